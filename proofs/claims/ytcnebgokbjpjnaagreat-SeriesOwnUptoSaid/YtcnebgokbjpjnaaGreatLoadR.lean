/- The document's series: Fork, Load. -/
import Derived.Test.YtcnebgokbjpjnaaGreatLoadP
import Derived.Test.YtcnebgokbjpjnaaGreatRser4
set_option linter.unusedVariables false
set_option linter.unusedSimpArgs false
set_option maxRecDepth 100000
namespace Go.Proofs.YtcnebgokbjpjnaaGreat
open Go

theorem rfork_ok {w : World} {g : Nat} {v : Value} {l : List Smp} (hS : RefAt w g v l) (hn : l.length ≤ 5864062014634) {R : VWK}
    (h : ∀ w' g' v', RefAt w' g' v' l → Grow w w' → w.heap.size ≤ g' → (∀ q, fpV v' q → w.heap.size ≤ q) → R (.pointer (some ⟨g', 0, none⟩)) w') :
    CallsV Tryz.prog 29 [.pointer (some ⟨g, 0, none⟩)] w R := by
  obtain ⟨A, c, rfl, hnc, hA⟩ := hS.row.form
  have ga := Grow.alloc w (.cells #[] 89)
  have hown : SRow (w.alloc (.cells #[] 89)) (.slice (some ⟨w.heap.size, 0, none⟩) 0 0) ([] : List Smp) := LRow.of_own (own_new w 89 3 0 #[] rfl (by simp [maxLen]))
  have hS1 := hS.grow ga
  have hp := hS1.cell
  have hsa : (w.alloc (.cells #[] 89)).heap.size = w.heap.size + 1 := by simp
  refine calls_of_wpC mixed Tryz.func29 rfl (by kernel_rfl) ?_
  intro e he
  have he0 := he 0
  simp only [List.getD_cons_zero, List.getD_cons_succ] at he0
  clear he
  try simp -dsimp only [↓RE,↓c_seq,RU,RL,if_true,if_false,forall_const,implies_true,Nat.reduceLeDiff,Nat.reduceLT,pureOp,binPure,intBin,strBin,eqPure,isConstO,unPure,sliceLo,sliceHi,slicePure,slice3Pure,lenPure,capPure,minPure,maxPure,buildP,resK,endV,yieldE,↓reduceIte,Nat.reduceEqDiff,reduceCtorEq,Nat.reduceAdd,Nat.reduceMul,Nat.reduceSub,Int.reduceLT,Int.reduceLE,Int.reduceToNat,Int.reduceAdd,Int.reduceSub,Int.reduceMul,ne_eq,decide_true,decide_false,tf29, he0, hp]
  refine app_smp (xs := []) hown hS1.row.rd (by simp; omega) (fun A1 c1 w1 hL1 k1 f1 => ?_)
  rw [List.nil_append, List.length_nil, Nat.zero_add] at hL1
  rw [List.length_nil, Nat.zero_add] at f1 ⊢
  have g1 : Grow w w1 := ga.above k1 (fun q hq e => by rw [fpV_some] at e; simp only at e; omega)
  have hf1 : ∀ q, fpV (.slice A1 l.length c1) q → w.heap.size ≤ q := fun q hq => by
    rcases f1 q hq with e | e
    · rw [fpV_some] at e; simp only at e; omega
    · omega
  have hb := Blk.new' w1 84 #[.slice A1 l.length c1]
  have g2 := Grow.alloc w1 (.cells #[.slice A1 l.length c1] 84)
  have hs1 := g1.size
  try simp -dsimp only [↓RE,↓c_seq,RU,RL,if_true,if_false,forall_const,implies_true,Nat.reduceLeDiff,Nat.reduceLT,pureOp,binPure,intBin,strBin,eqPure,isConstO,unPure,sliceLo,sliceHi,slicePure,slice3Pure,lenPure,capPure,minPure,maxPure,buildP,resK,endV,yieldE,↓reduceIte,Nat.reduceEqDiff,reduceCtorEq,Nat.reduceAdd,Nat.reduceMul,Nat.reduceSub,Int.reduceLT,Int.reduceLE,Int.reduceToNat,Int.reduceAdd,Int.reduceSub,Int.reduceMul,ne_eq,decide_true,decide_false,tf29, he0]
  exact h _ _ _ ⟨hb, hL1.grow g2, hS.rise⟩ (g1.trans g2) hs1 hf1
theorem rload_ok {w : World} {g : Nat} {v : Value} {l : List Smp} (hS : RefAt w g v l) {A : Option Addr} {n c : Nat} {xs : List Smp} (hX : Rd w A n 3 (xs.flatMap scells)) (hap : 0 < n → ∀ q, fpA A q → q ≠ g ∧ ¬ fpV v q) (hn : l.length + n ≤ 1000000000000) {R : VWK}
    (h : ∀ w' v' A' c', RefAt w' g v' (sLoad l xs) → Keep (fun i => i = g ∨ fpV v i) w w' → (∀ i, fpV v' i → fpV v i ∨ w.heap.size ≤ i) → DRow w' (.slice A' (loadD l xs).length c') (loadD l xs) → (∀ k, fpA A' k → w.heap.size ≤ k) → R (.slice A' (loadD l xs).length c') w') :
    CallsV Tryz.prog 12 [.pointer (some ⟨g, 0, none⟩), .slice A n c] w R := by
  have hxl := hX.flat3
  have hgl := hS.b.lt
  have hrl := hS.row.lt
  refine calls_of_wpC mixed Tryz.func12 rfl (by kernel_rfl) ?_
  intro e he
  have he0 := he 0
  have he1 := he 1
  simp only [List.getD_cons_zero, List.getD_cons_succ] at he0 he1
  clear he
  rw [c_seq]
  simp -dsimp only [↓RE,RU,RL,if_true,if_false,forall_const,implies_true,Nat.reduceLeDiff,Nat.reduceLT,pureOp,binPure,intBin,strBin,eqPure,isConstO,unPure,sliceLo,sliceHi,slicePure,slice3Pure,lenPure,capPure,minPure,maxPure,buildP,resK,endV,yieldE,↓reduceIte,Nat.reduceEqDiff,reduceCtorEq,Nat.reduceAdd,Nat.reduceMul,Nat.reduceSub,Int.reduceLT,Int.reduceLE,Int.reduceToNat,Int.reduceAdd,Int.reduceSub,Int.reduceMul,ne_eq,decide_true,decide_false,tf12, he0]
  rw [c_seq, c_seq]
  simp -dsimp only [↓RE,RU,RL,if_true,if_false,forall_const,implies_true,Nat.reduceLeDiff,Nat.reduceLT,pureOp,binPure,intBin,strBin,eqPure,isConstO,unPure,sliceLo,sliceHi,slicePure,slice3Pure,lenPure,capPure,minPure,maxPure,buildP,resK,endV,yieldE,↓reduceIte,Nat.reduceEqDiff,reduceCtorEq,Nat.reduceAdd,Nat.reduceMul,Nat.reduceSub,Int.reduceLT,Int.reduceLE,Int.reduceToNat,Int.reduceAdd,Int.reduceSub,Int.reduceMul,ne_eq,decide_true,decide_false,tf12, he0]
  rw [c_seq]
  simp -dsimp only [↓RE,RU,RL,if_true,if_false,forall_const,implies_true,Nat.reduceLeDiff,Nat.reduceLT,pureOp,binPure,intBin,strBin,eqPure,isConstO,unPure,sliceLo,sliceHi,slicePure,slice3Pure,lenPure,capPure,minPure,maxPure,buildP,resK,endV,yieldE,↓reduceIte,Nat.reduceEqDiff,reduceCtorEq,Nat.reduceAdd,Nat.reduceMul,Nat.reduceSub,Int.reduceLT,Int.reduceLE,Int.reduceToNat,Int.reduceAdd,Int.reduceSub,Int.reduceMul,ne_eq,decide_true,decide_false,tf12, he0]
  refine rfork_ok hS (by omega) (fun w1 gw vw hW1 g1 hgw hvw => ?_)
  have hS1 := hS.grow g1
  have hX1 := hX.grow g1
  have hs1 := g1.size
  have hgw1 := hW1.b.lt
  have hvw1 := hW1.row.lt
  simp -dsimp only [↓RE,RU,RL,if_true,if_false,forall_const,implies_true,Nat.reduceLeDiff,Nat.reduceLT,pureOp,binPure,intBin,strBin,eqPure,isConstO,unPure,sliceLo,sliceHi,slicePure,slice3Pure,lenPure,capPure,minPure,maxPure,buildP,resK,endV,yieldE,↓reduceIte,Nat.reduceEqDiff,reduceCtorEq,Nat.reduceAdd,Nat.reduceMul,Nat.reduceSub,Int.reduceLT,Int.reduceLE,Int.reduceToNat,Int.reduceAdd,Int.reduceSub,Int.reduceMul,ne_eq,decide_true,decide_false,tf12, he0]
  refine c_seq_cut (fun e' w' => e' 0 = .pointer (some ⟨g, 0, none⟩) ∧ e' 5 = .pointer (some ⟨gw, 0, none⟩) ∧ ∃ (v' : Value), RefAt w' g v' (sLoad l xs) ∧ (∀ q, fpV v' q → fpV v q ∨ w1.heap.size ≤ q) ∧ Keep (fun q => q = g ∨ fpV v q) w1 w') ?_ ?_
  · rw [c_seq]
    simp -dsimp only [↓RE,RU,RL,if_true,if_false,forall_const,implies_true,Nat.reduceLeDiff,Nat.reduceLT,pureOp,binPure,intBin,strBin,eqPure,isConstO,unPure,sliceLo,sliceHi,slicePure,slice3Pure,lenPure,capPure,minPure,maxPure,buildP,resK,endV,yieldE,↓reduceIte,Nat.reduceEqDiff,reduceCtorEq,Nat.reduceAdd,Nat.reduceMul,Nat.reduceSub,Int.reduceLT,Int.reduceLE,Int.reduceToNat,Int.reduceAdd,Int.reduceSub,Int.reduceMul,ne_eq,decide_true,decide_false,tf12, he0, he1]
    refine wpLoop_intro (fun e' w' => e' 0 = .pointer (some ⟨g, 0, none⟩) ∧ e' 1 = .slice A n c ∧ e' 5 = .pointer (some ⟨gw, 0, none⟩) ∧ ∃ (k : Nat) (v' : Value), k ≤ n ∧ e' 6 = .int .i64 k ∧ RefAt w' g v' (sLoad l (xs.take k)) ∧ (∀ q, fpV v' q → fpV v q ∨ w1.heap.size ≤ q) ∧ Keep (fun q => q = g ∨ fpV v q) w1 w')
      (fun e' _ => n - (envInt (e' 6)).toNat) ⟨?_, ?_, ?_, 0, v, Nat.zero_le _, ?_, hS1, fun q hq => .inl hq, Keep.refl _ _⟩ ?_
    · simp -dsimp only [↓RE,RU,RL,if_true,if_false,↓reduceIte,Nat.reduceEqDiff,reduceCtorEq,decide_true,decide_false, he0]
    · simp -dsimp only [↓RE,RU,RL,if_true,if_false,↓reduceIte,Nat.reduceEqDiff,reduceCtorEq,decide_true,decide_false, he1]
    · simp -dsimp only [↓RE,RU,RL,if_true,if_false,↓reduceIte,Nat.reduceEqDiff,reduceCtorEq,decide_true,decide_false, he1]
    · simp -dsimp only [↓RE,RU,RL,if_true,if_false,↓reduceIte,Nat.reduceEqDiff,reduceCtorEq,decide_true,decide_false, he0, Int.cast_ofNat_Int]
    clear he0 he1
    rintro e' w' ⟨he0, he1, he5, k, v', hk, he6, hS', hf', hK⟩
    rw [c_seq, c_seq]
    simp -dsimp only [↓RE,RU,RL,if_true,if_false,forall_const,implies_true,Nat.reduceLeDiff,Nat.reduceLT,pureOp,binPure,intBin,strBin,eqPure,isConstO,unPure,sliceLo,sliceHi,slicePure,slice3Pure,lenPure,capPure,minPure,maxPure,buildP,resK,endV,yieldE,↓reduceIte,Nat.reduceEqDiff,reduceCtorEq,Nat.reduceAdd,Nat.reduceMul,Nat.reduceSub,Int.reduceLT,Int.reduceLE,Int.reduceToNat,Int.reduceAdd,Int.reduceSub,Int.reduceMul,ne_eq,decide_true,decide_false,tf12, he1, he6]
    refine ⟨fun hlt => ?_, fun hge => ?_⟩
    · have hkn : k < n := by omega
      have hXk : Rd w' A n 3 (xs.flatMap scells) := hX1.keep0 hK (fun h0 q hq e => by
        obtain ⟨h1, h2⟩ := hap h0 q hq
        rcases e with e | e
        · exact h1 e
        · exact h2 e)
      obtain ⟨ad, rfl, hca, hcv, hcs⟩ := hXk.drew.smp (k := k) hkn
      have hw1 : IntKind.i64.wrap ((k : Int) + 1) = ((k + 1 : Nat) : Int) := by rw [wrap_i64_in (by omega) (by omega)]; omega
      have hls := sload_len (xs.take k) hS.rise
      rw [List.length_take] at hls
      have htk : (xs.take (k + 1)) = xs.take k ++ [xs.getD k (0, 0, 0)] := take_snoc _ (by omega)
      have hsl : sLoad l (xs.take (k + 1)) = sPut (sLoad l (xs.take k)) (xs.getD k (0, 0, 0)).1 (xs.getD k (0, 0, 0)).2 := by rw [htk, sLoad, List.foldl_append]; rfl
      generalize xs.getD k (0, 0, 0) = x at hca hcv hcs htk hsl
      rw [c_seq]
      simp -dsimp only [↓RE,RU,RL,if_true,if_false,forall_const,implies_true,Nat.reduceLeDiff,Nat.reduceLT,pureOp,binPure,intBin,strBin,eqPure,isConstO,unPure,sliceLo,sliceHi,slicePure,slice3Pure,lenPure,capPure,minPure,maxPure,buildP,resK,endV,yieldE,↓reduceIte,Nat.reduceEqDiff,reduceCtorEq,Nat.reduceAdd,Nat.reduceMul,Nat.reduceSub,Int.reduceLT,Int.reduceLE,Int.reduceToNat,Int.reduceAdd,Int.reduceSub,Int.reduceMul,ne_eq,decide_true,decide_false,tf12, he0]
      refine wpDraw_tail mixed 11 (by kernel_rfl) ?_
      simp -dsimp only [↓RE,RU,RL,if_true,if_false,forall_const,implies_true,Nat.reduceLeDiff,Nat.reduceLT,pureOp,binPure,intBin,strBin,eqPure,isConstO,unPure,sliceLo,sliceHi,slicePure,slice3Pure,lenPure,capPure,minPure,maxPure,buildP,resK,endV,yieldE,↓reduceIte,Nat.reduceEqDiff,reduceCtorEq,Nat.reduceAdd,Nat.reduceMul,Nat.reduceSub,Int.reduceLT,Int.reduceLE,Int.reduceToNat,Int.reduceAdd,Int.reduceSub,Int.reduceMul,ne_eq,decide_true,decide_false,tf12, he0, he1, he6, hca, add_zero']
      refine ⟨by omega, by omega, hcv ?_⟩
      simp -dsimp only [↓RE,RU,RL,if_true,if_false,forall_const,implies_true,Nat.reduceLeDiff,Nat.reduceLT,pureOp,binPure,intBin,strBin,eqPure,isConstO,unPure,sliceLo,sliceHi,slicePure,slice3Pure,lenPure,capPure,minPure,maxPure,buildP,resK,endV,yieldE,↓reduceIte,Nat.reduceEqDiff,reduceCtorEq,Nat.reduceAdd,Nat.reduceMul,Nat.reduceSub,Int.reduceLT,Int.reduceLE,Int.reduceToNat,Int.reduceAdd,Int.reduceSub,Int.reduceMul,ne_eq,decide_true,decide_false,tf12, he0]
      have gd := Grow.drew w'
      refine rput_ok (k := x.2.1) (x := x.2.2) (hS'.grow gd) (by omega) (fun w3 v3 hS3 k3 f3 => ?_)
      have hS3 : RefAt w3 g v3 (sLoad l (xs.take (k + 1))) := by rw [hsl]; exact hS3
      have hsk := hK.size
      have hsd : w'.drew.heap.size = w'.heap.size := rfl
      simp -dsimp only [↓RE,RU,RL,if_true,if_false,forall_const,implies_true,Nat.reduceLeDiff,Nat.reduceLT,pureOp,binPure,intBin,strBin,eqPure,isConstO,unPure,sliceLo,sliceHi,slicePure,slice3Pure,lenPure,capPure,minPure,maxPure,buildP,resK,endV,yieldE,↓reduceIte,Nat.reduceEqDiff,reduceCtorEq,Nat.reduceAdd,Nat.reduceMul,Nat.reduceSub,Int.reduceLT,Int.reduceLE,Int.reduceToNat,Int.reduceAdd,Int.reduceSub,Int.reduceMul,ne_eq,decide_true,decide_false,tf12, he6, hw1]
      refine hold_intro ⟨⟨by simp -dsimp only [↓RE,RU,RL,if_true,if_false,↓reduceIte,Nat.reduceEqDiff,reduceCtorEq,decide_true,decide_false, he0], by simp -dsimp only [↓RE,RU,RL,if_true,if_false,↓reduceIte,Nat.reduceEqDiff,reduceCtorEq,decide_true,decide_false, he1], by simp -dsimp only [↓RE,RU,RL,if_true,if_false,↓reduceIte,Nat.reduceEqDiff,reduceCtorEq,decide_true,decide_false, he5], k + 1, v3, by omega, by simp -dsimp only [↓RE,RU,RL,if_true,if_false,↓reduceIte,Nat.reduceEqDiff,reduceCtorEq,decide_true,decide_false, he6, hw1], hS3, fun q hq => ?_, (hK.then_grow gd).trans k3 (fun _ _ h => h) (fun q hq e => ?_)⟩, ?_⟩
      · rcases f3 q hq with e | e
        · exact hf' q e
        · right; omega
      · rcases e with e | e
        · exact .inl e
        · rcases hf' q e with e | e
          · exact .inr e
          · omega
      · simp -dsimp only [↓RE,RU,RL,if_true,if_false,↓reduceIte,Nat.reduceEqDiff,reduceCtorEq,decide_true,decide_false, he6, hw1]
        simp only [envInt_int]; omega
    · obtain rfl : k = n := by omega
      rw [← hxl, List.take_length] at hS'
      exact hold_intro ⟨by simp -dsimp only [↓RE,RU,RL,if_true,if_false,↓reduceIte,Nat.reduceEqDiff,reduceCtorEq,decide_true,decide_false, he0], by simp -dsimp only [↓RE,RU,RL,if_true,if_false,↓reduceIte,Nat.reduceEqDiff,reduceCtorEq,decide_true,decide_false, he5], v', hS', hf', hK⟩
  · clear he0 he1 e
    rintro e w2 ⟨he0, he5, v', hS2, hf2, hK⟩
    have hrs := Rise.load xs hS.rise
    have hls := sload_len xs hS.rise
    have hW2 : RefAt w2 gw vw l := hW1.keep hK (fun e => by
      rcases e with e | e
      · omega
      · have := hrl _ e; omega) (fun q hq e => by
      have h1 := hvw q hq
      rcases e with e | e
      · omega
      · have := hrl _ e; omega)
    have hs2 := hK.size
    rw [c_seq]
    simp -dsimp only [↓RE,RU,RL,if_true,if_false,forall_const,implies_true,Nat.reduceLeDiff,Nat.reduceLT,pureOp,binPure,intBin,strBin,eqPure,isConstO,unPure,sliceLo,sliceHi,slicePure,slice3Pure,lenPure,capPure,minPure,maxPure,buildP,resK,endV,yieldE,↓reduceIte,Nat.reduceEqDiff,reduceCtorEq,Nat.reduceAdd,Nat.reduceMul,Nat.reduceSub,Int.reduceLT,Int.reduceLE,Int.reduceToNat,Int.reduceAdd,Int.reduceSub,Int.reduceMul,ne_eq,decide_true,decide_false,tf12, he0]
    refine c_seq_cut (fun e' w' => ∃ (vd : Value), e' 7 = vd ∧ DRow w' vd (loadD l xs) ∧ (∀ q, fpV vd q → w2.heap.size ≤ q) ∧ Grow w2 w') ?_ ?_
    · rw [c_seq]
      simp -dsimp only [↓RE,RU,RL,if_true,if_false,forall_const,implies_true,Nat.reduceLeDiff,Nat.reduceLT,pureOp,binPure,intBin,strBin,eqPure,isConstO,unPure,sliceLo,sliceHi,slicePure,slice3Pure,lenPure,capPure,minPure,maxPure,buildP,resK,endV,yieldE,↓reduceIte,Nat.reduceEqDiff,reduceCtorEq,Nat.reduceAdd,Nat.reduceMul,Nat.reduceSub,Int.reduceLT,Int.reduceLE,Int.reduceToNat,Int.reduceAdd,Int.reduceSub,Int.reduceMul,ne_eq,decide_true,decide_false,tf12, he0]
      refine wpLoop_intro (fun e' w' => e' 0 = .pointer (some ⟨g, 0, none⟩) ∧ e' 5 = .pointer (some ⟨gw, 0, none⟩) ∧ ∃ (k : Nat) (vd : Value), k ≤ (sLoad l xs).length ∧ e' 8 = .int .i64 k ∧ e' 7 = vd ∧ DRow w' vd (((sLoad l xs).take k).flatMap (fun s => dOf l (sLoad l xs) s.1)) ∧ (((sLoad l xs).take k).flatMap (fun s => dOf l (sLoad l xs) s.1)).length ≤ k ∧ (∀ q, fpV vd q → w2.heap.size ≤ q) ∧ Grow w2 w')
        (fun e' _ => (sLoad l xs).length - (envInt (e' 8)).toNat) ⟨?_, ?_, 0, .slice none 0 0, Nat.zero_le _, ?_, ?_, LRow.nil _ _ _, Nat.le_refl _, fun q hq => (fpV_none _ hq).elim, Keep.refl _ _⟩ ?_
      · simp -dsimp only [↓RE,RU,RL,if_true,if_false,↓reduceIte,Nat.reduceEqDiff,reduceCtorEq,decide_true,decide_false, he0]
      · simp -dsimp only [↓RE,RU,RL,if_true,if_false,↓reduceIte,Nat.reduceEqDiff,reduceCtorEq,decide_true,decide_false, he5]
      · simp -dsimp only [↓RE,RU,RL,if_true,if_false,↓reduceIte,Nat.reduceEqDiff,reduceCtorEq,decide_true,decide_false, he0, Int.cast_ofNat_Int]
      · simp -dsimp only [↓RE,RU,RL,if_true,if_false,↓reduceIte,Nat.reduceEqDiff,reduceCtorEq,decide_true,decide_false, he0]
      clear he0 he5
      rintro e' w' ⟨he0, he5, k, vd, hk, he8, he7, hD, hDl, hfd, hg⟩
      obtain ⟨A', c', hv', _, _⟩ := hS2.row.form
      subst hv'
      have hS' := hS2.grow hg
      have hp := hS'.cell
      rw [c_seq, c_seq]
      simp -dsimp only [↓RE,RU,RL,if_true,if_false,forall_const,implies_true,Nat.reduceLeDiff,Nat.reduceLT,pureOp,binPure,intBin,strBin,eqPure,isConstO,unPure,sliceLo,sliceHi,slicePure,slice3Pure,lenPure,capPure,minPure,maxPure,buildP,resK,endV,yieldE,↓reduceIte,Nat.reduceEqDiff,reduceCtorEq,Nat.reduceAdd,Nat.reduceMul,Nat.reduceSub,Int.reduceLT,Int.reduceLE,Int.reduceToNat,Int.reduceAdd,Int.reduceSub,Int.reduceMul,ne_eq,decide_true,decide_false,tf12, he0, he8, hp]
      refine ⟨fun hlt => ?_, fun hge => ?_⟩
      · have hkn : k < (sLoad l xs).length := by omega
        obtain ⟨ad, hAd, hca, hcv, hcs⟩ := hS'.row.rd.smp (k := k) hkn
        subst hAd
        have hw1 : IntKind.i64.wrap ((k : Int) + 1) = ((k + 1 : Nat) : Int) := by rw [wrap_i64_in (by omega) (by omega)]; omega
        have htk : ((sLoad l xs).take (k + 1)).flatMap (fun s => dOf l (sLoad l xs) s.1) = ((sLoad l xs).take k).flatMap (fun s => dOf l (sLoad l xs) s.1) ++ dOf l (sLoad l xs) ((sLoad l xs).getD k (0, 0, 0)).1 := by
          rw [take_snoc (0, 0, 0) hkn, List.flatMap_append]; simp
        have hval : (sOld (sLoad l xs) ((sLoad l xs).getD k (0, 0, 0)).1) = ((sLoad l xs).getD k (0, 0, 0)).2 := by
          refine (oldHas ((get_some hrs).2 ?_)).1
          rw [getD_lt hkn]; exact List.getElem_mem _
        have hrdk := hS'.row.rd
        obtain ⟨Ad, cd, hvd, _, _⟩ := hD.form
        subst hvd
        generalize hDk : ((sLoad l xs).take k).flatMap (fun s => dOf l (sLoad l xs) s.1) = Dk at hD hDl htk he7 hfd
        rw [c_seq]
        simp -dsimp only [↓RE,RU,RL,if_true,if_false,forall_const,implies_true,Nat.reduceLeDiff,Nat.reduceLT,pureOp,binPure,intBin,strBin,eqPure,isConstO,unPure,sliceLo,sliceHi,slicePure,slice3Pure,lenPure,capPure,minPure,maxPure,buildP,resK,endV,yieldE,↓reduceIte,Nat.reduceEqDiff,reduceCtorEq,Nat.reduceAdd,Nat.reduceMul,Nat.reduceSub,Int.reduceLT,Int.reduceLE,Int.reduceToNat,Int.reduceAdd,Int.reduceSub,Int.reduceMul,ne_eq,decide_true,decide_false,tf12, he0]
        rw [c_seq]
        simp -dsimp only [↓RE,RU,RL,if_true,if_false,forall_const,implies_true,Nat.reduceLeDiff,Nat.reduceLT,pureOp,binPure,intBin,strBin,eqPure,isConstO,unPure,sliceLo,sliceHi,slicePure,slice3Pure,lenPure,capPure,minPure,maxPure,buildP,resK,endV,yieldE,↓reduceIte,Nat.reduceEqDiff,reduceCtorEq,Nat.reduceAdd,Nat.reduceMul,Nat.reduceSub,Int.reduceLT,Int.reduceLE,Int.reduceToNat,Int.reduceAdd,Int.reduceSub,Int.reduceMul,ne_eq,decide_true,decide_false,tf12, he0, he5, he8, hp, hca, add_zero']
        refine ⟨by omega, ?_⟩
        refine rget_ok (hW2.grow hg) (by omega) (fun w5 g5 => ?_)
        simp -dsimp only [↓RE,RU,RL,if_true,if_false,forall_const,implies_true,Nat.reduceLeDiff,Nat.reduceLT,pureOp,binPure,intBin,strBin,eqPure,isConstO,unPure,sliceLo,sliceHi,slicePure,slice3Pure,lenPure,capPure,minPure,maxPure,buildP,resK,endV,yieldE,↓reduceIte,Nat.reduceEqDiff,reduceCtorEq,Nat.reduceAdd,Nat.reduceMul,Nat.reduceSub,Int.reduceLT,Int.reduceLE,Int.reduceToNat,Int.reduceAdd,Int.reduceSub,Int.reduceMul,ne_eq,decide_true,decide_false,tf12, he5]
        refine new2 (fun w6 hb6 g6 => ?_) rfl rfl
        have g46 := (hg.trans g5).trans g6
        have gS6 := g5.trans g6
        have hS6 := hS'.grow gS6
        have rt : ∀ w0, Rd w0 (some ad) (sLoad l xs).length 3 ((sLoad l xs).flatMap scells) → w0.cell? (ad.add (k * 3)) = some (.int .i64 ((sLoad l xs).getD k (0, 0, 0)).1) := fun w0 h0 => by
          obtain ⟨ad', h1, h2, _⟩ := h0.smp hkn
          injection h1 with h1
          subst h1
          exact h2
        have rv : ∀ w0, Rd w0 (some ad) (sLoad l xs).length 3 ((sLoad l xs).flatMap scells) → ∀ (j : Nat) u, ([.int .u8 ((sLoad l xs).getD k (0, 0, 0)).2.1, .int .i64 ((sLoad l xs).getD k (0, 0, 0)).2.2] : List Value)[j]? = some u → w0.cell? (((ad.add (k * 3)).add 1).add j) = some u := fun w0 h0 j u hu => by
          have hgk : (sLoad l xs)[k]? = some ((sLoad l xs).getD k (0, 0, 0)) := by rw [List.getD_eq_getElem?_getD, List.getElem?_eq_getElem hkn]; rfl
          obtain ⟨_, ad', h1, h2⟩ := h0.flat (size := 3) (fun _ _ => rfl) hgk (by omega)
          injection h1 with h1
          subst h1
          rw [add_add', Nat.add_comm 1 j, ← add_add', add_add']
          exact h2 (j + 1) u (by simpa [scells] using hu)
        clear hca hcv hcs
        generalize (sLoad l xs).getD k (0, 0, 0) = x at htk hval rt rv hb6
        refine os_gen (fun e' => e' 0 = .pointer (some ⟨g, 0, none⟩) ∧ e' 5 = .pointer (some ⟨gw, 0, none⟩) ∧ e' 7 = .slice Ad Dk.length cd ∧ e' 8 = .int .i64 k ∧ e' 9 = .pointer (some ⟨w5.heap.size, 0, none⟩) ∧ e' 54 = .bool (sHas l x.1)) ⟨?_, ?_, ?_, ?_, ?_, ?_⟩ ?_
        · simp -dsimp only [↓RE,RU,RL,if_true,if_false,↓reduceIte,Nat.reduceEqDiff,reduceCtorEq,decide_true,decide_false, he0]
        · simp -dsimp only [↓RE,RU,RL,if_true,if_false,↓reduceIte,Nat.reduceEqDiff,reduceCtorEq,decide_true,decide_false, he5]
        · simp -dsimp only [↓RE,RU,RL,if_true,if_false,↓reduceIte,Nat.reduceEqDiff,reduceCtorEq,decide_true,decide_false, he7]
        · simp -dsimp only [↓RE,RU,RL,if_true,if_false,↓reduceIte,Nat.reduceEqDiff,reduceCtorEq,decide_true,decide_false, he8]
        · simp -dsimp only [↓RE,RU,RL,if_true,if_false,↓reduceIte,Nat.reduceEqDiff,reduceCtorEq,decide_true,decide_false, he0]
        · simp -dsimp only [↓RE,RU,RL,if_true,if_false,↓reduceIte,Nat.reduceEqDiff,reduceCtorEq,decide_true,decide_false, he0]
        have he8o := he8
        clear he0 he5 he7 he8
        rintro e ⟨he0, he5, he7, he8, he9, he54⟩
        have hp6 : w6.drew.cell? ⟨g, 0, none⟩ = some (.slice (some ad) (sLoad l xs).length c') := (hS6.grow (Grow.drew w6)).cell
        simp -dsimp only [↓RE,RU,RL,if_true,if_false,forall_const,implies_true,Nat.reduceLeDiff,Nat.reduceLT,pureOp,binPure,intBin,strBin,eqPure,isConstO,unPure,sliceLo,sliceHi,slicePure,slice3Pure,lenPure,capPure,minPure,maxPure,buildP,resK,endV,yieldE,↓reduceIte,Nat.reduceEqDiff,reduceCtorEq,Nat.reduceAdd,Nat.reduceMul,Nat.reduceSub,Int.reduceLT,Int.reduceLE,Int.reduceToNat,Int.reduceAdd,Int.reduceSub,Int.reduceMul,ne_eq,decide_true,decide_false,tf12, he54]
        rw [c_seq]
        simp -dsimp only [↓RE,RU,RL,if_true,if_false,forall_const,implies_true,Nat.reduceLeDiff,Nat.reduceLT,pureOp,binPure,intBin,strBin,eqPure,isConstO,unPure,sliceLo,sliceHi,slicePure,slice3Pure,lenPure,capPure,minPure,maxPure,buildP,resK,endV,yieldE,↓reduceIte,Nat.reduceEqDiff,reduceCtorEq,Nat.reduceAdd,Nat.reduceMul,Nat.reduceSub,Int.reduceLT,Int.reduceLE,Int.reduceToNat,Int.reduceAdd,Int.reduceSub,Int.reduceMul,ne_eq,decide_true,decide_false,tf12, he54]
        refine wpDraw_still (by kernel_rfl) ?_
        cases hh : sHas l x.1 with
        | false =>
          simp -dsimp only [↓RE,RU,RL,if_true,if_false,forall_const,implies_true,Nat.reduceLeDiff,Nat.reduceLT,pureOp,binPure,intBin,strBin,eqPure,isConstO,unPure,sliceLo,sliceHi,slicePure,slice3Pure,lenPure,capPure,minPure,maxPure,buildP,resK,endV,yieldE,↓reduceIte,Nat.reduceEqDiff,reduceCtorEq,Nat.reduceAdd,Nat.reduceMul,Nat.reduceSub,Int.reduceLT,Int.reduceLE,Int.reduceToNat,Int.reduceAdd,Int.reduceSub,Int.reduceMul,ne_eq,decide_true,decide_false,tf12, hh, undef]
          obtain ⟨w7, hw7⟩ : ∃ w7, w7 = w6.drew := ⟨_, rfl⟩
          have g7 : Grow w6 w7 := by rw [hw7]; exact Grow.drew w6
          have hS7 := hS6.grow g7
          have hb7 := hb6.grow g7
          have g27 := g46.trans g7
          rw [← hw7]
          have hdo : dOf l (sLoad l xs) x.1 = [⟨x.1, false, sOld l x.1, x.2⟩] := by rw [dOf, hval, if_pos (.inl hh), hh]
          rw [hdo] at htk
          refine wpDraw_by (fun w0 => w0.cell? ⟨g, 0, none⟩ = some (.slice (some ad) (sLoad l xs).length c') ∧ Blk w0 w5.heap.size 61 [.int .u8 (sOld l x.1).1, .int .i64 (sOld l x.1).2] ∧ Rd w0 (some ad) (sLoad l xs).length 3 ((sLoad l xs).flatMap scells)) [(0, true), (1, true), (2, true), (3, true), (4, true), (5, true), (6, true), (7, true), (8, true), (9, true), (10, true), (11, true), (12, true), (13, true), (14, true), (15, true), (16, true), (17, true), (18, true), (19, true), (20, false), (21, false), (22, true)] (by kernel_rfl) ⟨(hS7.grow (Grow.drew w7)).cell, hb7.drew, hS7.row.rd.drew⟩ ?_
          simp only [planL, List.getElem?_toArray, List.getElem?_cons_zero, List.getElem?_cons_succ, Option.toList_some, List.map_cons, List.map_nil, List.cons_append, List.nil_append]
          simp -dsimp only [↓RE,RU,RL,if_true,if_false,forall_const,implies_true,Nat.reduceLeDiff,Nat.reduceLT,pureOp,binPure,intBin,strBin,eqPure,isConstO,unPure,sliceLo,sliceHi,slicePure,slice3Pure,lenPure,capPure,minPure,maxPure,buildP,resK,endV,yieldE,↓reduceIte,Nat.reduceEqDiff,reduceCtorEq,Nat.reduceAdd,Nat.reduceMul,Nat.reduceSub,Int.reduceLT,Int.reduceLE,Int.reduceToNat,Int.reduceAdd,Int.reduceSub,Int.reduceMul,ne_eq,decide_true,decide_false,tf12, he0]
          refine ⟨_, fun w0 hw => hw.1, ?_⟩
          simp -dsimp only [↓RE,RU,RL,if_true,if_false,forall_const,implies_true,Nat.reduceLeDiff,Nat.reduceLT,pureOp,binPure,intBin,strBin,eqPure,isConstO,unPure,sliceLo,sliceHi,slicePure,slice3Pure,lenPure,capPure,minPure,maxPure,buildP,resK,endV,yieldE,↓reduceIte,Nat.reduceEqDiff,reduceCtorEq,Nat.reduceAdd,Nat.reduceMul,Nat.reduceSub,Int.reduceLT,Int.reduceLE,Int.reduceToNat,Int.reduceAdd,Int.reduceSub,Int.reduceMul,ne_eq,decide_true,decide_false,tf12, he0, he8, add_zero']
          refine ⟨by omega, _, fun w0 hw => rt w0 hw.2.2, ?_⟩
          simp -dsimp only [↓RE,RU,RL,if_true,if_false,forall_const,implies_true,Nat.reduceLeDiff,Nat.reduceLT,pureOp,binPure,intBin,strBin,eqPure,isConstO,unPure,sliceLo,sliceHi,slicePure,slice3Pure,lenPure,capPure,minPure,maxPure,buildP,resK,endV,yieldE,↓reduceIte,Nat.reduceEqDiff,reduceCtorEq,Nat.reduceAdd,Nat.reduceMul,Nat.reduceSub,Int.reduceLT,Int.reduceLE,Int.reduceToNat,Int.reduceAdd,Int.reduceSub,Int.reduceMul,ne_eq,decide_true,decide_false,tf12, he0, he9]
          refine ⟨[.int .u8 (sOld l x.1).1, .int .i64 (sOld l x.1).2], rfl, fun w0 hw j u hu => by rw [add_lit', Nat.zero_add, hw.2.1.cell]; exact hu, ?_⟩
          simp -dsimp only [↓RE,RU,RL,if_true,if_false,forall_const,implies_true,Nat.reduceLeDiff,Nat.reduceLT,pureOp,binPure,intBin,strBin,eqPure,isConstO,unPure,sliceLo,sliceHi,slicePure,slice3Pure,lenPure,capPure,minPure,maxPure,buildP,resK,endV,yieldE,↓reduceIte,Nat.reduceEqDiff,reduceCtorEq,Nat.reduceAdd,Nat.reduceMul,Nat.reduceSub,Int.reduceLT,Int.reduceLE,Int.reduceToNat,Int.reduceAdd,Int.reduceSub,Int.reduceMul,ne_eq,decide_true,decide_false,tf12, he0, he9]
          refine ⟨_, fun w0 hw => hw.1, ?_⟩
          simp -dsimp only [↓RE,RU,RL,if_true,if_false,forall_const,implies_true,Nat.reduceLeDiff,Nat.reduceLT,pureOp,binPure,intBin,strBin,eqPure,isConstO,unPure,sliceLo,sliceHi,slicePure,slice3Pure,lenPure,capPure,minPure,maxPure,buildP,resK,endV,yieldE,↓reduceIte,Nat.reduceEqDiff,reduceCtorEq,Nat.reduceAdd,Nat.reduceMul,Nat.reduceSub,Int.reduceLT,Int.reduceLE,Int.reduceToNat,Int.reduceAdd,Int.reduceSub,Int.reduceMul,ne_eq,decide_true,decide_false,tf12, he0, he8, add_zero']
          refine ⟨by omega, [.int .u8 x.2.1, .int .i64 x.2.2], rfl, fun w0 hw j u hu => rv w0 hw.2.2 j u hu, ?_⟩
          simp -dsimp only [↓RE,RU,RL,if_true,if_false,forall_const,implies_true,Nat.reduceLeDiff,Nat.reduceLT,pureOp,binPure,intBin,strBin,eqPure,isConstO,unPure,sliceLo,sliceHi,slicePure,slice3Pure,lenPure,capPure,minPure,maxPure,buildP,resK,endV,yieldE,↓reduceIte,Nat.reduceEqDiff,reduceCtorEq,Nat.reduceAdd,Nat.reduceMul,Nat.reduceSub,Int.reduceLT,Int.reduceLE,Int.reduceToNat,Int.reduceAdd,Int.reduceSub,Int.reduceMul,ne_eq,decide_true,decide_false,tf12, he7, he9, he8]
          have hbx := Blk.new' w7.drew 95 (dcells ⟨x.1, false, sOld l x.1, x.2⟩).toArray
          have gx : Grow w7 (w7.drew.alloc (.cells (dcells ⟨x.1, false, sOld l x.1, x.2⟩).toArray 95)) := (Grow.drew w7).trans (Grow.alloc _ _)
          have hSx := hS7.grow gx
          have hbxx := hb7.grow gx
          have hDx := hD.grow ((gS6.trans g7).trans gx)
          refine ⟨⟨hSx.cell, hbxx, hSx.row.rd⟩, ?_⟩
          refine app_dlt (d := ⟨x.1, false, sOld l x.1, x.2⟩) hDx hbx (by omega) (fun A9 c9 w9 hD9 k9 f9 => ?_)
          have hS9 := hSx.keep k9 (fun e => hDx.blk_ne hSx.b (by decide) e) (fun q hq e => hDx.ne hSx.row (by decide) q e hq)
          have hb9 := hbxx.keep k9 (fun e => hDx.blk_ne hbxx (by decide) e)
          have hsx := (g27.trans gx).size
          have hlD : (Dk ++ [(⟨x.1, false, sOld l x.1, x.2⟩ : Dlt)]).length = Dk.length + 1 := by rw [List.length_append]; rfl
          rw [← htk] at hD9 hlD
          refine ⟨⟨hS9.cell, hb9, hS9.row.rd⟩, ?_⟩
          try simp -dsimp only [↓RE,↓c_seq,RU,RL,if_true,if_false,forall_const,implies_true,Nat.reduceLeDiff,Nat.reduceLT,pureOp,binPure,intBin,strBin,eqPure,isConstO,unPure,sliceLo,sliceHi,slicePure,slice3Pure,lenPure,capPure,minPure,maxPure,buildP,resK,endV,yieldE,↓reduceIte,Nat.reduceEqDiff,reduceCtorEq,Nat.reduceAdd,Nat.reduceMul,Nat.reduceSub,Int.reduceLT,Int.reduceLE,Int.reduceToNat,Int.reduceAdd,Int.reduceSub,Int.reduceMul,ne_eq,decide_true,decide_false,tf12, he8, hw1]
          refine hold_intro ⟨⟨by simp -dsimp only [↓RE,RU,RL,if_true,if_false,↓reduceIte,Nat.reduceEqDiff,reduceCtorEq,decide_true,decide_false, he0], by simp -dsimp only [↓RE,RU,RL,if_true,if_false,↓reduceIte,Nat.reduceEqDiff,reduceCtorEq,decide_true,decide_false, he5], k + 1, _, by omega, by simp -dsimp only [↓RE,RU,RL,if_true,if_false,↓reduceIte,Nat.reduceEqDiff,reduceCtorEq,decide_true,decide_false, he8, hw1], by simp -dsimp only [↓RE,RU,RL,if_true,if_false,↓reduceIte,Nat.reduceEqDiff,reduceCtorEq,decide_true,decide_false, he7], hD9, by rw [hlD]; omega, fun q hq => (f9 q hq).elim (hfd q) (fun e => by omega), (g27.trans gx).above k9 (fun q hq e => by have := hfd q e; omega)⟩, ?_⟩
          simp -dsimp only [↓RE,↓c_seq,RU,RL,if_true,if_false,forall_const,implies_true,Nat.reduceLeDiff,Nat.reduceLT,pureOp,binPure,intBin,strBin,eqPure,isConstO,unPure,sliceLo,sliceHi,slicePure,slice3Pure,lenPure,capPure,minPure,maxPure,buildP,resK,endV,yieldE,↓reduceIte,Nat.reduceEqDiff,reduceCtorEq,Nat.reduceAdd,Nat.reduceMul,Nat.reduceSub,Int.reduceLT,Int.reduceLE,Int.reduceToNat,Int.reduceAdd,Int.reduceSub,Int.reduceMul,ne_eq,decide_true,decide_false,tf12, he8o, he8, hw1]
          simp only [envInt_int]; omega
        | true =>
          simp -dsimp only [↓RE,RU,RL,if_true,if_false,forall_const,implies_true,Nat.reduceLeDiff,Nat.reduceLT,pureOp,binPure,intBin,strBin,eqPure,isConstO,unPure,sliceLo,sliceHi,slicePure,slice3Pure,lenPure,capPure,minPure,maxPure,buildP,resK,endV,yieldE,↓reduceIte,Nat.reduceEqDiff,reduceCtorEq,Nat.reduceAdd,Nat.reduceMul,Nat.reduceSub,Int.reduceLT,Int.reduceLE,Int.reduceToNat,Int.reduceAdd,Int.reduceSub,Int.reduceMul,ne_eq,decide_true,decide_false,tf12, he9, hh]
          refine blk_agg2 hb6.drew ?_
          simp -dsimp only [↓RE,RU,RL,if_true,if_false,forall_const,implies_true,Nat.reduceLeDiff,Nat.reduceLT,pureOp,binPure,intBin,strBin,eqPure,isConstO,unPure,sliceLo,sliceHi,slicePure,slice3Pure,lenPure,capPure,minPure,maxPure,buildP,resK,endV,yieldE,↓reduceIte,Nat.reduceEqDiff,reduceCtorEq,Nat.reduceAdd,Nat.reduceMul,Nat.reduceSub,Int.reduceLT,Int.reduceLE,Int.reduceToNat,Int.reduceAdd,Int.reduceSub,Int.reduceMul,ne_eq,decide_true,decide_false,tf12, he0, he8, he9, hh, hp6]
          refine ⟨by omega, ?_⟩
          refine ⟨[.int .u8 x.2.1, .int .i64 x.2.2], rfl, fun j u hu => rv _ hS6.row.rd.drew j u hu, ?_⟩
          simp -dsimp only [↓RE,RU,RL,if_true,if_false,forall_const,implies_true,Nat.reduceLeDiff,Nat.reduceLT,pureOp,binPure,intBin,strBin,eqPure,isConstO,unPure,sliceLo,sliceHi,slicePure,slice3Pure,lenPure,capPure,minPure,maxPure,buildP,resK,endV,yieldE,↓reduceIte,Nat.reduceEqDiff,reduceCtorEq,Nat.reduceAdd,Nat.reduceMul,Nat.reduceSub,Int.reduceLT,Int.reduceLE,Int.reduceToNat,Int.reduceAdd,Int.reduceSub,Int.reduceMul,ne_eq,decide_true,decide_false,tf12, he0, he8, he9, hh, hp6, Option.map_some]
          obtain ⟨w7, hw7⟩ : ∃ w7, w7 = w6.drew := ⟨_, rfl⟩
          have g7 : Grow w6 w7 := by rw [hw7]; exact Grow.drew w6
          have hS7 := hS6.grow g7
          have hb7 := hb6.grow g7
          have g27 := g46.trans g7
          rw [← hw7]
          refine ⟨fun hne => ?_, fun heq => ?_⟩
          · have hne' : sOld l x.1 ≠ x.2 := fun e => hne (by rw [e]; exact ⟨rfl, rfl⟩)
            try simp -dsimp only [↓RE,↓c_seq,RU,RL,if_true,if_false,forall_const,implies_true,Nat.reduceLeDiff,Nat.reduceLT,pureOp,binPure,intBin,strBin,eqPure,isConstO,unPure,sliceLo,sliceHi,slicePure,slice3Pure,lenPure,capPure,minPure,maxPure,buildP,resK,endV,yieldE,↓reduceIte,Nat.reduceEqDiff,reduceCtorEq,Nat.reduceAdd,Nat.reduceMul,Nat.reduceSub,Int.reduceLT,Int.reduceLE,Int.reduceToNat,Int.reduceAdd,Int.reduceSub,Int.reduceMul,ne_eq,decide_true,decide_false,tf12, he0]
            have hdo : dOf l (sLoad l xs) x.1 = [⟨x.1, true, sOld l x.1, x.2⟩] := by rw [dOf, hval, if_pos (.inr hne'), hh]
            rw [hdo] at htk
            refine wpDraw_by (fun w0 => w0.cell? ⟨g, 0, none⟩ = some (.slice (some ad) (sLoad l xs).length c') ∧ Blk w0 w5.heap.size 61 [.int .u8 (sOld l x.1).1, .int .i64 (sOld l x.1).2] ∧ Rd w0 (some ad) (sLoad l xs).length 3 ((sLoad l xs).flatMap scells)) [(0, true), (1, true), (2, true), (3, true), (4, true), (5, true), (6, true), (7, true), (8, true), (9, true), (10, true), (11, true), (12, true), (13, true), (14, true), (15, true), (16, true), (17, true), (18, true), (19, true), (20, false), (21, false), (22, true)] (by kernel_rfl) ⟨(hS7.grow (Grow.drew w7)).cell, hb7.drew, hS7.row.rd.drew⟩ ?_
            simp only [planL, List.getElem?_toArray, List.getElem?_cons_zero, List.getElem?_cons_succ, Option.toList_some, List.map_cons, List.map_nil, List.cons_append, List.nil_append]
            simp -dsimp only [↓RE,RU,RL,if_true,if_false,forall_const,implies_true,Nat.reduceLeDiff,Nat.reduceLT,pureOp,binPure,intBin,strBin,eqPure,isConstO,unPure,sliceLo,sliceHi,slicePure,slice3Pure,lenPure,capPure,minPure,maxPure,buildP,resK,endV,yieldE,↓reduceIte,Nat.reduceEqDiff,reduceCtorEq,Nat.reduceAdd,Nat.reduceMul,Nat.reduceSub,Int.reduceLT,Int.reduceLE,Int.reduceToNat,Int.reduceAdd,Int.reduceSub,Int.reduceMul,ne_eq,decide_true,decide_false,tf12, he0]
            refine ⟨_, fun w0 hw => hw.1, ?_⟩
            simp -dsimp only [↓RE,RU,RL,if_true,if_false,forall_const,implies_true,Nat.reduceLeDiff,Nat.reduceLT,pureOp,binPure,intBin,strBin,eqPure,isConstO,unPure,sliceLo,sliceHi,slicePure,slice3Pure,lenPure,capPure,minPure,maxPure,buildP,resK,endV,yieldE,↓reduceIte,Nat.reduceEqDiff,reduceCtorEq,Nat.reduceAdd,Nat.reduceMul,Nat.reduceSub,Int.reduceLT,Int.reduceLE,Int.reduceToNat,Int.reduceAdd,Int.reduceSub,Int.reduceMul,ne_eq,decide_true,decide_false,tf12, he0, he8, add_zero']
            refine ⟨by omega, _, fun w0 hw => rt w0 hw.2.2, ?_⟩
            simp -dsimp only [↓RE,RU,RL,if_true,if_false,forall_const,implies_true,Nat.reduceLeDiff,Nat.reduceLT,pureOp,binPure,intBin,strBin,eqPure,isConstO,unPure,sliceLo,sliceHi,slicePure,slice3Pure,lenPure,capPure,minPure,maxPure,buildP,resK,endV,yieldE,↓reduceIte,Nat.reduceEqDiff,reduceCtorEq,Nat.reduceAdd,Nat.reduceMul,Nat.reduceSub,Int.reduceLT,Int.reduceLE,Int.reduceToNat,Int.reduceAdd,Int.reduceSub,Int.reduceMul,ne_eq,decide_true,decide_false,tf12, he0, he9]
            refine ⟨[.int .u8 (sOld l x.1).1, .int .i64 (sOld l x.1).2], rfl, fun w0 hw j u hu => by rw [add_lit', Nat.zero_add, hw.2.1.cell]; exact hu, ?_⟩
            simp -dsimp only [↓RE,RU,RL,if_true,if_false,forall_const,implies_true,Nat.reduceLeDiff,Nat.reduceLT,pureOp,binPure,intBin,strBin,eqPure,isConstO,unPure,sliceLo,sliceHi,slicePure,slice3Pure,lenPure,capPure,minPure,maxPure,buildP,resK,endV,yieldE,↓reduceIte,Nat.reduceEqDiff,reduceCtorEq,Nat.reduceAdd,Nat.reduceMul,Nat.reduceSub,Int.reduceLT,Int.reduceLE,Int.reduceToNat,Int.reduceAdd,Int.reduceSub,Int.reduceMul,ne_eq,decide_true,decide_false,tf12, he0, he9]
            refine ⟨_, fun w0 hw => hw.1, ?_⟩
            simp -dsimp only [↓RE,RU,RL,if_true,if_false,forall_const,implies_true,Nat.reduceLeDiff,Nat.reduceLT,pureOp,binPure,intBin,strBin,eqPure,isConstO,unPure,sliceLo,sliceHi,slicePure,slice3Pure,lenPure,capPure,minPure,maxPure,buildP,resK,endV,yieldE,↓reduceIte,Nat.reduceEqDiff,reduceCtorEq,Nat.reduceAdd,Nat.reduceMul,Nat.reduceSub,Int.reduceLT,Int.reduceLE,Int.reduceToNat,Int.reduceAdd,Int.reduceSub,Int.reduceMul,ne_eq,decide_true,decide_false,tf12, he0, he8, add_zero']
            refine ⟨by omega, [.int .u8 x.2.1, .int .i64 x.2.2], rfl, fun w0 hw j u hu => rv w0 hw.2.2 j u hu, ?_⟩
            simp -dsimp only [↓RE,RU,RL,if_true,if_false,forall_const,implies_true,Nat.reduceLeDiff,Nat.reduceLT,pureOp,binPure,intBin,strBin,eqPure,isConstO,unPure,sliceLo,sliceHi,slicePure,slice3Pure,lenPure,capPure,minPure,maxPure,buildP,resK,endV,yieldE,↓reduceIte,Nat.reduceEqDiff,reduceCtorEq,Nat.reduceAdd,Nat.reduceMul,Nat.reduceSub,Int.reduceLT,Int.reduceLE,Int.reduceToNat,Int.reduceAdd,Int.reduceSub,Int.reduceMul,ne_eq,decide_true,decide_false,tf12, he7, he9, he8]
            have hbx := Blk.new' w7.drew 95 (dcells ⟨x.1, true, sOld l x.1, x.2⟩).toArray
            have gx : Grow w7 (w7.drew.alloc (.cells (dcells ⟨x.1, true, sOld l x.1, x.2⟩).toArray 95)) := (Grow.drew w7).trans (Grow.alloc _ _)
            have hSx := hS7.grow gx
            have hbxx := hb7.grow gx
            have hDx := hD.grow ((gS6.trans g7).trans gx)
            refine ⟨⟨hSx.cell, hbxx, hSx.row.rd⟩, ?_⟩
            refine app_dlt (d := ⟨x.1, true, sOld l x.1, x.2⟩) hDx hbx (by omega) (fun A9 c9 w9 hD9 k9 f9 => ?_)
            have hS9 := hSx.keep k9 (fun e => hDx.blk_ne hSx.b (by decide) e) (fun q hq e => hDx.ne hSx.row (by decide) q e hq)
            have hb9 := hbxx.keep k9 (fun e => hDx.blk_ne hbxx (by decide) e)
            have hsx := (g27.trans gx).size
            have hlD : (Dk ++ [(⟨x.1, true, sOld l x.1, x.2⟩ : Dlt)]).length = Dk.length + 1 := by rw [List.length_append]; rfl
            rw [← htk] at hD9 hlD
            refine ⟨⟨hS9.cell, hb9, hS9.row.rd⟩, ?_⟩
            try simp -dsimp only [↓RE,↓c_seq,RU,RL,if_true,if_false,forall_const,implies_true,Nat.reduceLeDiff,Nat.reduceLT,pureOp,binPure,intBin,strBin,eqPure,isConstO,unPure,sliceLo,sliceHi,slicePure,slice3Pure,lenPure,capPure,minPure,maxPure,buildP,resK,endV,yieldE,↓reduceIte,Nat.reduceEqDiff,reduceCtorEq,Nat.reduceAdd,Nat.reduceMul,Nat.reduceSub,Int.reduceLT,Int.reduceLE,Int.reduceToNat,Int.reduceAdd,Int.reduceSub,Int.reduceMul,ne_eq,decide_true,decide_false,tf12, he8, hw1]
            refine hold_intro ⟨⟨by simp -dsimp only [↓RE,RU,RL,if_true,if_false,↓reduceIte,Nat.reduceEqDiff,reduceCtorEq,decide_true,decide_false, he0], by simp -dsimp only [↓RE,RU,RL,if_true,if_false,↓reduceIte,Nat.reduceEqDiff,reduceCtorEq,decide_true,decide_false, he5], k + 1, _, by omega, by simp -dsimp only [↓RE,RU,RL,if_true,if_false,↓reduceIte,Nat.reduceEqDiff,reduceCtorEq,decide_true,decide_false, he8, hw1], by simp -dsimp only [↓RE,RU,RL,if_true,if_false,↓reduceIte,Nat.reduceEqDiff,reduceCtorEq,decide_true,decide_false, he7], hD9, by rw [hlD]; omega, fun q hq => (f9 q hq).elim (hfd q) (fun e => by omega), (g27.trans gx).above k9 (fun q hq e => by have := hfd q e; omega)⟩, ?_⟩
            simp -dsimp only [↓RE,↓c_seq,RU,RL,if_true,if_false,forall_const,implies_true,Nat.reduceLeDiff,Nat.reduceLT,pureOp,binPure,intBin,strBin,eqPure,isConstO,unPure,sliceLo,sliceHi,slicePure,slice3Pure,lenPure,capPure,minPure,maxPure,buildP,resK,endV,yieldE,↓reduceIte,Nat.reduceEqDiff,reduceCtorEq,Nat.reduceAdd,Nat.reduceMul,Nat.reduceSub,Int.reduceLT,Int.reduceLE,Int.reduceToNat,Int.reduceAdd,Int.reduceSub,Int.reduceMul,ne_eq,decide_true,decide_false,tf12, he8o, he8, hw1]
            simp only [envInt_int]; omega
          · have heq' : sOld l x.1 = x.2 := by
              have h2 : (sOld l x.1).1 = x.2.1 ∧ (sOld l x.1).2 = x.2.2 := by first | exact heq | exact Classical.not_not.1 heq
              exact Prod.ext h2.1 h2.2
            have hdo : dOf l (sLoad l xs) x.1 = [] := by rw [dOf, hval, if_neg (by rw [hh]; simp [heq'])]
            rw [hdo, List.append_nil] at htk
            rw [← htk] at hD hDl hfd he7
            try simp -dsimp only [↓RE,↓c_seq,RU,RL,if_true,if_false,forall_const,implies_true,Nat.reduceLeDiff,Nat.reduceLT,pureOp,binPure,intBin,strBin,eqPure,isConstO,unPure,sliceLo,sliceHi,slicePure,slice3Pure,lenPure,capPure,minPure,maxPure,buildP,resK,endV,yieldE,↓reduceIte,Nat.reduceEqDiff,reduceCtorEq,Nat.reduceAdd,Nat.reduceMul,Nat.reduceSub,Int.reduceLT,Int.reduceLE,Int.reduceToNat,Int.reduceAdd,Int.reduceSub,Int.reduceMul,ne_eq,decide_true,decide_false,tf12, he8, hw1]
            refine hold_intro ⟨⟨by simp -dsimp only [↓RE,RU,RL,if_true,if_false,↓reduceIte,Nat.reduceEqDiff,reduceCtorEq,decide_true,decide_false, he0], by simp -dsimp only [↓RE,RU,RL,if_true,if_false,↓reduceIte,Nat.reduceEqDiff,reduceCtorEq,decide_true,decide_false, he5], k + 1, _, by omega, by simp -dsimp only [↓RE,RU,RL,if_true,if_false,↓reduceIte,Nat.reduceEqDiff,reduceCtorEq,decide_true,decide_false, he8, hw1], by simp -dsimp only [↓RE,RU,RL,if_true,if_false,↓reduceIte,Nat.reduceEqDiff,reduceCtorEq,decide_true,decide_false, he7], hD.grow (gS6.trans g7), by omega, hfd, g27⟩, ?_⟩
            simp -dsimp only [↓RE,↓c_seq,RU,RL,if_true,if_false,forall_const,implies_true,Nat.reduceLeDiff,Nat.reduceLT,pureOp,binPure,intBin,strBin,eqPure,isConstO,unPure,sliceLo,sliceHi,slicePure,slice3Pure,lenPure,capPure,minPure,maxPure,buildP,resK,endV,yieldE,↓reduceIte,Nat.reduceEqDiff,reduceCtorEq,Nat.reduceAdd,Nat.reduceMul,Nat.reduceSub,Int.reduceLT,Int.reduceLE,Int.reduceToNat,Int.reduceAdd,Int.reduceSub,Int.reduceMul,ne_eq,decide_true,decide_false,tf12, he8o, he8, hw1]
            simp only [envInt_int]; omega
      · obtain rfl : k = (sLoad l xs).length := by omega
        rw [List.take_length, loadD_eq hS.rise] at hD
        exact hold_intro ⟨vd, by simp -dsimp only [↓RE,RU,RL,if_true,if_false,↓reduceIte,Nat.reduceEqDiff,reduceCtorEq,decide_true,decide_false, he7], hD, hfd, hg⟩
    · clear he0 he5
      rintro e w' ⟨vd, he7, hD5, hfd5, hg5⟩
      obtain ⟨Ad, cd, hvd, _, _⟩ := hD5.form
      subst hvd
      rw [c_seq]
      simp -dsimp only [↓RE,RU,RL,if_true,if_false,forall_const,implies_true,Nat.reduceLeDiff,Nat.reduceLT,pureOp,binPure,intBin,strBin,eqPure,isConstO,unPure,sliceLo,sliceHi,slicePure,slice3Pure,lenPure,capPure,minPure,maxPure,buildP,resK,endV,yieldE,↓reduceIte,Nat.reduceEqDiff,reduceCtorEq,Nat.reduceAdd,Nat.reduceMul,Nat.reduceSub,Int.reduceLT,Int.reduceLE,Int.reduceToNat,Int.reduceAdd,Int.reduceSub,Int.reduceMul,ne_eq,decide_true,decide_false,tf12, he7]
      refine h w' v' Ad cd (hS2.grow hg5) (g1.above' (hK.then_grow hg5) (fun _ _ h => h)) (fun q hq => (hf2 q hq).imp id (fun e => by omega)) hD5 (fun q hq => by have := hfd5 q ((fpV_fpA _ _ _ _).2 hq); omega)

end Go.Proofs.YtcnebgokbjpjnaaGreat
