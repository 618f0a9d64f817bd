/- The program's series: Fork, Load. -/
import Derived.Test.YtcnebgokbjpjnaaGreatLdSpec
import Derived.Test.YtcnebgokbjpjnaaGreatNewA
set_option linter.unusedVariables false
set_option linter.unusedSimpArgs false
set_option maxRecDepth 100000
namespace Go.Proofs.YtcnebgokbjpjnaaGreat
open Go

theorem fork_ok {w : World} {g : Nat} {v : Value} {l : List Smp} (hS : SerAt w g v l) (hn : l.length ≤ 5864062014634) {R : VWK}
    (h : ∀ w' g' v', SerAt w' g' v' l → Grow w w' → w.heap.size ≤ g' → (∀ q, fpV v' q → w.heap.size ≤ q) → R (.pointer (some ⟨g', 0, none⟩)) w') :
    CallsV Tryz.prog 26 [.pointer (some ⟨g, 0, none⟩)] w R := by
  obtain ⟨A, c, rfl, hnc, hA⟩ := hS.row.form
  have hp := hS.cell
  refine calls_of_wpC mixed Tryz.func26 rfl (by kernel_rfl) ?_
  intro e he
  have he0 := he 0
  simp only [List.getD_cons_zero, List.getD_cons_succ] at he0
  clear he
  try simp -dsimp only [↓RE,↓c_seq,RU,RL,if_true,if_false,forall_const,implies_true,Nat.reduceLeDiff,Nat.reduceLT,pureOp,binPure,intBin,strBin,eqPure,isConstO,unPure,sliceLo,sliceHi,slicePure,slice3Pure,lenPure,capPure,minPure,maxPure,buildP,resK,endV,yieldE,↓reduceIte,Nat.reduceEqDiff,reduceCtorEq,Nat.reduceAdd,Nat.reduceMul,Nat.reduceSub,Int.reduceLT,Int.reduceLE,Int.reduceToNat,Int.reduceAdd,Int.reduceSub,Int.reduceMul,ne_eq,decide_true,decide_false,tf26, he0, hp]
  refine sclone_ok (n := l.length) hS.row.rd hn (fun w1 A1 c1 hL1 g1 hF1 _ => ?_)
  have hb := Blk.new' w1 82 #[.slice A1 l.length c1]
  have g2 := Grow.alloc w1 (.cells #[.slice A1 l.length c1] 82)
  have hs1 := g1.size
  try simp -dsimp only [↓RE,↓c_seq,RU,RL,if_true,if_false,forall_const,implies_true,Nat.reduceLeDiff,Nat.reduceLT,pureOp,binPure,intBin,strBin,eqPure,isConstO,unPure,sliceLo,sliceHi,slicePure,slice3Pure,lenPure,capPure,minPure,maxPure,buildP,resK,endV,yieldE,↓reduceIte,Nat.reduceEqDiff,reduceCtorEq,Nat.reduceAdd,Nat.reduceMul,Nat.reduceSub,Int.reduceLT,Int.reduceLE,Int.reduceToNat,Int.reduceAdd,Int.reduceSub,Int.reduceMul,ne_eq,decide_true,decide_false,tf26, he0]
  exact h _ _ _ ⟨hb, hL1.grow g2, hS.rise⟩ (g1.trans g2) hs1 (fun q hq => hF1 q ((fpV_fpA _ _ _ _).1 hq))
/-- a row of deltas of one's own. -/
abbrev DRow (w : World) (v : Value) (D : List Dlt) : Prop := LRow w 95 10 v D.length (D.flatMap dcells)
theorem dcells_one : ∀ (D : List Dlt), ∀ u ∈ D.flatMap dcells, u.oneCell' = true := by
  intro D u hu
  obtain ⟨d, _, hd⟩ := List.mem_flatMap.1 hu
  simp only [dcells, List.mem_cons, List.not_mem_nil, or_false] at hd
  rcases hd with rfl | rfl | rfl | rfl | rfl | rfl | rfl | rfl | rfl | rfl <;> rfl
theorem app_dlt {w : World} {v : Value} {D : List Dlt} (h : DRow w v D) {d : Dlt} {B cv : Nat} (hB : Blk w B 95 (dcells d)) (hb : D.length < 1200000000000) {K : VWK} {tk : Tok K} {ty : TypeId}
    (hK : ∀ A' c' w', DRow w' (.slice A' (D.length + 1) c') (D ++ [d]) → Keep (fpV v) w w' → (∀ k, fpV (.slice A' (D.length + 1) c') k → fpV v k ∨ k = w.heap.size) → K (.slice A' (D.length + 1) c') w') :
    appK Tryz.prog [68, 68] ty [v, .slice (some ⟨B, 0, none⟩) 1 cv] w K tk := by
  have hr : Rd w (some ⟨B, 0, none⟩) 1 10 (([d] : List Dlt).flatMap dcells) := Rd.of_sblk hB rfl
  refine appK_l (bytes := 104) (by kernel_rfl) h hr (dcells_one [d]) (by simp only [maxLen]; omega) (by omega) (fun A' c' w' hL k1 f1 _ => hK A' c' w' ?_ k1 f1)
  unfold DRow
  rw [List.length_append, List.flatMap_append]
  exact hL
theorem app_int {w : World} {v : Value} {l : List Int} (h : IRow w v l) {x : Int} {B cv : Nat} (hB : Blk w B 2 [.int .i64 x]) (hb : l.length < 17592186044416) {K : VWK} {tk : Tok K} {ty : TypeId}
    (hK : ∀ A' c' w', IRow w' (.slice A' (l.length + 1) c') (l ++ [x]) → Keep (fpV v) w w' → (∀ k, fpV (.slice A' (l.length + 1) c') k → fpV v k ∨ k = w.heap.size) → K (.slice A' (l.length + 1) c') w') :
    appK Tryz.prog [72, 72] ty [v, .slice (some ⟨B, 0, none⟩) 1 cv] w K tk := by
  have hr : Rd w (some ⟨B, 0, none⟩) 1 1 [.int .i64 x] := Rd.of_cells _ _ _ _ _ hB rfl
  refine appK_l (bytes := 8) (by kernel_rfl) h hr (by intro u hu; rw [List.mem_singleton.1 hu]; rfl) (by simp only [maxLen]; omega) (by omega) (fun A' c' w' hL k1 f1 _ => hK A' c' w' ?_ k1 f1)
  unfold IRow
  rw [List.length_append, List.map_append]
  exact hL
theorem sld_ok {w : World} {g : Nat} {v : Value} {l : List Smp} (hS : SerAt w g v l) {A : Option Addr} {n c : Nat} {xs : List Smp} (hX : Rd w A n 3 (xs.flatMap scells)) (hap : 0 < n → ∀ q, fpA A q → q ≠ g ∧ ¬ fpV v q) (hn : l.length + n ≤ 1000000000000) {R : VWK}
    (h : ∀ w' v' A' c', SerAt w' g v' (sLoad l xs) → Keep (fun i => i = g ∨ fpV v i) w w' → (∀ i, fpV v' i → fpV v i ∨ w.heap.size ≤ i) → DRow w' (.slice A' (loadD l xs).length c') (loadD l xs) → (∀ k, fpA A' k → w.heap.size ≤ k) → R (.slice A' (loadD l xs).length c') w') :
    CallsV Tryz.prog 11 [.pointer (some ⟨g, 0, none⟩), .slice A n c] w R := by
  have hxl := hX.flat3
  have hgl := hS.b.lt
  have hrl := hS.row.lt
  refine calls_of_wpC mixed Tryz.func11 rfl (by kernel_rfl) ?_
  intro e he
  have he0 := he 0
  have he1 := he 1
  simp only [List.getD_cons_zero, List.getD_cons_succ] at he0 he1
  clear he
  rw [c_seq]
  simp -dsimp only [↓RE,RU,RL,if_true,if_false,forall_const,implies_true,Nat.reduceLeDiff,Nat.reduceLT,pureOp,binPure,intBin,strBin,eqPure,isConstO,unPure,sliceLo,sliceHi,slicePure,slice3Pure,lenPure,capPure,minPure,maxPure,buildP,resK,endV,yieldE,↓reduceIte,Nat.reduceEqDiff,reduceCtorEq,Nat.reduceAdd,Nat.reduceMul,Nat.reduceSub,Int.reduceLT,Int.reduceLE,Int.reduceToNat,Int.reduceAdd,Int.reduceSub,Int.reduceMul,ne_eq,decide_true,decide_false,tf11, he0]
  rw [c_seq, c_seq]
  simp -dsimp only [↓RE,RU,RL,if_true,if_false,forall_const,implies_true,Nat.reduceLeDiff,Nat.reduceLT,pureOp,binPure,intBin,strBin,eqPure,isConstO,unPure,sliceLo,sliceHi,slicePure,slice3Pure,lenPure,capPure,minPure,maxPure,buildP,resK,endV,yieldE,↓reduceIte,Nat.reduceEqDiff,reduceCtorEq,Nat.reduceAdd,Nat.reduceMul,Nat.reduceSub,Int.reduceLT,Int.reduceLE,Int.reduceToNat,Int.reduceAdd,Int.reduceSub,Int.reduceMul,ne_eq,decide_true,decide_false,tf11, he0]
  rw [c_seq]
  simp -dsimp only [↓RE,RU,RL,if_true,if_false,forall_const,implies_true,Nat.reduceLeDiff,Nat.reduceLT,pureOp,binPure,intBin,strBin,eqPure,isConstO,unPure,sliceLo,sliceHi,slicePure,slice3Pure,lenPure,capPure,minPure,maxPure,buildP,resK,endV,yieldE,↓reduceIte,Nat.reduceEqDiff,reduceCtorEq,Nat.reduceAdd,Nat.reduceMul,Nat.reduceSub,Int.reduceLT,Int.reduceLE,Int.reduceToNat,Int.reduceAdd,Int.reduceSub,Int.reduceMul,ne_eq,decide_true,decide_false,tf11, he0]
  refine fork_ok hS (by omega) (fun w1 gw vw hW1 g1 hgw hvw => ?_)
  have hS1 := hS.grow g1
  have hX1 := hX.grow g1
  have hs1 := g1.size
  have hgw1 := hW1.b.lt
  have hvw1 := hW1.row.lt
  simp -dsimp only [↓RE,RU,RL,if_true,if_false,forall_const,implies_true,Nat.reduceLeDiff,Nat.reduceLT,pureOp,binPure,intBin,strBin,eqPure,isConstO,unPure,sliceLo,sliceHi,slicePure,slice3Pure,lenPure,capPure,minPure,maxPure,buildP,resK,endV,yieldE,↓reduceIte,Nat.reduceEqDiff,reduceCtorEq,Nat.reduceAdd,Nat.reduceMul,Nat.reduceSub,Int.reduceLT,Int.reduceLE,Int.reduceToNat,Int.reduceAdd,Int.reduceSub,Int.reduceMul,ne_eq,decide_true,decide_false,tf11, he0]
  rw [c_seq]
  simp -dsimp only [↓RE,RU,RL,if_true,if_false,forall_const,implies_true,Nat.reduceLeDiff,Nat.reduceLT,pureOp,binPure,intBin,strBin,eqPure,isConstO,unPure,sliceLo,sliceHi,slicePure,slice3Pure,lenPure,capPure,minPure,maxPure,buildP,resK,endV,yieldE,↓reduceIte,Nat.reduceEqDiff,reduceCtorEq,Nat.reduceAdd,Nat.reduceMul,Nat.reduceSub,Int.reduceLT,Int.reduceLE,Int.reduceToNat,Int.reduceAdd,Int.reduceSub,Int.reduceMul,ne_eq,decide_true,decide_false,tf11, he0]
  refine c_seq_cut (fun e' w' => e' 0 = .pointer (some ⟨g, 0, none⟩) ∧ e' 5 = .pointer (some ⟨gw, 0, none⟩) ∧ ∃ (vt v' : Value), e' 6 = vt ∧ SerAt w' g v' (sLoad l xs) ∧ (∀ q, fpV v' q → fpV v q ∨ w1.heap.size ≤ q) ∧ IRow w' vt (xs.map (·.1)) ∧ (∀ q, fpV vt q → w1.heap.size ≤ q) ∧ Keep (fun q => q = g ∨ fpV v q) w1 w') ?_ ?_
  · rw [c_seq]
    simp -dsimp only [↓RE,RU,RL,if_true,if_false,forall_const,implies_true,Nat.reduceLeDiff,Nat.reduceLT,pureOp,binPure,intBin,strBin,eqPure,isConstO,unPure,sliceLo,sliceHi,slicePure,slice3Pure,lenPure,capPure,minPure,maxPure,buildP,resK,endV,yieldE,↓reduceIte,Nat.reduceEqDiff,reduceCtorEq,Nat.reduceAdd,Nat.reduceMul,Nat.reduceSub,Int.reduceLT,Int.reduceLE,Int.reduceToNat,Int.reduceAdd,Int.reduceSub,Int.reduceMul,ne_eq,decide_true,decide_false,tf11, he0, he1]
    refine wpLoop_intro (fun e' w' => e' 0 = .pointer (some ⟨g, 0, none⟩) ∧ e' 5 = .pointer (some ⟨gw, 0, none⟩) ∧ e' 20 = .slice A n c ∧ e' 21 = .int .i64 n ∧ ∃ (k : Nat) (vt v' : Value), k ≤ n ∧ e' 22 = .int .i64 k ∧ e' 6 = vt ∧ SerAt w' g v' (sLoad l (xs.take k)) ∧ (∀ q, fpV v' q → fpV v q ∨ w1.heap.size ≤ q) ∧ IRow w' vt ((xs.take k).map (·.1)) ∧ (∀ q, fpV vt q → w1.heap.size ≤ q) ∧ Keep (fun q => q = g ∨ fpV v q) w1 w')
      (fun e' _ => n - (envInt (e' 22)).toNat) ⟨?_, ?_, ?_, ?_, 0, .slice none 0 0, v, Nat.zero_le _, ?_, ?_, hS1, fun q hq => .inl hq, LRow.nil _ _ _, fun q hq => (fpV_none _ hq).elim, Keep.refl _ _⟩ ?_
    · simp -dsimp only [↓RE,RU,RL,if_true,if_false,↓reduceIte,Nat.reduceEqDiff,reduceCtorEq,decide_true,decide_false, he0]
    · simp -dsimp only [↓RE,RU,RL,if_true,if_false,↓reduceIte,Nat.reduceEqDiff,reduceCtorEq,decide_true,decide_false, he0]
    · simp -dsimp only [↓RE,RU,RL,if_true,if_false,↓reduceIte,Nat.reduceEqDiff,reduceCtorEq,decide_true,decide_false, he1]
    · simp -dsimp only [↓RE,RU,RL,if_true,if_false,↓reduceIte,Nat.reduceEqDiff,reduceCtorEq,decide_true,decide_false, he1]
    · simp -dsimp only [↓RE,RU,RL,if_true,if_false,↓reduceIte,Nat.reduceEqDiff,reduceCtorEq,decide_true,decide_false, he0, Int.cast_ofNat_Int]
    · simp -dsimp only [↓RE,RU,RL,if_true,if_false,↓reduceIte,Nat.reduceEqDiff,reduceCtorEq,decide_true,decide_false, he0]
    clear he0 he1
    rintro e' w' ⟨he0, he5, he20, he21, k, vt, v', hk, he22, he6, hS', hf', hT, hft, hK⟩
    rw [c_seq]
    simp -dsimp only [↓RE,RU,RL,if_true,if_false,forall_const,implies_true,Nat.reduceLeDiff,Nat.reduceLT,pureOp,binPure,intBin,strBin,eqPure,isConstO,unPure,sliceLo,sliceHi,slicePure,slice3Pure,lenPure,capPure,minPure,maxPure,buildP,resK,endV,yieldE,↓reduceIte,Nat.reduceEqDiff,reduceCtorEq,Nat.reduceAdd,Nat.reduceMul,Nat.reduceSub,Int.reduceLT,Int.reduceLE,Int.reduceToNat,Int.reduceAdd,Int.reduceSub,Int.reduceMul,ne_eq,decide_true,decide_false,tf11, he21, he22]
    rw [c_seq]
    simp -dsimp only [↓RE,RU,RL,if_true,if_false,forall_const,implies_true,Nat.reduceLeDiff,Nat.reduceLT,pureOp,binPure,intBin,strBin,eqPure,isConstO,unPure,sliceLo,sliceHi,slicePure,slice3Pure,lenPure,capPure,minPure,maxPure,buildP,resK,endV,yieldE,↓reduceIte,Nat.reduceEqDiff,reduceCtorEq,Nat.reduceAdd,Nat.reduceMul,Nat.reduceSub,Int.reduceLT,Int.reduceLE,Int.reduceToNat,Int.reduceAdd,Int.reduceSub,Int.reduceMul,ne_eq,decide_true,decide_false,tf11, he21, he22]
    refine ⟨fun hlt => ?_, fun hge => ?_⟩
    · have hkn : k < n := by omega
      have hXk : Rd w' A n 3 (xs.flatMap scells) := hX1.keep0 hK (fun h0 q hq e => by
        obtain ⟨h1, h2⟩ := hap h0 q hq
        rcases e with e | e
        · exact h1 e
        · exact h2 e)
      obtain ⟨ad, rfl, hca, hcv, hcs⟩ := hXk.smp (k := k) hkn
      have hw1 : IntKind.i64.wrap ((k : Int) + 1) = ((k + 1 : Nat) : Int) := by rw [wrap_i64_in (by omega) (by omega)]; omega
      have hrs := Rise.load (xs.take k) hS.rise
      have hls := sload_len (xs.take k) hS.rise
      rw [List.length_take] at hls
      have htk : (xs.take (k + 1)) = xs.take k ++ [xs.getD k (0, 0, 0)] := take_snoc _ (by omega)
      have hsl : sLoad l (xs.take (k + 1)) = sPut (sLoad l (xs.take k)) (xs.getD k (0, 0, 0)).1 (xs.getD k (0, 0, 0)).2 := by rw [htk, sLoad, List.foldl_append]; rfl
      have hml : ((xs.take k).map (·.1)).length = k := by rw [List.length_map, List.length_take]; omega
      generalize xs.getD k (0, 0, 0) = x at hca hcv hcs htk hsl
      rw [c_seq]
      simp -dsimp only [↓RE,RU,RL,if_true,if_false,forall_const,implies_true,Nat.reduceLeDiff,Nat.reduceLT,pureOp,binPure,intBin,strBin,eqPure,isConstO,unPure,sliceLo,sliceHi,slicePure,slice3Pure,lenPure,capPure,minPure,maxPure,buildP,resK,endV,yieldE,↓reduceIte,Nat.reduceEqDiff,reduceCtorEq,Nat.reduceAdd,Nat.reduceMul,Nat.reduceSub,Int.reduceLT,Int.reduceLE,Int.reduceToNat,Int.reduceAdd,Int.reduceSub,Int.reduceMul,ne_eq,decide_true,decide_false,tf11, he0]
      rw [c_seq]
      simp -dsimp only [↓RE,RU,RL,if_true,if_false,forall_const,implies_true,Nat.reduceLeDiff,Nat.reduceLT,pureOp,binPure,intBin,strBin,eqPure,isConstO,unPure,sliceLo,sliceHi,slicePure,slice3Pure,lenPure,capPure,minPure,maxPure,buildP,resK,endV,yieldE,↓reduceIte,Nat.reduceEqDiff,reduceCtorEq,Nat.reduceAdd,Nat.reduceMul,Nat.reduceSub,Int.reduceLT,Int.reduceLE,Int.reduceToNat,Int.reduceAdd,Int.reduceSub,Int.reduceMul,ne_eq,decide_true,decide_false,tf11, he20, he22]
      refine ⟨by omega, hcs ?_⟩
      simp -dsimp only [↓RE,RU,RL,if_true,if_false,forall_const,implies_true,Nat.reduceLeDiff,Nat.reduceLT,pureOp,binPure,intBin,strBin,eqPure,isConstO,unPure,sliceLo,sliceHi,slicePure,slice3Pure,lenPure,capPure,minPure,maxPure,buildP,resK,endV,yieldE,↓reduceIte,Nat.reduceEqDiff,reduceCtorEq,Nat.reduceAdd,Nat.reduceMul,Nat.reduceSub,Int.reduceLT,Int.reduceLE,Int.reduceToNat,Int.reduceAdd,Int.reduceSub,Int.reduceMul,ne_eq,decide_true,decide_false,tf11, he20]
      refine newA (ds := scells x) (by rfl) (fun u hu => scells_one [x] u (by simpa using hu)) (fun w2 hb2 g2 => ?_)
      have c2 : w2.cell? ⟨w'.heap.size, 0, none⟩ = some (.int .i64 x.1) := (hb2.cell 0).trans rfl
      have hsl2 : (sLoad l (xs.take k)).length < 5864062014634 := by omega
      have hgk : g < w'.heap.size := hS'.b.lt
      have hrk := hS'.row.lt
      simp -dsimp only [↓RE,RU,RL,if_true,if_false,forall_const,implies_true,Nat.reduceLeDiff,Nat.reduceLT,pureOp,binPure,intBin,strBin,eqPure,isConstO,unPure,sliceLo,sliceHi,slicePure,slice3Pure,lenPure,capPure,minPure,maxPure,buildP,resK,endV,yieldE,↓reduceIte,Nat.reduceEqDiff,reduceCtorEq,Nat.reduceAdd,Nat.reduceMul,Nat.reduceSub,Int.reduceLT,Int.reduceLE,Int.reduceToNat,Int.reduceAdd,Int.reduceSub,Int.reduceMul,ne_eq,decide_true,decide_false,tf11, he0]
      rw [c_seq]
      simp -dsimp only [↓RE,RU,RL,if_true,if_false,forall_const,implies_true,Nat.reduceLeDiff,Nat.reduceLT,pureOp,binPure,intBin,strBin,eqPure,isConstO,unPure,sliceLo,sliceHi,slicePure,slice3Pure,lenPure,capPure,minPure,maxPure,buildP,resK,endV,yieldE,↓reduceIte,Nat.reduceEqDiff,reduceCtorEq,Nat.reduceAdd,Nat.reduceMul,Nat.reduceSub,Int.reduceLT,Int.reduceLE,Int.reduceToNat,Int.reduceAdd,Int.reduceSub,Int.reduceMul,ne_eq,decide_true,decide_false,tf11, he0, c2, add_lit', Nat.zero_add]
      refine hb2.aggK (o := 1) (by simp [scells]) ?_
      simp -dsimp only [↓RE,RU,RL,if_true,if_false,forall_const,implies_true,Nat.reduceLeDiff,Nat.reduceLT,pureOp,binPure,intBin,strBin,eqPure,isConstO,unPure,sliceLo,sliceHi,slicePure,slice3Pure,lenPure,capPure,minPure,maxPure,buildP,resK,endV,yieldE,↓reduceIte,Nat.reduceEqDiff,reduceCtorEq,Nat.reduceAdd,Nat.reduceMul,Nat.reduceSub,Int.reduceLT,Int.reduceLE,Int.reduceToNat,Int.reduceAdd,Int.reduceSub,Int.reduceMul,ne_eq,decide_true,decide_false,tf11, he0]
      refine sput_ok (k := x.2.1) (x := x.2.2) (hS'.grow g2) hsl2 (fun w3 v3 hS3 k3 f3 => ?_)
      have hb3 := hb2.keep k3 (fun e => by
        rcases e with e | e
        · omega
        · have := hrk _ e; omega)
      have c3 : w3.cell? ⟨w'.heap.size, 0, none⟩ = some (.int .i64 x.1) := (hb3.cell 0).trans rfl
      have hT3 : IRow w3 vt ((xs.take k).map (·.1)) := (hT.grow g2).keep k3 (fun q hq e => by
        rcases e with e | e
        · exact (hT.blk_ne hS'.b (by decide)) (e ▸ hq)
        · exact hT.ne hS'.row (by decide) q hq e)
      have hs3 := k3.size
      have hs2 := g2.size
      have hsk := hK.size
      have hbx := Blk.new' w3 2 #[.int .i64 x.1]
      have gx := Grow.alloc w3 (.cells #[.int .i64 x.1] 2)
      obtain ⟨At, ct, hvt, _, _⟩ := hT.form
      subst hvt
      refine os_gen (fun e' => e' 0 = .pointer (some ⟨g, 0, none⟩) ∧ e' 5 = .pointer (some ⟨gw, 0, none⟩) ∧ e' 20 = .slice (some ad) n c ∧ e' 21 = .int .i64 n ∧ e' 22 = .int .i64 k ∧ e' 6 = .slice At ((xs.take k).map (·.1)).length ct ∧ e' 8 = .pointer (some ⟨w'.heap.size, 0, none⟩)) ⟨?_, ?_, ?_, ?_, ?_, ?_, ?_⟩ ?_
      · simp -dsimp only [↓RE,RU,RL,if_true,if_false,↓reduceIte,Nat.reduceEqDiff,reduceCtorEq,decide_true,decide_false, he0]
      · simp -dsimp only [↓RE,RU,RL,if_true,if_false,↓reduceIte,Nat.reduceEqDiff,reduceCtorEq,decide_true,decide_false, he5]
      · simp -dsimp only [↓RE,RU,RL,if_true,if_false,↓reduceIte,Nat.reduceEqDiff,reduceCtorEq,decide_true,decide_false, he20]
      · simp -dsimp only [↓RE,RU,RL,if_true,if_false,↓reduceIte,Nat.reduceEqDiff,reduceCtorEq,decide_true,decide_false, he21]
      · simp -dsimp only [↓RE,RU,RL,if_true,if_false,↓reduceIte,Nat.reduceEqDiff,reduceCtorEq,decide_true,decide_false, he22]
      · simp -dsimp only [↓RE,RU,RL,if_true,if_false,↓reduceIte,Nat.reduceEqDiff,reduceCtorEq,decide_true,decide_false, he6]
      · simp -dsimp only [↓RE,RU,RL,if_true,if_false,↓reduceIte,Nat.reduceEqDiff,reduceCtorEq,decide_true,decide_false, he0]
      have he22o := he22
      clear he0 he5 he20 he21 he22 he6
      rintro e ⟨he0, he5, he20, he21, he22, he6, he8⟩
      simp -dsimp only [↓RE,RU,RL,if_true,if_false,forall_const,implies_true,Nat.reduceLeDiff,Nat.reduceLT,pureOp,binPure,intBin,strBin,eqPure,isConstO,unPure,sliceLo,sliceHi,slicePure,slice3Pure,lenPure,capPure,minPure,maxPure,buildP,resK,endV,yieldE,↓reduceIte,Nat.reduceEqDiff,reduceCtorEq,Nat.reduceAdd,Nat.reduceMul,Nat.reduceSub,Int.reduceLT,Int.reduceLE,Int.reduceToNat,Int.reduceAdd,Int.reduceSub,Int.reduceMul,ne_eq,decide_true,decide_false,tf11, he6, he8, c3, add_lit', Nat.zero_add]
      refine app_int (hT3.grow gx) hbx (by omega) (fun A5 c5 w5 hT5 k5 f5 => ?_)
      have hS5 : SerAt w5 g v3 (sLoad l (xs.take (k + 1))) := by
        rw [hsl]
        exact (hS3.grow gx).keep k5 (fun e => (hT3.grow gx).blk_ne (hS3.grow gx).b (by decide) e) (fun q hq e => (hT3.grow gx).ne (hS3.grow gx).row (by decide) q e hq)
      have hT5' : IRow w5 (.slice A5 (((xs.take k).map (·.1)).length + 1) c5) ((xs.take (k + 1)).map (·.1)) := by
        rw [htk, List.map_append]; exact hT5
      have hsx := gx.size
      simp -dsimp only [↓RE,RU,RL,if_true,if_false,forall_const,implies_true,Nat.reduceLeDiff,Nat.reduceLT,pureOp,binPure,intBin,strBin,eqPure,isConstO,unPure,sliceLo,sliceHi,slicePure,slice3Pure,lenPure,capPure,minPure,maxPure,buildP,resK,endV,yieldE,↓reduceIte,Nat.reduceEqDiff,reduceCtorEq,Nat.reduceAdd,Nat.reduceMul,Nat.reduceSub,Int.reduceLT,Int.reduceLE,Int.reduceToNat,Int.reduceAdd,Int.reduceSub,Int.reduceMul,ne_eq,decide_true,decide_false,tf11, he22, hw1]
      refine hold_intro ⟨⟨by simp -dsimp only [↓RE,RU,RL,if_true,if_false,↓reduceIte,Nat.reduceEqDiff,reduceCtorEq,decide_true,decide_false, he0], by simp -dsimp only [↓RE,RU,RL,if_true,if_false,↓reduceIte,Nat.reduceEqDiff,reduceCtorEq,decide_true,decide_false, he5], by simp -dsimp only [↓RE,RU,RL,if_true,if_false,↓reduceIte,Nat.reduceEqDiff,reduceCtorEq,decide_true,decide_false, he20], by simp -dsimp only [↓RE,RU,RL,if_true,if_false,↓reduceIte,Nat.reduceEqDiff,reduceCtorEq,decide_true,decide_false, he21], k + 1, _, v3, by omega, by simp -dsimp only [↓RE,RU,RL,if_true,if_false,↓reduceIte,Nat.reduceEqDiff,reduceCtorEq,decide_true,decide_false, he22, hw1], by simp -dsimp only [↓RE,RU,RL,if_true,if_false,↓reduceIte,Nat.reduceEqDiff,reduceCtorEq,decide_true,decide_false, he6], hS5, fun q hq => ?_, hT5', fun q hq => ?_, ?_⟩, ?_⟩
      · rcases f3 q hq with e | e
        · exact hf' q e
        · right; omega
      · rcases f5 q hq with e | e
        · exact hft q e
        · omega
      · refine ((hK.then_grow g2).trans k3 (fun _ _ h => h) (fun q hq e => ?_)).trans (gx.then k5) (fun _ _ h => h) (fun q hq e => ?_)
        · rcases e with e | e
          · exact .inl e
          · rcases hf' q e with e | e
            · exact .inr e
            · omega
        · have := hft q e; omega
      · simp -dsimp only [↓RE,RU,RL,if_true,if_false,↓reduceIte,Nat.reduceEqDiff,reduceCtorEq,decide_true,decide_false, he22o, he22, hw1]
        simp only [envInt_int]; omega
    · obtain rfl : k = n := by omega
      rw [← hxl, List.take_length] at hS' hT
      exact hold_intro ⟨by simp -dsimp only [↓RE,RU,RL,if_true,if_false,↓reduceIte,Nat.reduceEqDiff,reduceCtorEq,decide_true,decide_false, he0], by simp -dsimp only [↓RE,RU,RL,if_true,if_false,↓reduceIte,Nat.reduceEqDiff,reduceCtorEq,decide_true,decide_false, he5], vt, v', by simp -dsimp only [↓RE,RU,RL,if_true,if_false,↓reduceIte,Nat.reduceEqDiff,reduceCtorEq,decide_true,decide_false, he6], hS', hf', hT, hft, hK⟩
  · clear he0 he1 e
    rintro e w2 ⟨he0, he5, vt, v', he6, hS2, hf2, hT, hft, hK⟩
    obtain ⟨At, ct, hvt, _, _⟩ := hT.form
    subst hvt
    have hml : (xs.map (·.1)).length = n := by rw [List.length_map, hxl]
    have hrs := Rise.load xs hS.rise
    have hls := sload_len xs hS.rise
    have hW2 : SerAt w2 gw vw l := hW1.keep hK (fun e => by
      rcases e with e | e
      · omega
      · have := hrl _ e; omega) (fun q hq e => by
      have h1 := hvw q hq
      rcases e with e | e
      · omega
      · have := hrl _ e; omega)
    rw [c_seq]
    simp -dsimp only [↓RE,RU,RL,if_true,if_false,forall_const,implies_true,Nat.reduceLeDiff,Nat.reduceLT,pureOp,binPure,intBin,strBin,eqPure,isConstO,unPure,sliceLo,sliceHi,slicePure,slice3Pure,lenPure,capPure,minPure,maxPure,buildP,resK,endV,yieldE,↓reduceIte,Nat.reduceEqDiff,reduceCtorEq,Nat.reduceAdd,Nat.reduceMul,Nat.reduceSub,Int.reduceLT,Int.reduceLE,Int.reduceToNat,Int.reduceAdd,Int.reduceSub,Int.reduceMul,ne_eq,decide_true,decide_false,tf11, he6]
    refine sort_ok hT (by omega) (fun w3 hT3 k3 => ?_)
    have hS3 : SerAt w3 g v' (sLoad l xs) := hS2.keep k3 (fun e => hT.blk_ne hS2.b (by decide) e) (fun q hq e => hT.ne hS2.row (by decide) q e hq)
    have hW3 : SerAt w3 gw vw l := hW2.keep k3 (fun e => hT.blk_ne hW2.b (by decide) e) (fun q hq e => hT.ne hW2.row (by decide) q e hq)
    have g13 : Keep (fun q => q = g ∨ fpV v q) w1 w3 := hK.trans k3 (fun _ _ h => h) (fun q hq e => by have := hft q e; omega)
    simp -dsimp only [↓RE,RU,RL,if_true,if_false,forall_const,implies_true,Nat.reduceLeDiff,Nat.reduceLT,pureOp,binPure,intBin,strBin,eqPure,isConstO,unPure,sliceLo,sliceHi,slicePure,slice3Pure,lenPure,capPure,minPure,maxPure,buildP,resK,endV,yieldE,↓reduceIte,Nat.reduceEqDiff,reduceCtorEq,Nat.reduceAdd,Nat.reduceMul,Nat.reduceSub,Int.reduceLT,Int.reduceLE,Int.reduceToNat,Int.reduceAdd,Int.reduceSub,Int.reduceMul,ne_eq,decide_true,decide_false,tf11, he6]
    rw [c_seq]
    simp -dsimp only [↓RE,RU,RL,if_true,if_false,forall_const,implies_true,Nat.reduceLeDiff,Nat.reduceLT,pureOp,binPure,intBin,strBin,eqPure,isConstO,unPure,sliceLo,sliceHi,slicePure,slice3Pure,lenPure,capPure,minPure,maxPure,buildP,resK,endV,yieldE,↓reduceIte,Nat.reduceEqDiff,reduceCtorEq,Nat.reduceAdd,Nat.reduceMul,Nat.reduceSub,Int.reduceLT,Int.reduceLE,Int.reduceToNat,Int.reduceAdd,Int.reduceSub,Int.reduceMul,ne_eq,decide_true,decide_false,tf11, he6]
    refine c_seq_cut (fun e' w' => ∃ (vd : Value), e' 9 = vd ∧ SerAt w' g v' (sLoad l xs) ∧ DRow w' vd (loadD l xs) ∧ (∀ q, fpV vd q → w1.heap.size ≤ q) ∧ Keep (fun q => q = g ∨ fpV v q) w1 w') ?_ ?_
    · rw [c_seq]
      simp -dsimp only [↓RE,RU,RL,if_true,if_false,forall_const,implies_true,Nat.reduceLeDiff,Nat.reduceLT,pureOp,binPure,intBin,strBin,eqPure,isConstO,unPure,sliceLo,sliceHi,slicePure,slice3Pure,lenPure,capPure,minPure,maxPure,buildP,resK,endV,yieldE,↓reduceIte,Nat.reduceEqDiff,reduceCtorEq,Nat.reduceAdd,Nat.reduceMul,Nat.reduceSub,Int.reduceLT,Int.reduceLE,Int.reduceToNat,Int.reduceAdd,Int.reduceSub,Int.reduceMul,ne_eq,decide_true,decide_false,tf11, he6]
      refine compact_ok hT3 (by rw [sortI_len]; omega) (fun w4 v4 hT4 k4 f4 => ?_)
      have hT4 : IRow w4 v4 (loadT xs) := hT4
      obtain ⟨A4, c4, hv4, _, _⟩ := hT4.form
      subst hv4
      have hS4 : SerAt w4 g v' (sLoad l xs) := hS3.keep k4 (fun e => hT3.blk_ne hS3.b (by decide) e) (fun q hq e => hT3.ne hS3.row (by decide) q e hq)
      have hW4 : SerAt w4 gw vw l := hW3.keep k4 (fun e => hT3.blk_ne hW3.b (by decide) e) (fun q hq e => hT3.ne hW3.row (by decide) q e hq)
      have g14 : Keep (fun q => q = g ∨ fpV v q) w1 w4 := g13.trans k4 (fun _ _ h => h) (fun q hq e => by have := hft q e; omega)
      have hs4 := g14.size
      have hTl := loadT_len xs
      simp -dsimp only [↓RE,RU,RL,if_true,if_false,forall_const,implies_true,Nat.reduceLeDiff,Nat.reduceLT,pureOp,binPure,intBin,strBin,eqPure,isConstO,unPure,sliceLo,sliceHi,slicePure,slice3Pure,lenPure,capPure,minPure,maxPure,buildP,resK,endV,yieldE,↓reduceIte,Nat.reduceEqDiff,reduceCtorEq,Nat.reduceAdd,Nat.reduceMul,Nat.reduceSub,Int.reduceLT,Int.reduceLE,Int.reduceToNat,Int.reduceAdd,Int.reduceSub,Int.reduceMul,ne_eq,decide_true,decide_false,tf11, he6]
      refine wpLoop_intro (fun e' w' => e' 0 = .pointer (some ⟨g, 0, none⟩) ∧ e' 5 = .pointer (some ⟨gw, 0, none⟩) ∧ e' 41 = .slice A4 (loadT xs).length c4 ∧ e' 42 = .int .i64 ((loadT xs).length : Nat) ∧ ∃ (k : Nat) (vd : Value), k ≤ (loadT xs).length ∧ e' 43 = .int .i64 k ∧ e' 9 = vd ∧ DRow w' vd (((loadT xs).take k).flatMap (dOf l (sLoad l xs))) ∧ (((loadT xs).take k).flatMap (dOf l (sLoad l xs))).length ≤ k ∧ (∀ q, fpV vd q → w4.heap.size ≤ q) ∧ Grow w4 w')
        (fun e' _ => (loadT xs).length - (envInt (e' 43)).toNat) ⟨?_, ?_, ?_, ?_, 0, .slice none 0 0, Nat.zero_le _, ?_, ?_, LRow.nil _ _ _, Nat.le_refl _, fun q hq => (fpV_none _ hq).elim, Keep.refl _ _⟩ ?_
      · simp -dsimp only [↓RE,RU,RL,if_true,if_false,↓reduceIte,Nat.reduceEqDiff,reduceCtorEq,decide_true,decide_false, he0]
      · simp -dsimp only [↓RE,RU,RL,if_true,if_false,↓reduceIte,Nat.reduceEqDiff,reduceCtorEq,decide_true,decide_false, he5]
      · simp -dsimp only [↓RE,RU,RL,if_true,if_false,↓reduceIte,Nat.reduceEqDiff,reduceCtorEq,decide_true,decide_false, he6]
      · simp -dsimp only [↓RE,RU,RL,if_true,if_false,↓reduceIte,Nat.reduceEqDiff,reduceCtorEq,decide_true,decide_false, he6]
      · simp -dsimp only [↓RE,RU,RL,if_true,if_false,↓reduceIte,Nat.reduceEqDiff,reduceCtorEq,decide_true,decide_false, he6, Int.cast_ofNat_Int]
      · simp -dsimp only [↓RE,RU,RL,if_true,if_false,↓reduceIte,Nat.reduceEqDiff,reduceCtorEq,decide_true,decide_false, he6]
      clear he0 he5 he6
      rintro e' w' ⟨he0, he5, he41, he42, k, vd, hk, he43, he9, hD, hDl, hfd, hg⟩
      rw [c_seq]
      simp -dsimp only [↓RE,RU,RL,if_true,if_false,forall_const,implies_true,Nat.reduceLeDiff,Nat.reduceLT,pureOp,binPure,intBin,strBin,eqPure,isConstO,unPure,sliceLo,sliceHi,slicePure,slice3Pure,lenPure,capPure,minPure,maxPure,buildP,resK,endV,yieldE,↓reduceIte,Nat.reduceEqDiff,reduceCtorEq,Nat.reduceAdd,Nat.reduceMul,Nat.reduceSub,Int.reduceLT,Int.reduceLE,Int.reduceToNat,Int.reduceAdd,Int.reduceSub,Int.reduceMul,ne_eq,decide_true,decide_false,tf11, he42, he43]
      rw [c_seq]
      simp -dsimp only [↓RE,RU,RL,if_true,if_false,forall_const,implies_true,Nat.reduceLeDiff,Nat.reduceLT,pureOp,binPure,intBin,strBin,eqPure,isConstO,unPure,sliceLo,sliceHi,slicePure,slice3Pure,lenPure,capPure,minPure,maxPure,buildP,resK,endV,yieldE,↓reduceIte,Nat.reduceEqDiff,reduceCtorEq,Nat.reduceAdd,Nat.reduceMul,Nat.reduceSub,Int.reduceLT,Int.reduceLE,Int.reduceToNat,Int.reduceAdd,Int.reduceSub,Int.reduceMul,ne_eq,decide_true,decide_false,tf11, he42, he43]
      refine ⟨fun hlt => ?_, fun hge => ?_⟩
      · have hkn : k < (loadT xs).length := by omega
        obtain ⟨ad, rfl, hca⟩ := (irow_get (hT4.grow hg)) hkn
        have hw1 : IntKind.i64.wrap ((k : Int) + 1) = ((k + 1 : Nat) : Int) := by rw [wrap_i64_in (by omega) (by omega)]; omega
        have htk : ((loadT xs).take (k + 1)).flatMap (dOf l (sLoad l xs)) = ((loadT xs).take k).flatMap (dOf l (sLoad l xs)) ++ dOf l (sLoad l xs) ((loadT xs).getD k 0) := by
          rw [take_snoc 0 hkn, List.flatMap_append]; simp
        generalize (loadT xs).getD k 0 = t at hca htk
        obtain ⟨Ad, cd, hvd, _, _⟩ := hD.form
        subst hvd
        generalize hDk : ((loadT xs).take k).flatMap (dOf l (sLoad l xs)) = Dk at hD hDl htk he9 hfd
        rw [c_seq]
        simp -dsimp only [↓RE,RU,RL,if_true,if_false,forall_const,implies_true,Nat.reduceLeDiff,Nat.reduceLT,pureOp,binPure,intBin,strBin,eqPure,isConstO,unPure,sliceLo,sliceHi,slicePure,slice3Pure,lenPure,capPure,minPure,maxPure,buildP,resK,endV,yieldE,↓reduceIte,Nat.reduceEqDiff,reduceCtorEq,Nat.reduceAdd,Nat.reduceMul,Nat.reduceSub,Int.reduceLT,Int.reduceLE,Int.reduceToNat,Int.reduceAdd,Int.reduceSub,Int.reduceMul,ne_eq,decide_true,decide_false,tf11, he0]
        rw [c_seq]
        simp -dsimp only [↓RE,RU,RL,if_true,if_false,forall_const,implies_true,Nat.reduceLeDiff,Nat.reduceLT,pureOp,binPure,intBin,strBin,eqPure,isConstO,unPure,sliceLo,sliceHi,slicePure,slice3Pure,lenPure,capPure,minPure,maxPure,buildP,resK,endV,yieldE,↓reduceIte,Nat.reduceEqDiff,reduceCtorEq,Nat.reduceAdd,Nat.reduceMul,Nat.reduceSub,Int.reduceLT,Int.reduceLE,Int.reduceToNat,Int.reduceAdd,Int.reduceSub,Int.reduceMul,ne_eq,decide_true,decide_false,tf11, he41, he43, hca]
        refine ⟨by omega, ?_⟩
        rw [c_seq]
        simp -dsimp only [↓RE,RU,RL,if_true,if_false,forall_const,implies_true,Nat.reduceLeDiff,Nat.reduceLT,pureOp,binPure,intBin,strBin,eqPure,isConstO,unPure,sliceLo,sliceHi,slicePure,slice3Pure,lenPure,capPure,minPure,maxPure,buildP,resK,endV,yieldE,↓reduceIte,Nat.reduceEqDiff,reduceCtorEq,Nat.reduceAdd,Nat.reduceMul,Nat.reduceSub,Int.reduceLT,Int.reduceLE,Int.reduceToNat,Int.reduceAdd,Int.reduceSub,Int.reduceMul,ne_eq,decide_true,decide_false,tf11, he5]
        refine get_ok (hW4.grow hg) (by omega) (fun w5 g5 => ?_)
        simp -dsimp only [↓RE,RU,RL,if_true,if_false,forall_const,implies_true,Nat.reduceLeDiff,Nat.reduceLT,pureOp,binPure,intBin,strBin,eqPure,isConstO,unPure,sliceLo,sliceHi,slicePure,slice3Pure,lenPure,capPure,minPure,maxPure,buildP,resK,endV,yieldE,↓reduceIte,Nat.reduceEqDiff,reduceCtorEq,Nat.reduceAdd,Nat.reduceMul,Nat.reduceSub,Int.reduceLT,Int.reduceLE,Int.reduceToNat,Int.reduceAdd,Int.reduceSub,Int.reduceMul,ne_eq,decide_true,decide_false,tf11, he5]
        refine new2 (fun w6 hb6 g6 => ?_) rfl rfl
        simp -dsimp only [↓RE,RU,RL,if_true,if_false,forall_const,implies_true,Nat.reduceLeDiff,Nat.reduceLT,pureOp,binPure,intBin,strBin,eqPure,isConstO,unPure,sliceLo,sliceHi,slicePure,slice3Pure,lenPure,capPure,minPure,maxPure,buildP,resK,endV,yieldE,↓reduceIte,Nat.reduceEqDiff,reduceCtorEq,Nat.reduceAdd,Nat.reduceMul,Nat.reduceSub,Int.reduceLT,Int.reduceLE,Int.reduceToNat,Int.reduceAdd,Int.reduceSub,Int.reduceMul,ne_eq,decide_true,decide_false,tf11, he5]
        rw [c_seq]
        simp -dsimp only [↓RE,RU,RL,if_true,if_false,forall_const,implies_true,Nat.reduceLeDiff,Nat.reduceLT,pureOp,binPure,intBin,strBin,eqPure,isConstO,unPure,sliceLo,sliceHi,slicePure,slice3Pure,lenPure,capPure,minPure,maxPure,buildP,resK,endV,yieldE,↓reduceIte,Nat.reduceEqDiff,reduceCtorEq,Nat.reduceAdd,Nat.reduceMul,Nat.reduceSub,Int.reduceLT,Int.reduceLE,Int.reduceToNat,Int.reduceAdd,Int.reduceSub,Int.reduceMul,ne_eq,decide_true,decide_false,tf11, he0]
        have g46 := (hg.trans g5).trans g6
        refine get_ok (hS4.grow g46) (by omega) (fun w7 g7 => ?_)
        simp -dsimp only [↓RE,RU,RL,if_true,if_false,forall_const,implies_true,Nat.reduceLeDiff,Nat.reduceLT,pureOp,binPure,intBin,strBin,eqPure,isConstO,unPure,sliceLo,sliceHi,slicePure,slice3Pure,lenPure,capPure,minPure,maxPure,buildP,resK,endV,yieldE,↓reduceIte,Nat.reduceEqDiff,reduceCtorEq,Nat.reduceAdd,Nat.reduceMul,Nat.reduceSub,Int.reduceLT,Int.reduceLE,Int.reduceToNat,Int.reduceAdd,Int.reduceSub,Int.reduceMul,ne_eq,decide_true,decide_false,tf11, he0]
        refine new2 (fun w8 hb8 g8 => ?_) rfl rfl
        have hb68 := (hb6.grow g7).grow g8
        have g48 := (g46.trans g7).trans g8
        have g58 : Grow w' w8 := ((g5.trans g6).trans g7).trans g8
        refine os_gen (fun e' => e' 0 = .pointer (some ⟨g, 0, none⟩) ∧ e' 5 = .pointer (some ⟨gw, 0, none⟩) ∧ e' 41 = .slice (some ad) (loadT xs).length c4 ∧ e' 42 = .int .i64 ((loadT xs).length : Nat) ∧ e' 43 = .int .i64 k ∧ e' 9 = .slice Ad Dk.length cd ∧ e' 11 = .int .i64 t ∧ e' 12 = .pointer (some ⟨w5.heap.size, 0, none⟩) ∧ e' 13 = .bool (sHas l t) ∧ e' 14 = .pointer (some ⟨w7.heap.size, 0, none⟩) ∧ e' 58 = .bool (sHas (sLoad l xs) t)) ⟨?_, ?_, ?_, ?_, ?_, ?_, ?_, ?_, ?_, ?_, ?_⟩ ?_
        · simp -dsimp only [↓RE,RU,RL,if_true,if_false,↓reduceIte,Nat.reduceEqDiff,reduceCtorEq,decide_true,decide_false, he0]
        · simp -dsimp only [↓RE,RU,RL,if_true,if_false,↓reduceIte,Nat.reduceEqDiff,reduceCtorEq,decide_true,decide_false, he5]
        · simp -dsimp only [↓RE,RU,RL,if_true,if_false,↓reduceIte,Nat.reduceEqDiff,reduceCtorEq,decide_true,decide_false, he41]
        · simp -dsimp only [↓RE,RU,RL,if_true,if_false,↓reduceIte,Nat.reduceEqDiff,reduceCtorEq,decide_true,decide_false, he42]
        · simp -dsimp only [↓RE,RU,RL,if_true,if_false,↓reduceIte,Nat.reduceEqDiff,reduceCtorEq,decide_true,decide_false, he43]
        · simp -dsimp only [↓RE,RU,RL,if_true,if_false,↓reduceIte,Nat.reduceEqDiff,reduceCtorEq,decide_true,decide_false, he9]
        · simp -dsimp only [↓RE,RU,RL,if_true,if_false,↓reduceIte,Nat.reduceEqDiff,reduceCtorEq,decide_true,decide_false, he0]
        · simp -dsimp only [↓RE,RU,RL,if_true,if_false,↓reduceIte,Nat.reduceEqDiff,reduceCtorEq,decide_true,decide_false, he0]
        · simp -dsimp only [↓RE,RU,RL,if_true,if_false,↓reduceIte,Nat.reduceEqDiff,reduceCtorEq,decide_true,decide_false, he0]
        · simp -dsimp only [↓RE,RU,RL,if_true,if_false,↓reduceIte,Nat.reduceEqDiff,reduceCtorEq,decide_true,decide_false, he0]
        · simp -dsimp only [↓RE,RU,RL,if_true,if_false,↓reduceIte,Nat.reduceEqDiff,reduceCtorEq,decide_true,decide_false, he0]
        have he43o := he43
        clear he0 he5 he41 he42 he43 he9
        rintro e ⟨he0, he5, he41, he42, he43, he9, he11, he12, he13, he14, he58⟩
        simp -dsimp only [↓RE,RU,RL,if_true,if_false,forall_const,implies_true,Nat.reduceLeDiff,Nat.reduceLT,pureOp,binPure,intBin,strBin,eqPure,isConstO,unPure,sliceLo,sliceHi,slicePure,slice3Pure,lenPure,capPure,minPure,maxPure,buildP,resK,endV,yieldE,↓reduceIte,Nat.reduceEqDiff,reduceCtorEq,Nat.reduceAdd,Nat.reduceMul,Nat.reduceSub,Int.reduceLT,Int.reduceLE,Int.reduceToNat,Int.reduceAdd,Int.reduceSub,Int.reduceMul,ne_eq,decide_true,decide_false,tf11, he58]
        rw [c_seq]
        cases hh : sHas l t with
        | false =>
          rw [hh] at he13
          simp -dsimp only [↓RE,RU,RL,if_true,if_false,forall_const,implies_true,Nat.reduceLeDiff,Nat.reduceLT,pureOp,binPure,intBin,strBin,eqPure,isConstO,unPure,sliceLo,sliceHi,slicePure,slice3Pure,lenPure,capPure,minPure,maxPure,buildP,resK,endV,yieldE,↓reduceIte,Nat.reduceEqDiff,reduceCtorEq,Nat.reduceAdd,Nat.reduceMul,Nat.reduceSub,Int.reduceLT,Int.reduceLE,Int.reduceToNat,Int.reduceAdd,Int.reduceSub,Int.reduceMul,ne_eq,decide_true,decide_false,tf11, he13, undef]
          have hdo : dOf l (sLoad l xs) t = [⟨t, false, sOld l t, sOld (sLoad l xs) t⟩] := by rw [dOf, if_pos (.inl hh), hh]
          rw [hdo] at htk
          simp -dsimp only [↓RE,RU,RL,if_true,if_false,forall_const,implies_true,Nat.reduceLeDiff,Nat.reduceLT,pureOp,binPure,intBin,strBin,eqPure,isConstO,unPure,sliceLo,sliceHi,slicePure,slice3Pure,lenPure,capPure,minPure,maxPure,buildP,resK,endV,yieldE,↓reduceIte,Nat.reduceEqDiff,reduceCtorEq,Nat.reduceAdd,Nat.reduceMul,Nat.reduceSub,Int.reduceLT,Int.reduceLE,Int.reduceToNat,Int.reduceAdd,Int.reduceSub,Int.reduceMul,ne_eq,decide_true,decide_false,tf11, he9, he11, he12, he13, he14, hh]
          refine blk_agg2 hb68 ?_
          simp -dsimp only [↓RE,RU,RL,if_true,if_false,forall_const,implies_true,Nat.reduceLeDiff,Nat.reduceLT,pureOp,binPure,intBin,strBin,eqPure,isConstO,unPure,sliceLo,sliceHi,slicePure,slice3Pure,lenPure,capPure,minPure,maxPure,buildP,resK,endV,yieldE,↓reduceIte,Nat.reduceEqDiff,reduceCtorEq,Nat.reduceAdd,Nat.reduceMul,Nat.reduceSub,Int.reduceLT,Int.reduceLE,Int.reduceToNat,Int.reduceAdd,Int.reduceSub,Int.reduceMul,ne_eq,decide_true,decide_false,tf11, he9, he11, he12, he13, he14, hh]
          refine blk_agg2 hb8 ?_
          have hbx := Blk.new' w8 95 (dcells ⟨t, false, sOld l t, sOld (sLoad l xs) t⟩).toArray
          have gx := Grow.alloc w8 (.cells (dcells ⟨t, false, sOld l t, sOld (sLoad l xs) t⟩).toArray 95)
          simp -dsimp only [↓RE,RU,RL,if_true,if_false,forall_const,implies_true,Nat.reduceLeDiff,Nat.reduceLT,pureOp,binPure,intBin,strBin,eqPure,isConstO,unPure,sliceLo,sliceHi,slicePure,slice3Pure,lenPure,capPure,minPure,maxPure,buildP,resK,endV,yieldE,↓reduceIte,Nat.reduceEqDiff,reduceCtorEq,Nat.reduceAdd,Nat.reduceMul,Nat.reduceSub,Int.reduceLT,Int.reduceLE,Int.reduceToNat,Int.reduceAdd,Int.reduceSub,Int.reduceMul,ne_eq,decide_true,decide_false,tf11, he9, he11, he12, he13, he14, hh]
          refine app_dlt (d := ⟨t, false, sOld l t, sOld (sLoad l xs) t⟩) (hD.grow (g58.trans gx)) hbx (by omega) (fun A9 c9 w9 hD9 k9 f9 => ?_)
          have hsx := (g48.trans gx).size
          have hlD : (Dk ++ [(⟨t, false, sOld l t, sOld (sLoad l xs) t⟩ : Dlt)]).length = Dk.length + 1 := by rw [List.length_append]; rfl
          rw [← htk] at hD9 hlD
          simp -dsimp only [↓RE,RU,RL,if_true,if_false,forall_const,implies_true,Nat.reduceLeDiff,Nat.reduceLT,pureOp,binPure,intBin,strBin,eqPure,isConstO,unPure,sliceLo,sliceHi,slicePure,slice3Pure,lenPure,capPure,minPure,maxPure,buildP,resK,endV,yieldE,↓reduceIte,Nat.reduceEqDiff,reduceCtorEq,Nat.reduceAdd,Nat.reduceMul,Nat.reduceSub,Int.reduceLT,Int.reduceLE,Int.reduceToNat,Int.reduceAdd,Int.reduceSub,Int.reduceMul,ne_eq,decide_true,decide_false,tf11, he43, hw1]
          refine hold_intro ⟨⟨by simp -dsimp only [↓RE,RU,RL,if_true,if_false,↓reduceIte,Nat.reduceEqDiff,reduceCtorEq,decide_true,decide_false, he0], by simp -dsimp only [↓RE,RU,RL,if_true,if_false,↓reduceIte,Nat.reduceEqDiff,reduceCtorEq,decide_true,decide_false, he5], by simp -dsimp only [↓RE,RU,RL,if_true,if_false,↓reduceIte,Nat.reduceEqDiff,reduceCtorEq,decide_true,decide_false, he41], by simp -dsimp only [↓RE,RU,RL,if_true,if_false,↓reduceIte,Nat.reduceEqDiff,reduceCtorEq,decide_true,decide_false, he42], k + 1, _, by omega, by simp -dsimp only [↓RE,RU,RL,if_true,if_false,↓reduceIte,Nat.reduceEqDiff,reduceCtorEq,decide_true,decide_false, he43, hw1], by simp -dsimp only [↓RE,RU,RL,if_true,if_false,↓reduceIte,Nat.reduceEqDiff,reduceCtorEq,decide_true,decide_false, he9], hD9, by rw [hlD]; omega, fun q hq => (f9 q hq).elim (hfd q) (fun e => by omega), (g48.trans gx).above k9 (fun q hq e => by have := hfd q e; omega)⟩, ?_⟩
          simp -dsimp only [↓RE,↓c_seq,RU,RL,if_true,if_false,forall_const,implies_true,Nat.reduceLeDiff,Nat.reduceLT,pureOp,binPure,intBin,strBin,eqPure,isConstO,unPure,sliceLo,sliceHi,slicePure,slice3Pure,lenPure,capPure,minPure,maxPure,buildP,resK,endV,yieldE,↓reduceIte,Nat.reduceEqDiff,reduceCtorEq,Nat.reduceAdd,Nat.reduceMul,Nat.reduceSub,Int.reduceLT,Int.reduceLE,Int.reduceToNat,Int.reduceAdd,Int.reduceSub,Int.reduceMul,ne_eq,decide_true,decide_false,tf11, he43o, he43, hw1]
          simp only [envInt_int]; omega
        | true =>
          rw [hh] at he13
          simp -dsimp only [↓RE,RU,RL,if_true,if_false,forall_const,implies_true,Nat.reduceLeDiff,Nat.reduceLT,pureOp,binPure,intBin,strBin,eqPure,isConstO,unPure,sliceLo,sliceHi,slicePure,slice3Pure,lenPure,capPure,minPure,maxPure,buildP,resK,endV,yieldE,↓reduceIte,Nat.reduceEqDiff,reduceCtorEq,Nat.reduceAdd,Nat.reduceMul,Nat.reduceSub,Int.reduceLT,Int.reduceLE,Int.reduceToNat,Int.reduceAdd,Int.reduceSub,Int.reduceMul,ne_eq,decide_true,decide_false,tf11, he12, he13, he14]
          refine blk_agg2 hb68 ?_
          simp -dsimp only [↓RE,RU,RL,if_true,if_false,forall_const,implies_true,Nat.reduceLeDiff,Nat.reduceLT,pureOp,binPure,intBin,strBin,eqPure,isConstO,unPure,sliceLo,sliceHi,slicePure,slice3Pure,lenPure,capPure,minPure,maxPure,buildP,resK,endV,yieldE,↓reduceIte,Nat.reduceEqDiff,reduceCtorEq,Nat.reduceAdd,Nat.reduceMul,Nat.reduceSub,Int.reduceLT,Int.reduceLE,Int.reduceToNat,Int.reduceAdd,Int.reduceSub,Int.reduceMul,ne_eq,decide_true,decide_false,tf11, he12, he13, he14]
          refine blk_agg2 hb8 ?_
          simp -dsimp only [↓RE,RU,RL,if_true,if_false,forall_const,implies_true,Nat.reduceLeDiff,Nat.reduceLT,pureOp,binPure,intBin,strBin,eqPure,isConstO,unPure,sliceLo,sliceHi,slicePure,slice3Pure,lenPure,capPure,minPure,maxPure,buildP,resK,endV,yieldE,↓reduceIte,Nat.reduceEqDiff,reduceCtorEq,Nat.reduceAdd,Nat.reduceMul,Nat.reduceSub,Int.reduceLT,Int.reduceLE,Int.reduceToNat,Int.reduceAdd,Int.reduceSub,Int.reduceMul,ne_eq,decide_true,decide_false,tf11, he12, he13, he14, Option.map_some]
          refine ⟨fun hne => ?_, fun heq => ?_⟩
          · have hne' : sOld l t ≠ sOld (sLoad l xs) t := fun e => hne (by rw [e]; exact ⟨rfl, rfl⟩)
            have hdo : dOf l (sLoad l xs) t = [⟨t, true, sOld l t, sOld (sLoad l xs) t⟩] := by rw [dOf, if_pos (.inr hne'), hh]
            rw [hdo] at htk
            try simp -dsimp only [↓RE,↓c_seq,RU,RL,if_true,if_false,forall_const,implies_true,Nat.reduceLeDiff,Nat.reduceLT,pureOp,binPure,intBin,strBin,eqPure,isConstO,unPure,sliceLo,sliceHi,slicePure,slice3Pure,lenPure,capPure,minPure,maxPure,buildP,resK,endV,yieldE,↓reduceIte,Nat.reduceEqDiff,reduceCtorEq,Nat.reduceAdd,Nat.reduceMul,Nat.reduceSub,Int.reduceLT,Int.reduceLE,Int.reduceToNat,Int.reduceAdd,Int.reduceSub,Int.reduceMul,ne_eq,decide_true,decide_false,tf11, he9, he11, he12, he13, he14, hh]
            refine blk_agg2 hb68 ?_
            simp -dsimp only [↓RE,RU,RL,if_true,if_false,forall_const,implies_true,Nat.reduceLeDiff,Nat.reduceLT,pureOp,binPure,intBin,strBin,eqPure,isConstO,unPure,sliceLo,sliceHi,slicePure,slice3Pure,lenPure,capPure,minPure,maxPure,buildP,resK,endV,yieldE,↓reduceIte,Nat.reduceEqDiff,reduceCtorEq,Nat.reduceAdd,Nat.reduceMul,Nat.reduceSub,Int.reduceLT,Int.reduceLE,Int.reduceToNat,Int.reduceAdd,Int.reduceSub,Int.reduceMul,ne_eq,decide_true,decide_false,tf11, he9, he11, he12, he13, he14, hh]
            refine blk_agg2 hb8 ?_
            have hbx := Blk.new' w8 95 (dcells ⟨t, true, sOld l t, sOld (sLoad l xs) t⟩).toArray
            have gx := Grow.alloc w8 (.cells (dcells ⟨t, true, sOld l t, sOld (sLoad l xs) t⟩).toArray 95)
            simp -dsimp only [↓RE,RU,RL,if_true,if_false,forall_const,implies_true,Nat.reduceLeDiff,Nat.reduceLT,pureOp,binPure,intBin,strBin,eqPure,isConstO,unPure,sliceLo,sliceHi,slicePure,slice3Pure,lenPure,capPure,minPure,maxPure,buildP,resK,endV,yieldE,↓reduceIte,Nat.reduceEqDiff,reduceCtorEq,Nat.reduceAdd,Nat.reduceMul,Nat.reduceSub,Int.reduceLT,Int.reduceLE,Int.reduceToNat,Int.reduceAdd,Int.reduceSub,Int.reduceMul,ne_eq,decide_true,decide_false,tf11, he9, he11, he12, he13, he14, hh]
            refine app_dlt (d := ⟨t, true, sOld l t, sOld (sLoad l xs) t⟩) (hD.grow (g58.trans gx)) hbx (by omega) (fun A9 c9 w9 hD9 k9 f9 => ?_)
            have hsx := (g48.trans gx).size
            have hlD : (Dk ++ [(⟨t, true, sOld l t, sOld (sLoad l xs) t⟩ : Dlt)]).length = Dk.length + 1 := by rw [List.length_append]; rfl
            rw [← htk] at hD9 hlD
            simp -dsimp only [↓RE,RU,RL,if_true,if_false,forall_const,implies_true,Nat.reduceLeDiff,Nat.reduceLT,pureOp,binPure,intBin,strBin,eqPure,isConstO,unPure,sliceLo,sliceHi,slicePure,slice3Pure,lenPure,capPure,minPure,maxPure,buildP,resK,endV,yieldE,↓reduceIte,Nat.reduceEqDiff,reduceCtorEq,Nat.reduceAdd,Nat.reduceMul,Nat.reduceSub,Int.reduceLT,Int.reduceLE,Int.reduceToNat,Int.reduceAdd,Int.reduceSub,Int.reduceMul,ne_eq,decide_true,decide_false,tf11, he43, hw1]
            refine hold_intro ⟨⟨by simp -dsimp only [↓RE,RU,RL,if_true,if_false,↓reduceIte,Nat.reduceEqDiff,reduceCtorEq,decide_true,decide_false, he0], by simp -dsimp only [↓RE,RU,RL,if_true,if_false,↓reduceIte,Nat.reduceEqDiff,reduceCtorEq,decide_true,decide_false, he5], by simp -dsimp only [↓RE,RU,RL,if_true,if_false,↓reduceIte,Nat.reduceEqDiff,reduceCtorEq,decide_true,decide_false, he41], by simp -dsimp only [↓RE,RU,RL,if_true,if_false,↓reduceIte,Nat.reduceEqDiff,reduceCtorEq,decide_true,decide_false, he42], k + 1, _, by omega, by simp -dsimp only [↓RE,RU,RL,if_true,if_false,↓reduceIte,Nat.reduceEqDiff,reduceCtorEq,decide_true,decide_false, he43, hw1], by simp -dsimp only [↓RE,RU,RL,if_true,if_false,↓reduceIte,Nat.reduceEqDiff,reduceCtorEq,decide_true,decide_false, he9], hD9, by rw [hlD]; omega, fun q hq => (f9 q hq).elim (hfd q) (fun e => by omega), (g48.trans gx).above k9 (fun q hq e => by have := hfd q e; omega)⟩, ?_⟩
            simp -dsimp only [↓RE,↓c_seq,RU,RL,if_true,if_false,forall_const,implies_true,Nat.reduceLeDiff,Nat.reduceLT,pureOp,binPure,intBin,strBin,eqPure,isConstO,unPure,sliceLo,sliceHi,slicePure,slice3Pure,lenPure,capPure,minPure,maxPure,buildP,resK,endV,yieldE,↓reduceIte,Nat.reduceEqDiff,reduceCtorEq,Nat.reduceAdd,Nat.reduceMul,Nat.reduceSub,Int.reduceLT,Int.reduceLE,Int.reduceToNat,Int.reduceAdd,Int.reduceSub,Int.reduceMul,ne_eq,decide_true,decide_false,tf11, he43o, he43, hw1]
            simp only [envInt_int]; omega
          · have heq' : sOld l t = sOld (sLoad l xs) t := by
              have h2 : (sOld l t).1 = (sOld (sLoad l xs) t).1 ∧ (sOld l t).2 = (sOld (sLoad l xs) t).2 := by first | exact heq | exact Classical.not_not.1 heq
              exact Prod.ext h2.1 h2.2
            have hdo : dOf l (sLoad l xs) t = [] := by rw [dOf, if_neg (by rw [hh]; simp [heq'])]
            rw [hdo, List.append_nil] at htk
            rw [← htk] at hD hDl hfd he9
            simp -dsimp only [↓RE,RU,RL,if_true,if_false,forall_const,implies_true,Nat.reduceLeDiff,Nat.reduceLT,pureOp,binPure,intBin,strBin,eqPure,isConstO,unPure,sliceLo,sliceHi,slicePure,slice3Pure,lenPure,capPure,minPure,maxPure,buildP,resK,endV,yieldE,↓reduceIte,Nat.reduceEqDiff,reduceCtorEq,Nat.reduceAdd,Nat.reduceMul,Nat.reduceSub,Int.reduceLT,Int.reduceLE,Int.reduceToNat,Int.reduceAdd,Int.reduceSub,Int.reduceMul,ne_eq,decide_true,decide_false,tf11, he43, hw1]
            refine hold_intro ⟨⟨by simp -dsimp only [↓RE,RU,RL,if_true,if_false,↓reduceIte,Nat.reduceEqDiff,reduceCtorEq,decide_true,decide_false, he0], by simp -dsimp only [↓RE,RU,RL,if_true,if_false,↓reduceIte,Nat.reduceEqDiff,reduceCtorEq,decide_true,decide_false, he5], by simp -dsimp only [↓RE,RU,RL,if_true,if_false,↓reduceIte,Nat.reduceEqDiff,reduceCtorEq,decide_true,decide_false, he41], by simp -dsimp only [↓RE,RU,RL,if_true,if_false,↓reduceIte,Nat.reduceEqDiff,reduceCtorEq,decide_true,decide_false, he42], k + 1, _, by omega, by simp -dsimp only [↓RE,RU,RL,if_true,if_false,↓reduceIte,Nat.reduceEqDiff,reduceCtorEq,decide_true,decide_false, he43, hw1], by simp -dsimp only [↓RE,RU,RL,if_true,if_false,↓reduceIte,Nat.reduceEqDiff,reduceCtorEq,decide_true,decide_false, he9], hD.grow g58, by omega, hfd, g48⟩, ?_⟩
            simp -dsimp only [↓RE,↓c_seq,RU,RL,if_true,if_false,forall_const,implies_true,Nat.reduceLeDiff,Nat.reduceLT,pureOp,binPure,intBin,strBin,eqPure,isConstO,unPure,sliceLo,sliceHi,slicePure,slice3Pure,lenPure,capPure,minPure,maxPure,buildP,resK,endV,yieldE,↓reduceIte,Nat.reduceEqDiff,reduceCtorEq,Nat.reduceAdd,Nat.reduceMul,Nat.reduceSub,Int.reduceLT,Int.reduceLE,Int.reduceToNat,Int.reduceAdd,Int.reduceSub,Int.reduceMul,ne_eq,decide_true,decide_false,tf11, he43o, he43, hw1]
            simp only [envInt_int]; omega
      · obtain rfl : k = (loadT xs).length := by omega
        rw [List.take_length] at hD
        exact hold_intro ⟨vd, by simp -dsimp only [↓RE,RU,RL,if_true,if_false,↓reduceIte,Nat.reduceEqDiff,reduceCtorEq,decide_true,decide_false, he9], hS4.grow hg, hD, fun q hq => by have := hfd q hq; omega, g14.then_grow hg⟩
    · clear he0 he5 he6
      rintro e w' ⟨vd, he9, hS5, hD5, hfd5, hK5⟩
      obtain ⟨Ad, cd, hvd, _, _⟩ := hD5.form
      subst hvd
      rw [c_seq]
      simp -dsimp only [↓RE,RU,RL,if_true,if_false,forall_const,implies_true,Nat.reduceLeDiff,Nat.reduceLT,pureOp,binPure,intBin,strBin,eqPure,isConstO,unPure,sliceLo,sliceHi,slicePure,slice3Pure,lenPure,capPure,minPure,maxPure,buildP,resK,endV,yieldE,↓reduceIte,Nat.reduceEqDiff,reduceCtorEq,Nat.reduceAdd,Nat.reduceMul,Nat.reduceSub,Int.reduceLT,Int.reduceLE,Int.reduceToNat,Int.reduceAdd,Int.reduceSub,Int.reduceMul,ne_eq,decide_true,decide_false,tf11, he9]
      refine h w' v' Ad cd hS5 (g1.above' hK5 (fun _ _ h => h)) (fun q hq => (hf2 q hq).imp id (fun e => by omega)) hD5 (fun q hq => by have := hfd5 q ((fpV_fpA _ _ _ _).2 hq); omega)

end Go.Proofs.YtcnebgokbjpjnaaGreat
