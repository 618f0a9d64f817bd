/- The law WireWrites, walked. -/
import Derived.Test.YtcjlhfmjcioeeaaOps
import Derived.Test.YtcjlhfmjcioeeaaLive
set_option linter.unusedVariables false
set_option linter.unusedSimpArgs false
set_option maxRecDepth 100000
namespace Go.Proofs.Ytcjlhfmjcioeeaa
open Go

def tot : List OpV → Nat
  | [] => 0
  | o :: l => 64 + o.m + tot l
def wrs : List OpV → List Int × Nat → List Int × Nat
  | [], s => s
  | o :: l, s => wrs l (wr o s)
theorem wrs_snoc (o : OpV) : ∀ (l : List OpV) (s : List Int × Nat), wrs (l ++ [o]) s = wr o (wrs l s)
  | [], s => rfl
  | x :: l, s => wrs_snoc o l (wr x s)
theorem cells4 (ops : List OpV) : ∀ o ∈ ops, o.cells.length = 4 := fun _ _ => rfl
theorem tot_mem : ∀ {ops : List OpV} {o : OpV}, o ∈ ops → o.m ≤ tot ops
  | x :: l, o, h => by
    simp only [tot]
    rcases List.mem_cons.1 h with rfl | h
    · omega
    · have := tot_mem h; omega

theorem writes_walk {w : World} {A : Option Addr} {n c : Nat} {ops : List OpV} (hA : Rd w A n 4 (ops.flatMap OpV.cells)) (ho : ∀ o ∈ ops, o.Ok w) (hn : n ≤ 140737488355328) (hT : tot ops ≤ 140737488355000) {R : VWK}
    (h : ∀ w', Grow w w' → R (.bool true) w') : CallsV Try.prog 4 [.slice A n c] w R := by
  have hnl : n = ops.length := by
    have := hA.1.symm.trans (flat_len OpV.cells ops (cells4 ops)); omega
  refine calls_of_wpC mixed Try.func4 rfl (by kernel_rfl) ?_
  intro e he
  have he0 := he 0
  simp only [List.getD_cons_zero, List.getD_cons_succ] at he0
  clear he
  simp only [↓RD,↓c_seq,RU,RL,if_true,if_false,forall_const,implies_true,Nat.reduceLeDiff,Nat.reduceLT,pureOp,binPure,intBin,strBin,eqPure,isConstO,unPure,sliceLo,sliceHi,slicePure,lenPure,minPure,maxPure,buildP,resK,endV,yieldE,↓reduceIte,Nat.reduceEqDiff,reduceCtorEq,Nat.reduceAdd,Nat.reduceMul,Nat.reduceSub,Int.reduceLT,Int.reduceLE,Int.reduceToNat,Int.reduceAdd,Int.reduceSub,Int.reduceMul,ne_eq,decide_true,decide_false,tf4, he0]
  have hB1 := Blk.new' w 30 #[.slice none 0 0, .int .i64 0]
  have g1 := Grow.alloc w (.cells #[.slice none 0 0, .int .i64 0] 30)
  have hB2 := Blk.new' (w.alloc (.cells #[.slice none 0 0, .int .i64 0] 30)) 33 #[.slice none 0 0, .int .i64 0]
  have g2 := Grow.alloc (w.alloc (.cells #[.slice none 0 0, .int .i64 0] 30)) (.cells #[.slice none 0 0, .int .i64 0] 33)
  have hB1 := hB1.grow g2
  have e2 : (w.alloc (.cells #[.slice none 0 0, .int .i64 0] 30)).heap.size = w.heap.size + 1 := by simp
  rw [e2] at hB2
  have g12 := g1.trans g2
  have hW0 : WAt 30 ((w.alloc (.cells #[.slice none 0 0, .int .i64 0] 30)).alloc (.cells #[.slice none 0 0, .int .i64 0] 33)) (fun k => k = w.heap.size ∨ fpV (.slice none 0 0) k) w.heap.size [] 0 := ⟨_, hB1, own_nil _ _ _, rfl⟩
  have hM0 : WAt 33 ((w.alloc (.cells #[.slice none 0 0, .int .i64 0] 30)).alloc (.cells #[.slice none 0 0, .int .i64 0] 33)) (fun k => k = w.heap.size + 1 ∨ fpV (.slice none 0 0) k) (w.heap.size + 1) [] 0 := ⟨_, hB2, own_nil _ _ _, rfl⟩
  refine wpLoop_intro (fun e' w' => e' 3 = .pointer (some ⟨w.heap.size, 0, none⟩) ∧ e' 4 = .pointer (some ⟨w.heap.size + 1, 0, none⟩) ∧ e' 11 = .slice A n c ∧ e' 12 = .int .i64 n ∧
      ∃ (done rest : List OpV) (F G : Nat → Prop), ops = done ++ rest ∧ e' 13 = .int .i64 done.length ∧ WAt 30 w' F w.heap.size (wrs done ([], 0)).1 (wrs done ([], 0)).2 ∧
        WAt 33 w' G (w.heap.size + 1) (wrs done ([], 0)).1 (wrs done ([], 0)).2 ∧ (∀ k, F k → ¬ G k) ∧ WOk (wrs done ([], 0)).1 (wrs done ([], 0)).2 ∧
        (∀ k, F k → w.heap.size ≤ k) ∧ (∀ k, G k → w.heap.size ≤ k) ∧ Grow w w' ∧ (wrs done ([], 0)).1.length + tot rest ≤ tot ops)
    (fun e' _ => n - (envInt (e' 13)).toNat) ⟨?_, ?_, ?_, ?_, [], ops, _, _, rfl, ?_, hW0, hM0, ?_, WOk.nil, ?_, ?_, g12, ?_⟩ ?_
  · simp only [↓RD,↓c_seq,RU,RL,if_true,if_false,forall_const,implies_true,Nat.reduceLeDiff,Nat.reduceLT,pureOp,binPure,intBin,strBin,eqPure,isConstO,unPure,sliceLo,sliceHi,slicePure,lenPure,minPure,maxPure,buildP,resK,endV,yieldE,↓reduceIte,Nat.reduceEqDiff,reduceCtorEq,Nat.reduceAdd,Nat.reduceMul,Nat.reduceSub,Int.reduceLT,Int.reduceLE,Int.reduceToNat,Int.reduceAdd,Int.reduceSub,Int.reduceMul,ne_eq,decide_true,decide_false,tf4]
  · simp only [↓RD,↓c_seq,RU,RL,if_true,if_false,forall_const,implies_true,Nat.reduceLeDiff,Nat.reduceLT,pureOp,binPure,intBin,strBin,eqPure,isConstO,unPure,sliceLo,sliceHi,slicePure,lenPure,minPure,maxPure,buildP,resK,endV,yieldE,↓reduceIte,Nat.reduceEqDiff,reduceCtorEq,Nat.reduceAdd,Nat.reduceMul,Nat.reduceSub,Int.reduceLT,Int.reduceLE,Int.reduceToNat,Int.reduceAdd,Int.reduceSub,Int.reduceMul,ne_eq,decide_true,decide_false,tf4, e2]
  · simp only [↓RD,↓c_seq,RU,RL,if_true,if_false,forall_const,implies_true,Nat.reduceLeDiff,Nat.reduceLT,pureOp,binPure,intBin,strBin,eqPure,isConstO,unPure,sliceLo,sliceHi,slicePure,lenPure,minPure,maxPure,buildP,resK,endV,yieldE,↓reduceIte,Nat.reduceEqDiff,reduceCtorEq,Nat.reduceAdd,Nat.reduceMul,Nat.reduceSub,Int.reduceLT,Int.reduceLE,Int.reduceToNat,Int.reduceAdd,Int.reduceSub,Int.reduceMul,ne_eq,decide_true,decide_false,tf4, he0]
  · simp only [↓RD,↓c_seq,RU,RL,if_true,if_false,forall_const,implies_true,Nat.reduceLeDiff,Nat.reduceLT,pureOp,binPure,intBin,strBin,eqPure,isConstO,unPure,sliceLo,sliceHi,slicePure,lenPure,minPure,maxPure,buildP,resK,endV,yieldE,↓reduceIte,Nat.reduceEqDiff,reduceCtorEq,Nat.reduceAdd,Nat.reduceMul,Nat.reduceSub,Int.reduceLT,Int.reduceLE,Int.reduceToNat,Int.reduceAdd,Int.reduceSub,Int.reduceMul,ne_eq,decide_true,decide_false,tf4, he0]
  · simp only [↓RD,↓c_seq,RU,RL,if_true,if_false,forall_const,implies_true,Nat.reduceLeDiff,Nat.reduceLT,pureOp,binPure,intBin,strBin,eqPure,isConstO,unPure,sliceLo,sliceHi,slicePure,lenPure,minPure,maxPure,buildP,resK,endV,yieldE,↓reduceIte,Nat.reduceEqDiff,reduceCtorEq,Nat.reduceAdd,Nat.reduceMul,Nat.reduceSub,Int.reduceLT,Int.reduceLE,Int.reduceToNat,Int.reduceAdd,Int.reduceSub,Int.reduceMul,ne_eq,decide_true,decide_false,tf4, he0, Int.cast_ofNat_Int]
  · rintro k (rfl | hk) (hg | hg)
    · omega
    · exact fpV_none _ hg
    · exact fpV_none _ hk
    · exact fpV_none _ hk
  · rintro k (rfl | hk)
    · omega
    · exact absurd hk (fpV_none _)
  · rintro k (rfl | hk)
    · omega
    · exact absurd hk (fpV_none _)
  · simp [wrs]
  rintro e' w' ⟨h3, h4, h11, h12, done, rest, F, G, hops, h13, hW, hM, hd, hok, hF, hG, hg, hlen⟩
  generalize hz : wrs done ([], 0) = s at hW hM hok hlen
  obtain ⟨zs, b⟩ := s
  simp only at hW hM hok hlen
  have hnd : n = done.length + rest.length := by rw [hnl, hops, List.length_append]
  rw [c_seq]
  simp only [↓RD,RU,RL,if_true,if_false,forall_const,implies_true,Nat.reduceLeDiff,Nat.reduceLT,pureOp,binPure,intBin,strBin,eqPure,isConstO,unPure,sliceLo,sliceHi,slicePure,lenPure,minPure,maxPure,buildP,resK,endV,yieldE,↓reduceIte,Nat.reduceEqDiff,reduceCtorEq,Nat.reduceAdd,Nat.reduceMul,Nat.reduceSub,Int.reduceLT,Int.reduceLE,Int.reduceToNat,Int.reduceAdd,Int.reduceSub,Int.reduceMul,ne_eq,decide_true,decide_false,tf4, h3, h4, h11, h12, h13]
  rw [c_seq]
  simp only [↓RD,RU,RL,if_true,if_false,forall_const,implies_true,Nat.reduceLeDiff,Nat.reduceLT,pureOp,binPure,intBin,strBin,eqPure,isConstO,unPure,sliceLo,sliceHi,slicePure,lenPure,minPure,maxPure,buildP,resK,endV,yieldE,↓reduceIte,Nat.reduceEqDiff,reduceCtorEq,Nat.reduceAdd,Nat.reduceMul,Nat.reduceSub,Int.reduceLT,Int.reduceLE,Int.reduceToNat,Int.reduceAdd,Int.reduceSub,Int.reduceMul,ne_eq,decide_true,decide_false,tf4, h3, h4, h11, h12, h13]
  refine ⟨fun hlt => ?_, fun hge => ?_⟩
  · obtain ⟨o, rest, rfl⟩ : ∃ o r, rest = o :: r := by
      cases rest with
      | nil => simp at hnd; omega
      | cons o r => exact ⟨o, r, rfl⟩
    have hmem : o ∈ ops := by rw [hops]; simp
    have hget : ops[done.length]? = some o := by rw [hops]; simp
    obtain ⟨hkn, ad, rfl, hc⟩ := (hA.grow hg).flat (cells4 ops) hget (by omega)
    have hoo := (ho o hmem).keep hg (fun _ _ _ h => h)
    simp only [tot] at hlen
    simp only [↓RD,↓c_seq,RU,RL,if_true,if_false,forall_const,implies_true,Nat.reduceLeDiff,Nat.reduceLT,pureOp,binPure,intBin,strBin,eqPure,isConstO,unPure,sliceLo,sliceHi,slicePure,lenPure,minPure,maxPure,buildP,resK,endV,yieldE,↓reduceIte,Nat.reduceEqDiff,reduceCtorEq,Nat.reduceAdd,Nat.reduceMul,Nat.reduceSub,Int.reduceLT,Int.reduceLE,Int.reduceToNat,Int.reduceAdd,Int.reduceSub,Int.reduceMul,ne_eq,decide_true,decide_false,tf4, h3, h4, h11, h12, h13]
    refine ⟨⟨by omega, by omega⟩, o.cells, rfl, hc, ?_⟩
    simp only [↓RD,↓c_seq,RU,RL,if_true,if_false,forall_const,implies_true,Nat.reduceLeDiff,Nat.reduceLT,pureOp,binPure,intBin,strBin,eqPure,isConstO,unPure,sliceLo,sliceHi,slicePure,lenPure,minPure,maxPure,buildP,resK,endV,yieldE,↓reduceIte,Nat.reduceEqDiff,reduceCtorEq,Nat.reduceAdd,Nat.reduceMul,Nat.reduceSub,Int.reduceLT,Int.reduceLE,Int.reduceToNat,Int.reduceAdd,Int.reduceSub,Int.reduceMul,ne_eq,decide_true,decide_false,tf4, h3, h4, h11, h12, h13]
    have hz0 := Blk.new' w' 36 #[.int .i64 0, .int .u64 0, .int .i64 0, .slice none 0 0]
    have ga := Grow.alloc w' (.cells #[.int .i64 0, .int .u64 0, .int .i64 0, .slice none 0 0] 36)
    refine ⟨rfl, hz0.stAgg (by simp [OpV.cells]) (by simp [OpV.cells, Value.oneCell']) (fun w2 hB2 hK2 => ?_)⟩
    have hB2 : Blk w2 w'.heap.size 36 o.cells := by simpa [OpV.cells] using hB2
    have g2 : Grow w' w2 := ga.above hK2 (fun i hi e => by omega)
    simp only [↓RD,↓c_seq,RU,RL,if_true,if_false,forall_const,implies_true,Nat.reduceLeDiff,Nat.reduceLT,pureOp,binPure,intBin,strBin,eqPure,isConstO,unPure,sliceLo,sliceHi,slicePure,lenPure,minPure,maxPure,buildP,resK,endV,yieldE,↓reduceIte,Nat.reduceEqDiff,reduceCtorEq,Nat.reduceAdd,Nat.reduceMul,Nat.reduceSub,Int.reduceLT,Int.reduceLE,Int.reduceToNat,Int.reduceAdd,Int.reduceSub,Int.reduceMul,ne_eq,decide_true,decide_false,tf4, h3, h4, h11, h12, h13]
    refine hB2.aggK (by simp [OpV.cells]) ?_
    simp only [↓RD,↓c_seq,RU,RL,if_true,if_false,forall_const,implies_true,Nat.reduceLeDiff,Nat.reduceLT,pureOp,binPure,intBin,strBin,eqPure,isConstO,unPure,sliceLo,sliceHi,slicePure,lenPure,minPure,maxPure,buildP,resK,endV,yieldE,↓reduceIte,Nat.reduceEqDiff,reduceCtorEq,Nat.reduceAdd,Nat.reduceMul,Nat.reduceSub,Int.reduceLT,Int.reduceLE,Int.reduceToNat,Int.reduceAdd,Int.reduceSub,Int.reduceMul,ne_eq,decide_true,decide_false,tf4, h3, h4, h11, h12, h13]
    rw [List.drop_zero, List.take_of_length_le (by simp [OpV.cells])]
    have hs2 := g2.size
    refine write_ok (hW.grow g2) (hM.grow g2) hd hok (hoo.keep g2 (fun _ _ _ h => h)) (fun h0 k hk => ?_) (by omega) (fun w3 F3 G3 hW3 hM3 hd3 hS3 => ?_)
    · have := (ho o hmem).rd.lt h0 (by omega) k hk
      exact ⟨fun hf => absurd (hF k hf) (by omega), fun hf => absurd (hG k hf) (by omega)⟩
    have hB3 : Blk w3 w'.heap.size 36 o.cells := hB2.keep hS3.keep (fun hf => hf.elim (fun hf => absurd (hW.lt _ hf) (by omega)) (fun hf => absurd (hM.lt _ hf) (by omega)))
    have hok3 := wr_ok (s := (zs, b)) (ho o hmem) hok
    have hl3 := wr_len (ho o hmem) (by have := tot_mem hmem; omega) (zs, b)
    have g3 : Grow w w3 := (hg.trans g2).above hS3.keep (fun i hi hf => hf.elim (fun hf => absurd (hF i hf) (by omega)) (fun hf => absurd (hG i hf) (by omega)))
    have hF3 : ∀ k, F3 k → w.heap.size ≤ k := fun k hk => (hS3.sub k (.inl hk)).elim (fun h => h.elim (hF k) (hG k)) (fun h => by have := hg.size; omega)
    have hG3 : ∀ k, G3 k → w.heap.size ≤ k := fun k hk => (hS3.sub k (.inr hk)).elim (fun h => h.elim (hF k) (hG k)) (fun h => by have := hg.size; omega)
    generalize hz3 : wr o (zs, b) = s3 at hW3 hM3 hok3 hl3
    obtain ⟨zs3, b3⟩ := s3
    simp only at hW3 hM3 hok3 hl3
    simp only [↓RD,↓c_seq,RU,RL,if_true,if_false,forall_const,implies_true,Nat.reduceLeDiff,Nat.reduceLT,pureOp,binPure,intBin,strBin,eqPure,isConstO,unPure,sliceLo,sliceHi,slicePure,lenPure,minPure,maxPure,buildP,resK,endV,yieldE,↓reduceIte,Nat.reduceEqDiff,reduceCtorEq,Nat.reduceAdd,Nat.reduceMul,Nat.reduceSub,Int.reduceLT,Int.reduceLE,Int.reduceToNat,Int.reduceAdd,Int.reduceSub,Int.reduceMul,ne_eq,decide_true,decide_false,tf4, h3, h4, h11, h12, h13]
    refine wpDraw_by (Grow w3) [(0, true), (2, true), (3, true), (4, true), (5, true), (6, true), (1, false), (7, true), (8, true), (9, true), (10, true), (11, true), (12, true), (13, true), (15, true), (16, true), (17, true), (18, true), (14, false), (19, false), (20, true), (21, true), (22, true)] (by kernel_rfl) (Grow.drew w3) ?_
    obtain ⟨sv, hBm, hOm, hGe⟩ := hM3
    obtain ⟨Am, cm, rfl, _⟩ := own_form hOm
    simp only [planL, List.getElem?_toArray, List.getElem?_cons_zero, List.getElem?_cons_succ, Option.toList_some, List.map_cons, List.map_nil, List.cons_append, List.nil_append]
    simp only [↓RD,↓c_seq,RU,RL,if_true,if_false,forall_const,implies_true,Nat.reduceLeDiff,Nat.reduceLT,pureOp,binPure,intBin,strBin,eqPure,isConstO,unPure,sliceLo,sliceHi,slicePure,lenPure,minPure,maxPure,buildP,resK,endV,yieldE,↓reduceIte,Nat.reduceEqDiff,reduceCtorEq,Nat.reduceAdd,Nat.reduceMul,Nat.reduceSub,Int.reduceLT,Int.reduceLE,Int.reduceToNat,Int.reduceAdd,Int.reduceSub,Int.reduceMul,ne_eq,decide_true,decide_false,tf4, h3, h4, h11, h12, h13]
    refine ⟨_, fun w' g => (hBm.grow g).cell 0, ?_⟩
    simp only [↓RD,↓c_seq,RU,RL,if_true,if_false,forall_const,implies_true,Nat.reduceLeDiff,Nat.reduceLT,pureOp,binPure,intBin,strBin,eqPure,isConstO,unPure,sliceLo,sliceHi,slicePure,lenPure,minPure,maxPure,buildP,resK,endV,yieldE,↓reduceIte,Nat.reduceEqDiff,reduceCtorEq,Nat.reduceAdd,Nat.reduceMul,Nat.reduceSub,Int.reduceLT,Int.reduceLE,Int.reduceToNat,Int.reduceAdd,Int.reduceSub,Int.reduceMul,ne_eq,decide_true,decide_false,tf4, h3, h4, h11, h12, h13]
    refine len_ok (hW3.grow (Grow.drew w3)) ?_
    simp only [↓RD,↓c_seq,RU,RL,if_true,if_false,forall_const,implies_true,Nat.reduceLeDiff,Nat.reduceLT,pureOp,binPure,intBin,strBin,eqPure,isConstO,unPure,sliceLo,sliceHi,slicePure,lenPure,minPure,maxPure,buildP,resK,endV,yieldE,↓reduceIte,Nat.reduceEqDiff,reduceCtorEq,Nat.reduceAdd,Nat.reduceMul,Nat.reduceSub,Int.reduceLT,Int.reduceLE,Int.reduceToNat,Int.reduceAdd,Int.reduceSub,Int.reduceMul,ne_eq,decide_true,decide_false,tf4, h3, h4, h11, h12, h13]
    refine ⟨Grow.drew w3, _, fun w' g => (hB3.grow g).cell 0, ?_⟩
    have nd : wrs (done ++ [o]) ([], 0) = (zs3, b3) := by rw [wrs_snoc, hz, hz3]
    by_cases h6 : 6 < o.k
    · simp only [↓RD,↓c_seq,RU,RL,if_true,if_false,forall_const,implies_true,Nat.reduceLeDiff,Nat.reduceLT,pureOp,binPure,intBin,strBin,eqPure,isConstO,unPure,sliceLo,sliceHi,slicePure,lenPure,minPure,maxPure,buildP,resK,endV,yieldE,↓reduceIte,Nat.reduceEqDiff,reduceCtorEq,Nat.reduceAdd,Nat.reduceMul,Nat.reduceSub,Int.reduceLT,Int.reduceLE,Int.reduceToNat,Int.reduceAdd,Int.reduceSub,Int.reduceMul,ne_eq,decide_true,decide_false,tf4, h3, h4, h11, h12, h13, h6]
      refine ⟨_, fun w' g => (hBm.grow g).cell 0, ?_⟩
      simp only [↓RD,↓c_seq,RU,RL,if_true,if_false,forall_const,implies_true,Nat.reduceLeDiff,Nat.reduceLT,pureOp,binPure,intBin,strBin,eqPure,isConstO,unPure,sliceLo,sliceHi,slicePure,lenPure,minPure,maxPure,buildP,resK,endV,yieldE,↓reduceIte,Nat.reduceEqDiff,reduceCtorEq,Nat.reduceAdd,Nat.reduceMul,Nat.reduceSub,Int.reduceLT,Int.reduceLE,Int.reduceToNat,Int.reduceAdd,Int.reduceSub,Int.reduceMul,ne_eq,decide_true,decide_false,tf4, h3, h4, h11, h12, h13, h6]
      refine bytes_ok (hW3.grow (Grow.drew w3)) (by omega) (fun w4 A4 c4 hO4 g4 _ => ?_)
      simp only [↓RD,↓c_seq,RU,RL,if_true,if_false,forall_const,implies_true,Nat.reduceLeDiff,Nat.reduceLT,pureOp,binPure,intBin,strBin,eqPure,isConstO,unPure,sliceLo,sliceHi,slicePure,lenPure,minPure,maxPure,buildP,resK,endV,yieldE,↓reduceIte,Nat.reduceEqDiff,reduceCtorEq,Nat.reduceAdd,Nat.reduceMul,Nat.reduceSub,Int.reduceLT,Int.reduceLE,Int.reduceToNat,Int.reduceAdd,Int.reduceSub,Int.reduceMul,ne_eq,decide_true,decide_false,tf4, h3, h4, h11, h12, h13, h6]
      refine ⟨(Grow.drew w3).trans g4, ?_⟩
      have g34 := (Grow.drew w3).trans g4
      refine same_ok (Rd.of_own hO4) (Rd.of_own (own_grow hOm g34)) (by omega) (by omega) (fun w5 g5 => ?_)
      simp only [↓RD,↓c_seq,RU,RL,if_true,if_false,forall_const,implies_true,Nat.reduceLeDiff,Nat.reduceLT,pureOp,binPure,intBin,strBin,eqPure,isConstO,unPure,sliceLo,sliceHi,slicePure,lenPure,minPure,maxPure,buildP,resK,endV,yieldE,↓reduceIte,Nat.reduceEqDiff,reduceCtorEq,Nat.reduceAdd,Nat.reduceMul,Nat.reduceSub,Int.reduceLT,Int.reduceLE,Int.reduceToNat,Int.reduceAdd,Int.reduceSub,Int.reduceMul,ne_eq,decide_true,decide_false,tf4, h3, h4, h11, h12, h13, h6, eq_self]
      refine ⟨g34.trans g5, ?_⟩
      refine hold_intro ⟨⟨?_, ?_, ?_, ?_, done ++ [o], rest, F3, G3, by rw [hops]; simp, ?_, by rw [nd]; exact hW3.grow (g34.trans g5), by rw [nd]; exact WAt.grow ⟨_, hBm, hOm, hGe⟩ (g34.trans g5), hd3, by rw [nd]; exact hok3, hF3, hG3, g3.trans (g34.trans g5), by rw [nd]; simp only; omega⟩, ?_⟩
      · simp only [↓RD,↓c_seq,RU,RL,if_true,if_false,forall_const,implies_true,Nat.reduceLeDiff,Nat.reduceLT,pureOp,binPure,intBin,strBin,eqPure,isConstO,unPure,sliceLo,sliceHi,slicePure,lenPure,minPure,maxPure,buildP,resK,endV,yieldE,↓reduceIte,Nat.reduceEqDiff,reduceCtorEq,Nat.reduceAdd,Nat.reduceMul,Nat.reduceSub,Int.reduceLT,Int.reduceLE,Int.reduceToNat,Int.reduceAdd,Int.reduceSub,Int.reduceMul,ne_eq,decide_true,decide_false,tf4, h3]
      · simp only [↓RD,↓c_seq,RU,RL,if_true,if_false,forall_const,implies_true,Nat.reduceLeDiff,Nat.reduceLT,pureOp,binPure,intBin,strBin,eqPure,isConstO,unPure,sliceLo,sliceHi,slicePure,lenPure,minPure,maxPure,buildP,resK,endV,yieldE,↓reduceIte,Nat.reduceEqDiff,reduceCtorEq,Nat.reduceAdd,Nat.reduceMul,Nat.reduceSub,Int.reduceLT,Int.reduceLE,Int.reduceToNat,Int.reduceAdd,Int.reduceSub,Int.reduceMul,ne_eq,decide_true,decide_false,tf4, h4]
      · simp only [↓RD,↓c_seq,RU,RL,if_true,if_false,forall_const,implies_true,Nat.reduceLeDiff,Nat.reduceLT,pureOp,binPure,intBin,strBin,eqPure,isConstO,unPure,sliceLo,sliceHi,slicePure,lenPure,minPure,maxPure,buildP,resK,endV,yieldE,↓reduceIte,Nat.reduceEqDiff,reduceCtorEq,Nat.reduceAdd,Nat.reduceMul,Nat.reduceSub,Int.reduceLT,Int.reduceLE,Int.reduceToNat,Int.reduceAdd,Int.reduceSub,Int.reduceMul,ne_eq,decide_true,decide_false,tf4, h11]
      · simp only [↓RD,↓c_seq,RU,RL,if_true,if_false,forall_const,implies_true,Nat.reduceLeDiff,Nat.reduceLT,pureOp,binPure,intBin,strBin,eqPure,isConstO,unPure,sliceLo,sliceHi,slicePure,lenPure,minPure,maxPure,buildP,resK,endV,yieldE,↓reduceIte,Nat.reduceEqDiff,reduceCtorEq,Nat.reduceAdd,Nat.reduceMul,Nat.reduceSub,Int.reduceLT,Int.reduceLE,Int.reduceToNat,Int.reduceAdd,Int.reduceSub,Int.reduceMul,ne_eq,decide_true,decide_false,tf4, h12]
      · simp only [↓RD,↓c_seq,RU,RL,if_true,if_false,forall_const,implies_true,Nat.reduceLeDiff,Nat.reduceLT,pureOp,binPure,intBin,strBin,eqPure,isConstO,unPure,sliceLo,sliceHi,slicePure,lenPure,minPure,maxPure,buildP,resK,endV,yieldE,↓reduceIte,Nat.reduceEqDiff,reduceCtorEq,Nat.reduceAdd,Nat.reduceMul,Nat.reduceSub,Int.reduceLT,Int.reduceLE,Int.reduceToNat,Int.reduceAdd,Int.reduceSub,Int.reduceMul,ne_eq,decide_true,decide_false,tf4, h13]
        rw [wrap_i64_in (by omega) (by omega)]; simp
      · simp only [↓RD,↓c_seq,RU,RL,if_true,if_false,forall_const,implies_true,Nat.reduceLeDiff,Nat.reduceLT,pureOp,binPure,intBin,strBin,eqPure,isConstO,unPure,sliceLo,sliceHi,slicePure,lenPure,minPure,maxPure,buildP,resK,endV,yieldE,↓reduceIte,Nat.reduceEqDiff,reduceCtorEq,Nat.reduceAdd,Nat.reduceMul,Nat.reduceSub,Int.reduceLT,Int.reduceLE,Int.reduceToNat,Int.reduceAdd,Int.reduceSub,Int.reduceMul,ne_eq,decide_true,decide_false,tf4, h13]
        rw [wrap_i64_in (by omega) (by omega), envInt_int, envInt_int]; omega
    · simp only [↓RD,↓c_seq,RU,RL,if_true,if_false,forall_const,implies_true,Nat.reduceLeDiff,Nat.reduceLT,pureOp,binPure,intBin,strBin,eqPure,isConstO,unPure,sliceLo,sliceHi,slicePure,lenPure,minPure,maxPure,buildP,resK,endV,yieldE,↓reduceIte,Nat.reduceEqDiff,reduceCtorEq,Nat.reduceAdd,Nat.reduceMul,Nat.reduceSub,Int.reduceLT,Int.reduceLE,Int.reduceToNat,Int.reduceAdd,Int.reduceSub,Int.reduceMul,ne_eq,decide_true,decide_false,tf4, h3, h4, h11, h12, h13, h6]
      refine ⟨Grow.drew w3, Grow.drew w3, hold_intro ⟨⟨?_, ?_, ?_, ?_, done ++ [o], rest, F3, G3, by rw [hops]; simp, ?_, by rw [nd]; exact hW3.grow (Grow.drew w3), by rw [nd]; exact WAt.grow ⟨_, hBm, hOm, hGe⟩ (Grow.drew w3), hd3, by rw [nd]; exact hok3, hF3, hG3, g3.trans (Grow.drew w3), by rw [nd]; simp only; omega⟩, ?_⟩⟩
      · simp only [↓RD,↓c_seq,RU,RL,if_true,if_false,forall_const,implies_true,Nat.reduceLeDiff,Nat.reduceLT,pureOp,binPure,intBin,strBin,eqPure,isConstO,unPure,sliceLo,sliceHi,slicePure,lenPure,minPure,maxPure,buildP,resK,endV,yieldE,↓reduceIte,Nat.reduceEqDiff,reduceCtorEq,Nat.reduceAdd,Nat.reduceMul,Nat.reduceSub,Int.reduceLT,Int.reduceLE,Int.reduceToNat,Int.reduceAdd,Int.reduceSub,Int.reduceMul,ne_eq,decide_true,decide_false,tf4, h3]
      · simp only [↓RD,↓c_seq,RU,RL,if_true,if_false,forall_const,implies_true,Nat.reduceLeDiff,Nat.reduceLT,pureOp,binPure,intBin,strBin,eqPure,isConstO,unPure,sliceLo,sliceHi,slicePure,lenPure,minPure,maxPure,buildP,resK,endV,yieldE,↓reduceIte,Nat.reduceEqDiff,reduceCtorEq,Nat.reduceAdd,Nat.reduceMul,Nat.reduceSub,Int.reduceLT,Int.reduceLE,Int.reduceToNat,Int.reduceAdd,Int.reduceSub,Int.reduceMul,ne_eq,decide_true,decide_false,tf4, h4]
      · simp only [↓RD,↓c_seq,RU,RL,if_true,if_false,forall_const,implies_true,Nat.reduceLeDiff,Nat.reduceLT,pureOp,binPure,intBin,strBin,eqPure,isConstO,unPure,sliceLo,sliceHi,slicePure,lenPure,minPure,maxPure,buildP,resK,endV,yieldE,↓reduceIte,Nat.reduceEqDiff,reduceCtorEq,Nat.reduceAdd,Nat.reduceMul,Nat.reduceSub,Int.reduceLT,Int.reduceLE,Int.reduceToNat,Int.reduceAdd,Int.reduceSub,Int.reduceMul,ne_eq,decide_true,decide_false,tf4, h11]
      · simp only [↓RD,↓c_seq,RU,RL,if_true,if_false,forall_const,implies_true,Nat.reduceLeDiff,Nat.reduceLT,pureOp,binPure,intBin,strBin,eqPure,isConstO,unPure,sliceLo,sliceHi,slicePure,lenPure,minPure,maxPure,buildP,resK,endV,yieldE,↓reduceIte,Nat.reduceEqDiff,reduceCtorEq,Nat.reduceAdd,Nat.reduceMul,Nat.reduceSub,Int.reduceLT,Int.reduceLE,Int.reduceToNat,Int.reduceAdd,Int.reduceSub,Int.reduceMul,ne_eq,decide_true,decide_false,tf4, h12]
      · simp only [↓RD,↓c_seq,RU,RL,if_true,if_false,forall_const,implies_true,Nat.reduceLeDiff,Nat.reduceLT,pureOp,binPure,intBin,strBin,eqPure,isConstO,unPure,sliceLo,sliceHi,slicePure,lenPure,minPure,maxPure,buildP,resK,endV,yieldE,↓reduceIte,Nat.reduceEqDiff,reduceCtorEq,Nat.reduceAdd,Nat.reduceMul,Nat.reduceSub,Int.reduceLT,Int.reduceLE,Int.reduceToNat,Int.reduceAdd,Int.reduceSub,Int.reduceMul,ne_eq,decide_true,decide_false,tf4, h13]
        rw [wrap_i64_in (by omega) (by omega)]; simp
      · simp only [↓RD,↓c_seq,RU,RL,if_true,if_false,forall_const,implies_true,Nat.reduceLeDiff,Nat.reduceLT,pureOp,binPure,intBin,strBin,eqPure,isConstO,unPure,sliceLo,sliceHi,slicePure,lenPure,minPure,maxPure,buildP,resK,endV,yieldE,↓reduceIte,Nat.reduceEqDiff,reduceCtorEq,Nat.reduceAdd,Nat.reduceMul,Nat.reduceSub,Int.reduceLT,Int.reduceLE,Int.reduceToNat,Int.reduceAdd,Int.reduceSub,Int.reduceMul,ne_eq,decide_true,decide_false,tf4, h13]
        rw [wrap_i64_in (by omega) (by omega), envInt_int, envInt_int]; omega
  · obtain rfl : rest = [] := by
      cases rest with
      | nil => rfl
      | cons o r => simp at hnd; omega
    refine wpDraw_by (Grow w') [(0, false), (1, true), (2, true), (4, true), (5, true), (6, true), (7, true), (3, false), (8, false), (9, true), (10, true)] (by kernel_rfl) (Grow.drew w') ?_
    obtain ⟨sv, hBm, hOm, hGe⟩ := hM
    obtain ⟨Am, cm, rfl, _⟩ := own_form hOm
    simp only [planL, List.getElem?_toArray, List.getElem?_cons_zero, List.getElem?_cons_succ, Option.toList_some, List.map_cons, List.map_nil, List.cons_append, List.nil_append]
    simp only [↓RD,↓c_seq,RU,RL,if_true,if_false,forall_const,implies_true,Nat.reduceLeDiff,Nat.reduceLT,pureOp,binPure,intBin,strBin,eqPure,isConstO,unPure,sliceLo,sliceHi,slicePure,lenPure,minPure,maxPure,buildP,resK,endV,yieldE,↓reduceIte,Nat.reduceEqDiff,reduceCtorEq,Nat.reduceAdd,Nat.reduceMul,Nat.reduceSub,Int.reduceLT,Int.reduceLE,Int.reduceToNat,Int.reduceAdd,Int.reduceSub,Int.reduceMul,ne_eq,decide_true,decide_false,tf4, h3, h4, h11, h12, h13]
    refine live_ok (fun w2 g2 => ?_)
    simp only [↓RD,↓c_seq,RU,RL,if_true,if_false,forall_const,implies_true,Nat.reduceLeDiff,Nat.reduceLT,pureOp,binPure,intBin,strBin,eqPure,isConstO,unPure,sliceLo,sliceHi,slicePure,lenPure,minPure,maxPure,buildP,resK,endV,yieldE,↓reduceIte,Nat.reduceEqDiff,reduceCtorEq,Nat.reduceAdd,Nat.reduceMul,Nat.reduceSub,Int.reduceLT,Int.reduceLE,Int.reduceToNat,Int.reduceAdd,Int.reduceSub,Int.reduceMul,ne_eq,decide_true,decide_false,tf4, h3, h4, h11, h12, h13]
    refine ⟨(Grow.drew w').trans g2, _, fun w' g => (hBm.grow g).cell 0, ?_⟩
    simp only [↓RD,↓c_seq,RU,RL,if_true,if_false,forall_const,implies_true,Nat.reduceLeDiff,Nat.reduceLT,pureOp,binPure,intBin,strBin,eqPure,isConstO,unPure,sliceLo,sliceHi,slicePure,lenPure,minPure,maxPure,buildP,resK,endV,yieldE,↓reduceIte,Nat.reduceEqDiff,reduceCtorEq,Nat.reduceAdd,Nat.reduceMul,Nat.reduceSub,Int.reduceLT,Int.reduceLE,Int.reduceToNat,Int.reduceAdd,Int.reduceSub,Int.reduceMul,ne_eq,decide_true,decide_false,tf4, h3, h4, h11, h12, h13]
    have g2' := (Grow.drew w').trans g2
    refine bytes_ok (hW.grow g2') (by simp only [tot] at hlen; omega) (fun w4 A4 c4 hO4 g4 _ => ?_)
    simp only [↓RD,↓c_seq,RU,RL,if_true,if_false,forall_const,implies_true,Nat.reduceLeDiff,Nat.reduceLT,pureOp,binPure,intBin,strBin,eqPure,isConstO,unPure,sliceLo,sliceHi,slicePure,lenPure,minPure,maxPure,buildP,resK,endV,yieldE,↓reduceIte,Nat.reduceEqDiff,reduceCtorEq,Nat.reduceAdd,Nat.reduceMul,Nat.reduceSub,Int.reduceLT,Int.reduceLE,Int.reduceToNat,Int.reduceAdd,Int.reduceSub,Int.reduceMul,ne_eq,decide_true,decide_false,tf4, h3, h4, h11, h12, h13]
    refine ⟨g2'.trans g4, ?_⟩
    refine same_ok (Rd.of_own hO4) (Rd.of_own (own_grow hOm (g2'.trans g4))) (by omega) (by omega) (fun w5 g5 => ?_)
    simp only [↓RD,↓c_seq,RU,RL,if_true,if_false,forall_const,implies_true,Nat.reduceLeDiff,Nat.reduceLT,pureOp,binPure,intBin,strBin,eqPure,isConstO,unPure,sliceLo,sliceHi,slicePure,lenPure,minPure,maxPure,buildP,resK,endV,yieldE,↓reduceIte,Nat.reduceEqDiff,reduceCtorEq,Nat.reduceAdd,Nat.reduceMul,Nat.reduceSub,Int.reduceLT,Int.reduceLE,Int.reduceToNat,Int.reduceAdd,Int.reduceSub,Int.reduceMul,ne_eq,decide_true,decide_false,tf4, h3, h4, h11, h12, h13, eq_self]
    refine ⟨(g2'.trans g4).trans g5, ?_⟩
    exact h w5 (hg.trans ((g2'.trans g4).trans g5))

end Go.Proofs.Ytcjlhfmjcioeeaa
