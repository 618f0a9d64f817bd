/- weirmem.SameDeltas, of like lists. -/
import Derived.Test.YtcnebgokbjpjnaaGreatHandS
set_option linter.unusedVariables false
set_option linter.unusedSimpArgs false
set_option maxRecDepth 100000
namespace Go.Proofs.YtcnebgokbjpjnaaGreat
open Go

/-- what became of a time, of no series. -/
structure Dlt where
  t : Int
  had : Bool
  old : Int × Int
  new : Int × Int
def dlt0 : Dlt := ⟨0, false, (0, 0), (0, 0)⟩
def dcells (d : Dlt) : List Value := [.string ⟨#[]⟩, .slice none 0 0, .string ⟨#[]⟩, .int .i64 d.t, .bool d.had, .bool true, .int .u8 d.old.1, .int .i64 d.old.2, .int .u8 d.new.1, .int .i64 d.new.2]
abbrev serV : Value := .agg #[.string ⟨#[]⟩, .slice none 0 0, .string ⟨#[]⟩]
theorem Rd.dlts_len {w : World} {A : Option Addr} {n : Nat} {D : List Dlt} (h : Rd w A n 10 (D.flatMap dcells)) : D.length = n := by
  have h1 := h.1
  rw [flat_len dcells (size := 10) D (fun _ _ => rfl)] at h1
  omega
theorem Rd.dlt {w : World} {ad : Addr} {n : Nat} {D : List Dlt} (h : Rd w (some ad) n 10 (D.flatMap dcells)) {k : Nat} (hk : k < n) :
    ∀ j v, (dcells (D.getD k dlt0))[j]? = some v → w.cell? ((ad.add (k * 10)).add j) = some v := by
  have hl := h.dlts_len
  have hg : D[k]? = some (D.getD k dlt0) := by rw [List.getD_eq_getElem?_getD, List.getElem?_eq_getElem (by omega)]; rfl
  obtain ⟨_, ad', hA, hc⟩ := h.flat (size := 10) (fun _ _ => rfl) hg (by omega)
  injection hA with hA
  subst hA
  exact hc
theorem msameTags_ok {w : World} {R : VWK} (h : R (.bool true) w) : CallsV Tryz.prog 100 [.slice none 0 0, .slice none 0 0] w R := by
  refine calls_of_wpC mixed Tryz.func100 rfl (by kernel_rfl) ?_
  intro e he
  have he0 := he 0
  have he1 := he 1
  simp only [List.getD_cons_zero, List.getD_cons_succ] at he0 he1
  clear he
  try simp -dsimp only [↓RE,↓c_seq,RU,RL,if_true,if_false,forall_const,implies_true,Nat.reduceLeDiff,Nat.reduceLT,pureOp,binPure,intBin,strBin,eqPure,isConstO,unPure,sliceLo,sliceHi,slicePure,slice3Pure,lenPure,capPure,minPure,maxPure,buildP,resK,endV,yieldE,↓reduceIte,Nat.reduceEqDiff,reduceCtorEq,Nat.reduceAdd,Nat.reduceMul,Nat.reduceSub,Int.reduceLT,Int.reduceLE,Int.reduceToNat,Int.reduceAdd,Int.reduceSub,Int.reduceMul,ne_eq,decide_true,decide_false,tf100, he0, he1]
  refine wpLoop_intro (fun e' w' => e' 0 = .slice none 0 0 ∧ e' 5 = .int .i64 0 ∧ w = w') (fun _ _ => 0) ⟨?_, ?_, rfl⟩ ?_
  · simp -dsimp only [↓RE,RU,RL,if_true,if_false,↓reduceIte,Nat.reduceEqDiff,reduceCtorEq,decide_true,decide_false, he0]
  · simp -dsimp only [↓RE,RU,RL,if_true,if_false,↓reduceIte,Nat.reduceEqDiff,reduceCtorEq,decide_true,decide_false, he0]
  rintro e' w' ⟨h0, h5, rfl⟩
  try simp -dsimp only [↓RE,↓c_seq,RU,RL,if_true,if_false,forall_const,implies_true,Nat.reduceLeDiff,Nat.reduceLT,pureOp,binPure,intBin,strBin,eqPure,isConstO,unPure,sliceLo,sliceHi,slicePure,slice3Pure,lenPure,capPure,minPure,maxPure,buildP,resK,endV,yieldE,↓reduceIte,Nat.reduceEqDiff,reduceCtorEq,Nat.reduceAdd,Nat.reduceMul,Nat.reduceSub,Int.reduceLT,Int.reduceLE,Int.reduceToNat,Int.reduceAdd,Int.reduceSub,Int.reduceMul,ne_eq,decide_true,decide_false,tf100, h0, h5, Int.cast_ofNat_Int, Int.lt_irrefl, decide_false]
  exact h
theorem msameSeries_ok {w : World} {R : VWK} (h : ∀ w', Grow w w' → R (.bool true) w') : CallsV Tryz.prog 80 [serV, serV] w R := by
  have hb1 := Blk.new' w 93 #[.string ⟨#[]⟩, .slice none 0 0, .string ⟨#[]⟩]
  have g1 := Grow.alloc w (.cells #[.string ⟨#[]⟩, .slice none 0 0, .string ⟨#[]⟩] 93)
  generalize hw1 : w.alloc (.cells #[.string ⟨#[]⟩, .slice none 0 0, .string ⟨#[]⟩] 93) = w1 at hb1 g1
  have hb2 := Blk.new' w1 93 #[.string ⟨#[]⟩, .slice none 0 0, .string ⟨#[]⟩]
  have g2 := Grow.alloc w1 (.cells #[.string ⟨#[]⟩, .slice none 0 0, .string ⟨#[]⟩] 93)
  generalize hw2 : w1.alloc (.cells #[.string ⟨#[]⟩, .slice none 0 0, .string ⟨#[]⟩] 93) = w2 at hb2 g2
  have hb12 := hb1.grow g2
  have a0 : w2.cell? ⟨w.heap.size, 0, none⟩ = some (.string ⟨#[]⟩) := (hb12.cell 0).trans rfl
  have a1 : w2.cell? ⟨w.heap.size, 1, none⟩ = some (.slice none 0 0) := (hb12.cell 1).trans rfl
  have a2 : w2.cell? ⟨w.heap.size, 2, none⟩ = some (.string ⟨#[]⟩) := (hb12.cell 2).trans rfl
  have b0 : w2.cell? ⟨w1.heap.size, 0, none⟩ = some (.string ⟨#[]⟩) := (hb2.cell 0).trans rfl
  have b1 : w2.cell? ⟨w1.heap.size, 1, none⟩ = some (.slice none 0 0) := (hb2.cell 1).trans rfl
  have b2 : w2.cell? ⟨w1.heap.size, 2, none⟩ = some (.string ⟨#[]⟩) := (hb2.cell 2).trans rfl
  refine calls_of_wpC mixed Tryz.func80 rfl (by kernel_rfl) ?_
  intro e he
  have he0 := he 0
  have he1 := he 1
  simp only [List.getD_cons_zero, List.getD_cons_succ] at he0 he1
  clear he
  try simp -dsimp only [↓RE,↓c_seq,RU,RL,if_true,if_false,forall_const,implies_true,Nat.reduceLeDiff,Nat.reduceLT,pureOp,binPure,intBin,strBin,eqPure,isConstO,unPure,sliceLo,sliceHi,slicePure,slice3Pure,lenPure,capPure,minPure,maxPure,buildP,resK,endV,yieldE,↓reduceIte,Nat.reduceEqDiff,reduceCtorEq,Nat.reduceAdd,Nat.reduceMul,Nat.reduceSub,Int.reduceLT,Int.reduceLE,Int.reduceToNat,Int.reduceAdd,Int.reduceSub,Int.reduceMul,ne_eq,decide_true,decide_false,tf80, he0, he1, hw1, hw2, add_lit', Nat.zero_add, a0, a1, a2, b0, b1, b2, beq_self_eq_true]
  refine msameTags_ok ?_
  try simp -dsimp only [↓RE,↓c_seq,RU,RL,if_true,if_false,forall_const,implies_true,Nat.reduceLeDiff,Nat.reduceLT,pureOp,binPure,intBin,strBin,eqPure,isConstO,unPure,sliceLo,sliceHi,slicePure,slice3Pure,lenPure,capPure,minPure,maxPure,buildP,resK,endV,yieldE,↓reduceIte,Nat.reduceEqDiff,reduceCtorEq,Nat.reduceAdd,Nat.reduceMul,Nat.reduceSub,Int.reduceLT,Int.reduceLE,Int.reduceToNat,Int.reduceAdd,Int.reduceSub,Int.reduceMul,ne_eq,decide_true,decide_false,tf80, he0]
  exact h w2 (g1.trans g2)
theorem msameDeltas_ok {w : World} {A B : Option Addr} {n c d : Nat} {D : List Dlt} (hA : Rd w A n 10 (D.flatMap dcells)) (hB : Rd w B n 10 (D.flatMap dcells))
    (hn : n ≤ 140737488355328) {R : VWK} (h : ∀ w', Grow w w' → R (.bool true) w') : CallsV Tryz.prog 35 [.slice A n c, .slice B n d] w R := by
  refine calls_of_wpC mixed Tryz.func35 rfl (by kernel_rfl) ?_
  intro e he
  have he0 := he 0
  have he1 := he 1
  simp only [List.getD_cons_zero, List.getD_cons_succ] at he0 he1
  clear he
  try simp -dsimp only [↓RE,↓c_seq,RU,RL,if_true,if_false,forall_const,implies_true,Nat.reduceLeDiff,Nat.reduceLT,pureOp,binPure,intBin,strBin,eqPure,isConstO,unPure,sliceLo,sliceHi,slicePure,slice3Pure,lenPure,capPure,minPure,maxPure,buildP,resK,endV,yieldE,↓reduceIte,Nat.reduceEqDiff,reduceCtorEq,Nat.reduceAdd,Nat.reduceMul,Nat.reduceSub,Int.reduceLT,Int.reduceLE,Int.reduceToNat,Int.reduceAdd,Int.reduceSub,Int.reduceMul,ne_eq,decide_true,decide_false,tf35, he0, he1, eq_self, decide_true, Bool.not_true]
  refine wpLoop_intro (fun e' w' => e' 0 = .slice A n c ∧ e' 1 = .slice B n d ∧ ∃ k : Nat, k ≤ n ∧ e' 5 = .int .i64 k ∧ Grow w w') (fun e' _ => n - (envInt (e' 5)).toNat) ⟨?_, ?_, 0, Nat.zero_le _, ?_, Keep.refl _ _⟩ ?_
  · simp -dsimp only [↓RE,RU,RL,if_true,if_false,↓reduceIte,Nat.reduceEqDiff,reduceCtorEq,decide_true,decide_false, he0]
  · simp -dsimp only [↓RE,RU,RL,if_true,if_false,↓reduceIte,Nat.reduceEqDiff,reduceCtorEq,decide_true,decide_false, he1]
  · simp -dsimp only [↓RE,RU,RL,if_true,if_false,↓reduceIte,Nat.reduceEqDiff,reduceCtorEq,decide_true,decide_false, he0, Int.cast_ofNat_Int]
  rintro e' w' ⟨he0, he1, k, hk, he5, hg⟩
  rw [c_seq, c_seq]
  simp -dsimp only [↓RE,RU,RL,if_true,if_false,forall_const,implies_true,Nat.reduceLeDiff,Nat.reduceLT,pureOp,binPure,intBin,strBin,eqPure,isConstO,unPure,sliceLo,sliceHi,slicePure,slice3Pure,lenPure,capPure,minPure,maxPure,buildP,resK,endV,yieldE,↓reduceIte,Nat.reduceEqDiff,reduceCtorEq,Nat.reduceAdd,Nat.reduceMul,Nat.reduceSub,Int.reduceLT,Int.reduceLE,Int.reduceToNat,Int.reduceAdd,Int.reduceSub,Int.reduceMul,ne_eq,decide_true,decide_false,tf35, he0, he1, he5]
  refine ⟨fun hlt => ?_, fun hge => ?_⟩
  · have hkn : k < n := by omega
    obtain ⟨ad, rfl⟩ : ∃ ad, A = some ad := by obtain ⟨ad, h, _⟩ := hA.2 (by omega); exact ⟨ad, h⟩
    obtain ⟨bd, rfl⟩ : ∃ bd, B = some bd := by obtain ⟨ad, h, _⟩ := hB.2 (by omega); exact ⟨ad, h⟩
    have hw1 : IntKind.i64.wrap ((k : Int) + 1) = ((k + 1 : Nat) : Int) := by rw [wrap_i64_in (by omega) (by omega)]; omega
    have fa : ∀ w1, Grow w' w1 → ∀ j v, (dcells (D.getD k dlt0))[j]? = some v → w1.cell? ((ad.add (k * 10)).add j) = some v := fun w1 g1 => (hA.grow (hg.trans g1)).dlt hkn
    have fb : ∀ w1, Grow w' w1 → ∀ j v, (dcells (D.getD k dlt0))[j]? = some v → w1.cell? ((bd.add (k * 10)).add j) = some v := fun w1 g1 => (hB.grow (hg.trans g1)).dlt hkn
    generalize D.getD k dlt0 = x at fa fb
    rw [c_seq]
    simp -dsimp only [↓RE,RU,RL,if_true,if_false,forall_const,implies_true,Nat.reduceLeDiff,Nat.reduceLT,pureOp,binPure,intBin,strBin,eqPure,isConstO,unPure,sliceLo,sliceHi,slicePure,slice3Pure,lenPure,capPure,minPure,maxPure,buildP,resK,endV,yieldE,↓reduceIte,Nat.reduceEqDiff,reduceCtorEq,Nat.reduceAdd,Nat.reduceMul,Nat.reduceSub,Int.reduceLT,Int.reduceLE,Int.reduceToNat,Int.reduceAdd,Int.reduceSub,Int.reduceMul,ne_eq,decide_true,decide_false,tf35, he0]
    rw [c_seq]
    simp -dsimp only [List.append_eq, List.cons_append, List.nil_append]
    simp -dsimp only [↓RE,RU,RL,if_true,if_false,forall_const,implies_true,Nat.reduceLeDiff,Nat.reduceLT,pureOp,binPure,intBin,strBin,eqPure,isConstO,unPure,sliceLo,sliceHi,slicePure,slice3Pure,lenPure,capPure,minPure,maxPure,buildP,resK,endV,yieldE,↓reduceIte,Nat.reduceEqDiff,reduceCtorEq,Nat.reduceAdd,Nat.reduceMul,Nat.reduceSub,Int.reduceLT,Int.reduceLE,Int.reduceToNat,Int.reduceAdd,Int.reduceSub,Int.reduceMul,ne_eq,decide_true,decide_false,tf35, he0]
    refine wpDraw_by (Grow w' ·) [(0, true), (1, true), (2, true), (3, true), (4, true), (5, true), (6, true), (7, true), (8, true), (9, true), (10, false), (11, true), (12, true), (13, true), (14, true), (15, true), (16, true), (17, true), (18, true), (19, true), (20, true), (21, true), (22, true), (23, true), (24, true), (25, true), (26, true), (27, true), (28, true), (29, true), (30, true), (31, true), (32, true), (33, true), (34, true), (35, true), (36, true), (37, true), (38, true), (39, true), (40, true), (41, true), (42, true), (43, true), (44, true), (45, true), (46, true), (47, true), (48, true), (49, true), (50, true), (51, true), (52, true), (53, true), (54, true), (55, true), (56, true), (57, true), (58, true), (59, true), (60, true), (61, true), (62, true), (63, true), (64, true), (65, true), (66, true), (67, true), (68, true), (69, true), (70, true), (71, true), (72, true), (73, true), (74, true), (75, true), (76, true)] (by kernel_rfl) (Grow.drew w') ?_
    simp only [planL, List.getElem?_toArray, List.getElem?_cons_zero, List.getElem?_cons_succ, Option.toList_some, List.map_cons, List.map_nil, List.cons_append, List.nil_append]
    simp -dsimp only [↓RE,RU,RL,if_true,if_false,forall_const,implies_true,Nat.reduceLeDiff,Nat.reduceLT,pureOp,binPure,intBin,strBin,eqPure,isConstO,unPure,sliceLo,sliceHi,slicePure,slice3Pure,lenPure,capPure,minPure,maxPure,buildP,resK,endV,yieldE,↓reduceIte,Nat.reduceEqDiff,reduceCtorEq,Nat.reduceAdd,Nat.reduceMul,Nat.reduceSub,Int.reduceLT,Int.reduceLE,Int.reduceToNat,Int.reduceAdd,Int.reduceSub,Int.reduceMul,ne_eq,decide_true,decide_false,tf35, he0, he1, he5]
    have aggS : ∀ (bd : Addr), (∀ w1, Grow w' w1 → ∀ j v, (dcells x)[j]? = some v → w1.cell? ((bd.add (k * 10)).add j) = some v) → ∀ (o m : Nat) w1, Grow w' w1 → ∀ j v, (((dcells x).drop o).take m)[j]? = some v → w1.cell? (((bd.add (k * 10)).add o).add j) = some v := fun bd hh o m w1 g1 j v hj => by
      rw [List.getElem?_take] at hj
      split at hj
      · rw [add_add']
        refine hh w1 g1 (o + j) v ?_
        rw [List.getElem?_drop] at hj
        exact hj
      · cases hj
    refine ⟨by omega, [.string ⟨#[]⟩, .slice none 0 0, .string ⟨#[]⟩], rfl, fun w1 g1 j v hj => aggS ad fa 0 3 w1 g1 j v hj, ?_⟩
    simp -dsimp only [↓RE,RU,RL,if_true,if_false,forall_const,implies_true,Nat.reduceLeDiff,Nat.reduceLT,pureOp,binPure,intBin,strBin,eqPure,isConstO,unPure,sliceLo,sliceHi,slicePure,slice3Pure,lenPure,capPure,minPure,maxPure,buildP,resK,endV,yieldE,↓reduceIte,Nat.reduceEqDiff,reduceCtorEq,Nat.reduceAdd,Nat.reduceMul,Nat.reduceSub,Int.reduceLT,Int.reduceLE,Int.reduceToNat,Int.reduceAdd,Int.reduceSub,Int.reduceMul,ne_eq,decide_true,decide_false,tf35, he0, he1, he5, eq_self, and_self, decide_true, Bool.not_true, beq_self_eq_true]
    refine ⟨by omega, [.string ⟨#[]⟩, .slice none 0 0, .string ⟨#[]⟩], rfl, fun w1 g1 j v hj => aggS bd fb 0 3 w1 g1 j v hj, ?_⟩
    simp -dsimp only [↓RE,RU,RL,if_true,if_false,forall_const,implies_true,Nat.reduceLeDiff,Nat.reduceLT,pureOp,binPure,intBin,strBin,eqPure,isConstO,unPure,sliceLo,sliceHi,slicePure,slice3Pure,lenPure,capPure,minPure,maxPure,buildP,resK,endV,yieldE,↓reduceIte,Nat.reduceEqDiff,reduceCtorEq,Nat.reduceAdd,Nat.reduceMul,Nat.reduceSub,Int.reduceLT,Int.reduceLE,Int.reduceToNat,Int.reduceAdd,Int.reduceSub,Int.reduceMul,ne_eq,decide_true,decide_false,tf35, he0, he1, he5, eq_self, and_self, decide_true, Bool.not_true, beq_self_eq_true]
    refine msameSeries_ok (fun w3 g3 => ?_)
    simp -dsimp only [↓RE,RU,RL,if_true,if_false,forall_const,implies_true,Nat.reduceLeDiff,Nat.reduceLT,pureOp,binPure,intBin,strBin,eqPure,isConstO,unPure,sliceLo,sliceHi,slicePure,slice3Pure,lenPure,capPure,minPure,maxPure,buildP,resK,endV,yieldE,↓reduceIte,Nat.reduceEqDiff,reduceCtorEq,Nat.reduceAdd,Nat.reduceMul,Nat.reduceSub,Int.reduceLT,Int.reduceLE,Int.reduceToNat,Int.reduceAdd,Int.reduceSub,Int.reduceMul,ne_eq,decide_true,decide_false,tf35, he0, he1, he5, eq_self, and_self, decide_true, Bool.not_true, beq_self_eq_true]
    refine ⟨(Grow.drew w').trans g3, ?_⟩
    refine ⟨by omega, _, fun w1 g1 => fa w1 g1 3 _ rfl, ?_⟩
    simp -dsimp only [↓RE,RU,RL,if_true,if_false,forall_const,implies_true,Nat.reduceLeDiff,Nat.reduceLT,pureOp,binPure,intBin,strBin,eqPure,isConstO,unPure,sliceLo,sliceHi,slicePure,slice3Pure,lenPure,capPure,minPure,maxPure,buildP,resK,endV,yieldE,↓reduceIte,Nat.reduceEqDiff,reduceCtorEq,Nat.reduceAdd,Nat.reduceMul,Nat.reduceSub,Int.reduceLT,Int.reduceLE,Int.reduceToNat,Int.reduceAdd,Int.reduceSub,Int.reduceMul,ne_eq,decide_true,decide_false,tf35, he0, he1, he5, eq_self, and_self, decide_true, Bool.not_true, beq_self_eq_true]
    refine ⟨by omega, _, fun w1 g1 => fb w1 g1 3 _ rfl, ?_⟩
    simp -dsimp only [↓RE,RU,RL,if_true,if_false,forall_const,implies_true,Nat.reduceLeDiff,Nat.reduceLT,pureOp,binPure,intBin,strBin,eqPure,isConstO,unPure,sliceLo,sliceHi,slicePure,slice3Pure,lenPure,capPure,minPure,maxPure,buildP,resK,endV,yieldE,↓reduceIte,Nat.reduceEqDiff,reduceCtorEq,Nat.reduceAdd,Nat.reduceMul,Nat.reduceSub,Int.reduceLT,Int.reduceLE,Int.reduceToNat,Int.reduceAdd,Int.reduceSub,Int.reduceMul,ne_eq,decide_true,decide_false,tf35, he0, he1, he5, eq_self, and_self, decide_true, Bool.not_true, beq_self_eq_true]
    refine ⟨by omega, _, fun w1 g1 => fa w1 g1 4 _ rfl, ?_⟩
    simp -dsimp only [↓RE,RU,RL,if_true,if_false,forall_const,implies_true,Nat.reduceLeDiff,Nat.reduceLT,pureOp,binPure,intBin,strBin,eqPure,isConstO,unPure,sliceLo,sliceHi,slicePure,slice3Pure,lenPure,capPure,minPure,maxPure,buildP,resK,endV,yieldE,↓reduceIte,Nat.reduceEqDiff,reduceCtorEq,Nat.reduceAdd,Nat.reduceMul,Nat.reduceSub,Int.reduceLT,Int.reduceLE,Int.reduceToNat,Int.reduceAdd,Int.reduceSub,Int.reduceMul,ne_eq,decide_true,decide_false,tf35, he0, he1, he5, eq_self, and_self, decide_true, Bool.not_true, beq_self_eq_true]
    refine ⟨by omega, _, fun w1 g1 => fb w1 g1 4 _ rfl, ?_⟩
    simp -dsimp only [↓RE,RU,RL,if_true,if_false,forall_const,implies_true,Nat.reduceLeDiff,Nat.reduceLT,pureOp,binPure,intBin,strBin,eqPure,isConstO,unPure,sliceLo,sliceHi,slicePure,slice3Pure,lenPure,capPure,minPure,maxPure,buildP,resK,endV,yieldE,↓reduceIte,Nat.reduceEqDiff,reduceCtorEq,Nat.reduceAdd,Nat.reduceMul,Nat.reduceSub,Int.reduceLT,Int.reduceLE,Int.reduceToNat,Int.reduceAdd,Int.reduceSub,Int.reduceMul,ne_eq,decide_true,decide_false,tf35, he0, he1, he5, eq_self, and_self, decide_true, Bool.not_true, beq_self_eq_true]
    refine ⟨by omega, _, fun w1 g1 => fa w1 g1 5 _ rfl, ?_⟩
    simp -dsimp only [↓RE,RU,RL,if_true,if_false,forall_const,implies_true,Nat.reduceLeDiff,Nat.reduceLT,pureOp,binPure,intBin,strBin,eqPure,isConstO,unPure,sliceLo,sliceHi,slicePure,slice3Pure,lenPure,capPure,minPure,maxPure,buildP,resK,endV,yieldE,↓reduceIte,Nat.reduceEqDiff,reduceCtorEq,Nat.reduceAdd,Nat.reduceMul,Nat.reduceSub,Int.reduceLT,Int.reduceLE,Int.reduceToNat,Int.reduceAdd,Int.reduceSub,Int.reduceMul,ne_eq,decide_true,decide_false,tf35, he0, he1, he5, eq_self, and_self, decide_true, Bool.not_true, beq_self_eq_true]
    refine ⟨by omega, _, fun w1 g1 => fb w1 g1 5 _ rfl, ?_⟩
    simp -dsimp only [↓RE,RU,RL,if_true,if_false,forall_const,implies_true,Nat.reduceLeDiff,Nat.reduceLT,pureOp,binPure,intBin,strBin,eqPure,isConstO,unPure,sliceLo,sliceHi,slicePure,slice3Pure,lenPure,capPure,minPure,maxPure,buildP,resK,endV,yieldE,↓reduceIte,Nat.reduceEqDiff,reduceCtorEq,Nat.reduceAdd,Nat.reduceMul,Nat.reduceSub,Int.reduceLT,Int.reduceLE,Int.reduceToNat,Int.reduceAdd,Int.reduceSub,Int.reduceMul,ne_eq,decide_true,decide_false,tf35, he0, he1, he5, eq_self, and_self, decide_true, Bool.not_true, beq_self_eq_true]
    refine ⟨by omega, [.int .u8 x.old.1, .int .i64 x.old.2], rfl, fun w1 g1 j v hj => aggS ad fa 6 2 w1 g1 j v hj, ?_⟩
    simp -dsimp only [↓RE,RU,RL,if_true,if_false,forall_const,implies_true,Nat.reduceLeDiff,Nat.reduceLT,pureOp,binPure,intBin,strBin,eqPure,isConstO,unPure,sliceLo,sliceHi,slicePure,slice3Pure,lenPure,capPure,minPure,maxPure,buildP,resK,endV,yieldE,↓reduceIte,Nat.reduceEqDiff,reduceCtorEq,Nat.reduceAdd,Nat.reduceMul,Nat.reduceSub,Int.reduceLT,Int.reduceLE,Int.reduceToNat,Int.reduceAdd,Int.reduceSub,Int.reduceMul,ne_eq,decide_true,decide_false,tf35, he0, he1, he5, eq_self, and_self, decide_true, Bool.not_true, beq_self_eq_true]
    refine ⟨by omega, [.int .u8 x.old.1, .int .i64 x.old.2], rfl, fun w1 g1 j v hj => aggS bd fb 6 2 w1 g1 j v hj, ?_⟩
    simp -dsimp only [↓RE,RU,RL,if_true,if_false,forall_const,implies_true,Nat.reduceLeDiff,Nat.reduceLT,pureOp,binPure,intBin,strBin,eqPure,isConstO,unPure,sliceLo,sliceHi,slicePure,slice3Pure,lenPure,capPure,minPure,maxPure,buildP,resK,endV,yieldE,↓reduceIte,Nat.reduceEqDiff,reduceCtorEq,Nat.reduceAdd,Nat.reduceMul,Nat.reduceSub,Int.reduceLT,Int.reduceLE,Int.reduceToNat,Int.reduceAdd,Int.reduceSub,Int.reduceMul,ne_eq,decide_true,decide_false,tf35, he0, he1, he5, eq_self, and_self, decide_true, Bool.not_true, beq_self_eq_true]
    refine ⟨by omega, [.int .u8 x.new.1, .int .i64 x.new.2], rfl, fun w1 g1 j v hj => aggS ad fa 8 2 w1 g1 j v hj, ?_⟩
    simp -dsimp only [↓RE,RU,RL,if_true,if_false,forall_const,implies_true,Nat.reduceLeDiff,Nat.reduceLT,pureOp,binPure,intBin,strBin,eqPure,isConstO,unPure,sliceLo,sliceHi,slicePure,slice3Pure,lenPure,capPure,minPure,maxPure,buildP,resK,endV,yieldE,↓reduceIte,Nat.reduceEqDiff,reduceCtorEq,Nat.reduceAdd,Nat.reduceMul,Nat.reduceSub,Int.reduceLT,Int.reduceLE,Int.reduceToNat,Int.reduceAdd,Int.reduceSub,Int.reduceMul,ne_eq,decide_true,decide_false,tf35, he0, he1, he5, eq_self, and_self, decide_true, Bool.not_true, beq_self_eq_true]
    refine ⟨by omega, [.int .u8 x.new.1, .int .i64 x.new.2], rfl, fun w1 g1 j v hj => aggS bd fb 8 2 w1 g1 j v hj, ?_⟩
    simp -dsimp only [↓RE,RU,RL,if_true,if_false,forall_const,implies_true,Nat.reduceLeDiff,Nat.reduceLT,pureOp,binPure,intBin,strBin,eqPure,isConstO,unPure,sliceLo,sliceHi,slicePure,slice3Pure,lenPure,capPure,minPure,maxPure,buildP,resK,endV,yieldE,↓reduceIte,Nat.reduceEqDiff,reduceCtorEq,Nat.reduceAdd,Nat.reduceMul,Nat.reduceSub,Int.reduceLT,Int.reduceLE,Int.reduceToNat,Int.reduceAdd,Int.reduceSub,Int.reduceMul,ne_eq,decide_true,decide_false,tf35, he0, he1, he5, eq_self, and_self, decide_true, Bool.not_true, beq_self_eq_true]
    try simp -dsimp only [↓RE,↓c_seq,RU,RL,if_true,if_false,forall_const,implies_true,Nat.reduceLeDiff,Nat.reduceLT,pureOp,binPure,intBin,strBin,eqPure,isConstO,unPure,sliceLo,sliceHi,slicePure,slice3Pure,lenPure,capPure,minPure,maxPure,buildP,resK,endV,yieldE,↓reduceIte,Nat.reduceEqDiff,reduceCtorEq,Nat.reduceAdd,Nat.reduceMul,Nat.reduceSub,Int.reduceLT,Int.reduceLE,Int.reduceToNat,Int.reduceAdd,Int.reduceSub,Int.reduceMul,ne_eq,decide_true,decide_false,tf35, he5, hw1]
    refine hold_intro ⟨⟨?_, ?_, k + 1, by omega, ?_, hg.trans ((Grow.drew w').trans g3)⟩, ?_⟩
    · simp -dsimp only [↓RE,RU,RL,if_true,if_false,↓reduceIte,Nat.reduceEqDiff,reduceCtorEq,decide_true,decide_false, he0]
    · simp -dsimp only [↓RE,RU,RL,if_true,if_false,↓reduceIte,Nat.reduceEqDiff,reduceCtorEq,decide_true,decide_false, he1]
    · simp -dsimp only [↓RE,RU,RL,if_true,if_false,↓reduceIte,Nat.reduceEqDiff,reduceCtorEq,decide_true,decide_false, he5, hw1]
    · simp -dsimp only [↓RE,RU,RL,if_true,if_false,↓reduceIte,Nat.reduceEqDiff,reduceCtorEq,decide_true,decide_false, he5, hw1]
      simp only [envInt_int]; omega
  · try simp -dsimp only [↓RE,↓c_seq,RU,RL,if_true,if_false,forall_const,implies_true,Nat.reduceLeDiff,Nat.reduceLT,pureOp,binPure,intBin,strBin,eqPure,isConstO,unPure,sliceLo,sliceHi,slicePure,slice3Pure,lenPure,capPure,minPure,maxPure,buildP,resK,endV,yieldE,↓reduceIte,Nat.reduceEqDiff,reduceCtorEq,Nat.reduceAdd,Nat.reduceMul,Nat.reduceSub,Int.reduceLT,Int.reduceLE,Int.reduceToNat,Int.reduceAdd,Int.reduceSub,Int.reduceMul,ne_eq,decide_true,decide_false,tf35, he0]
    exact h w' hg

end Go.Proofs.YtcnebgokbjpjnaaGreat
