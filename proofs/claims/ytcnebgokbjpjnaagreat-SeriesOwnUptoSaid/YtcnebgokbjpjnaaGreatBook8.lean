/- weirmem.Book with lists of some kinds: what is taken is kept; Alone is true where each list is in memory of its own. -/
import Derived.Test.YtcnebgokbjpjnaaGreatAlTags
import Derived.Test.YtcnebgokbjpjnaaGreatAlSamplesL
import Derived.Test.YtcnebgokbjpjnaaGreatAlDeltas
import Derived.Test.YtcnebgokbjpjnaaGreatAlNone
set_option linter.unusedVariables false
set_option linter.unusedSimpArgs false
set_option maxRecDepth 100000
namespace Go.Proofs.YtcnebgokbjpjnaaGreat
open Go

/-- the book's cells. -/
def bkCells (s5 s7 s19 : Value) : List Value := [.slice none 0 0, .slice none 0 0, .slice none 0 0, .slice none 0 0, .slice none 0 0, s5, .slice none 0 0, s7, .slice none 0 0, .slice none 0 0, .slice none 0 0, .slice none 0 0, .slice none 0 0, .slice none 0 0, .slice none 0 0, .slice none 0 0, .slice none 0 0, .slice none 0 0, .slice none 0 0, s19, .slice none 0 0, .slice none 0 0, .slice none 0 0, .slice none 0 0, .slice none 0 0, .slice none 0 0, .slice none 0 0, .slice none 0 0]
/-- a book in which lists are kept, each in memory of its own; all of it is new since w0. -/
structure Bk (w0 w : World) (p : Nat) (v5 v7 v19 : List Value) (s5 s7 s19 : Value) (c5 c7 c19 : Nat → List Value) : Prop where
  b : Blk w p 58 (bkCells s5 s7 s19)
  o5 : LRow w 91 1 s5 v5.length v5
  o7 : LRow w 62 1 s7 v7.length v7
  o19 : LRow w 68 1 s19 v19.length v19
  h5 : Held w 119 2 32 v5 c5
  h7 : Held w 89 3 24 v7 c7
  h19 : Held w 95 10 104 v19 c19
  fp : w0.heap.size ≤ p
  fs : ∀ k, (fpV s5 k ∨ fpV s7 k ∨ fpV s19 k) → w0.heap.size ≤ k
  fl : ∀ k, (fpL v5 k ∨ fpL v7 k ∨ fpL v19 k) → w0.heap.size ≤ k
theorem own_held {w : World} {e t : TypeId} {size bytes : Nat} {vs : List Value} {cont : Nat → List Value} (h : Held w e size bytes vs cont) {p : Nat} {cs : List Value} (hB : Blk w p t cs) (hne : e ≠ t) : ¬ fpL vs p := by
  rintro ⟨v, hv, hk⟩
  obtain ⟨i, hi⟩ := List.mem_iff_getElem?.1 hv
  exact LRow.blk_ne (h.own i v hi) hB hne hk
theorem held_own {w : World} {e t : TypeId} {size bytes size' n' : Nat} {vs : List Value} {cont : Nat → List Value} (h : Held w e size bytes vs cont) {v' : Value} {xs' : List Value} (ho : LRow w t size' v' n' xs') (hne : e ≠ t) : ∀ k, fpL vs k → ¬ fpV v' k := by
  rintro k ⟨v, hv, hk⟩
  obtain ⟨i, hi⟩ := List.mem_iff_getElem?.1 hv
  exact LRow.ne (h.own i v hi) ho hne k hk
theorem held_held {w : World} {e t : TypeId} {size bytes size' bytes' : Nat} {vs us : List Value} {cont cont' : Nat → List Value} (h : Held w e size bytes vs cont) (h' : Held w t size' bytes' us cont') (hne : e ≠ t) : ∀ k, fpL vs k → ¬ fpL us k := by
  rintro k hk ⟨u, hu, hk'⟩
  obtain ⟨i, hi⟩ := List.mem_iff_getElem?.1 hu
  exact held_own h (h'.own i u hi) hne k hk hk'
section
variable {w0 w : World} {p : Nat} {v5 v7 v19 : List Value} {s5 s7 s19 : Value} {c5 c7 c19 : Nat → List Value}
theorem Bk.keep {w' : World} {F : Nat → Prop} (h : Bk w0 w p v5 v7 v19 s5 s7 s19 c5 c7 c19) (k : Keep F w w') (q1 : ¬ F p) (q2 : ∀ i, (fpV s5 i ∨ fpV s7 i ∨ fpV s19 i) → ¬ F i) (q3 : ∀ i, (fpL v5 i ∨ fpL v7 i ∨ fpL v19 i) → ¬ F i) : Bk w0 w' p v5 v7 v19 s5 s7 s19 c5 c7 c19 :=
  ⟨h.b.keep k q1, LRow.keep h.o5 k (fun i q => q2 i (.inl (q))), LRow.keep h.o7 k (fun i q => q2 i (.inr (.inl (q)))), LRow.keep h.o19 k (fun i q => q2 i (.inr (.inr (q)))), h.h5.keep k (fun i q => q3 i (.inl (q))), h.h7.keep k (fun i q => q3 i (.inr (.inl (q)))), h.h19.keep k (fun i q => q3 i (.inr (.inr (q)))), h.fp, h.fs, h.fl⟩
theorem Bk.grow {w' : World} (h : Bk w0 w p v5 v7 v19 s5 s7 s19 c5 c7 c19) (k : Grow w w') : Bk w0 w' p v5 v7 v19 s5 s7 s19 c5 c7 c19 := h.keep k (fun q => q) (fun _ _ q => q) (fun _ _ q => q)
theorem alone_ok (h : Bk w0 w p v5 v7 v19 s5 s7 s19 c5 c7 c19) (n5 : v5.length ≤ 1099511627776) (n7 : v7.length ≤ 1099511627776) (n19 : v19.length ≤ 1099511627776) {R : VWK}
    (hr : ∀ w', Keep (fun k => k = p ∨ fpL v5 k ∨ fpL v7 k ∨ fpL v19 k) w w' → R (.bool true) w') : CallsV Tryz.prog 15 [.pointer (some ⟨p, 0, none⟩)] w R := by
  obtain ⟨A5, C5, rfl, _, _⟩ := LRow.form h.o5
  obtain ⟨A7, C7, rfl, _, _⟩ := LRow.form h.o7
  obtain ⟨A19, C19, rfl, _, _⟩ := LRow.form h.o19
  have B0 := h.b
  have q0 : Keep (fun k => k = p ∨ fpL v5 k ∨ fpL v7 k ∨ fpL v19 k) w w := Keep.refl _ _
  have O5 := h.o5
  have H5 := h.h5
  have O7 := h.o7
  have H7 := h.h7
  have O19 := h.o19
  have H19 := h.h19
  refine calls_of_wpC mixed Tryz.func15 rfl (by kernel_rfl) ?_
  intro e he
  have he0 := he 0
  simp only [List.getD_cons_zero, List.getD_cons_succ] at he0
  clear he
  rw [c_seq]
  simp -dsimp only [↓RE,RU,RL,if_true,if_false,forall_const,implies_true,Nat.reduceLeDiff,Nat.reduceLT,pureOp,binPure,intBin,strBin,eqPure,isConstO,unPure,sliceLo,sliceHi,slicePure,slice3Pure,lenPure,capPure,minPure,maxPure,buildP,resK,endV,yieldE,↓reduceIte,Nat.reduceEqDiff,reduceCtorEq,Nat.reduceAdd,Nat.reduceMul,Nat.reduceSub,Int.reduceLT,Int.reduceLE,Int.reduceToNat,Int.reduceAdd,Int.reduceSub,Int.reduceMul,ne_eq,decide_true,decide_false,tf15, he0]
  rw [c_seq]
  simp -dsimp only [↓RE,RU,RL,if_true,if_false,forall_const,implies_true,Nat.reduceLeDiff,Nat.reduceLT,pureOp,binPure,intBin,strBin,eqPure,isConstO,unPure,sliceLo,sliceHi,slicePure,slice3Pure,lenPure,capPure,minPure,maxPure,buildP,resK,endV,yieldE,↓reduceIte,Nat.reduceEqDiff,reduceCtorEq,Nat.reduceAdd,Nat.reduceMul,Nat.reduceSub,Int.reduceLT,Int.reduceLE,Int.reduceToNat,Int.reduceAdd,Int.reduceSub,Int.reduceMul,ne_eq,decide_true,decide_false,tf15, he0]
  simp -dsimp only [List.append_eq, List.cons_append, List.nil_append]
  simp -dsimp only [↓RE,RU,RL,if_true,if_false,forall_const,implies_true,Nat.reduceLeDiff,Nat.reduceLT,pureOp,binPure,intBin,strBin,eqPure,isConstO,unPure,sliceLo,sliceHi,slicePure,slice3Pure,lenPure,capPure,minPure,maxPure,buildP,resK,endV,yieldE,↓reduceIte,Nat.reduceEqDiff,reduceCtorEq,Nat.reduceAdd,Nat.reduceMul,Nat.reduceSub,Int.reduceLT,Int.reduceLE,Int.reduceToNat,Int.reduceAdd,Int.reduceSub,Int.reduceMul,ne_eq,decide_true,decide_false,tf15, he0]
  refine alNoneBytes B0 rfl ?_
  try simp -dsimp only [↓RE,↓c_seq,RU,RL,if_true,if_false,forall_const,implies_true,Nat.reduceLeDiff,Nat.reduceLT,pureOp,binPure,intBin,strBin,eqPure,isConstO,unPure,sliceLo,sliceHi,slicePure,slice3Pure,lenPure,capPure,minPure,maxPure,buildP,resK,endV,yieldE,↓reduceIte,Nat.reduceEqDiff,reduceCtorEq,Nat.reduceAdd,Nat.reduceMul,Nat.reduceSub,Int.reduceLT,Int.reduceLE,Int.reduceToNat,Int.reduceAdd,Int.reduceSub,Int.reduceMul,ne_eq,decide_true,decide_false,tf15, he0]
  refine alNoneTexts B0 rfl ?_
  try simp -dsimp only [↓RE,↓c_seq,RU,RL,if_true,if_false,forall_const,implies_true,Nat.reduceLeDiff,Nat.reduceLT,pureOp,binPure,intBin,strBin,eqPure,isConstO,unPure,sliceLo,sliceHi,slicePure,slice3Pure,lenPure,capPure,minPure,maxPure,buildP,resK,endV,yieldE,↓reduceIte,Nat.reduceEqDiff,reduceCtorEq,Nat.reduceAdd,Nat.reduceMul,Nat.reduceSub,Int.reduceLT,Int.reduceLE,Int.reduceToNat,Int.reduceAdd,Int.reduceSub,Int.reduceMul,ne_eq,decide_true,decide_false,tf15, he0]
  refine alNoneInts B0 rfl ?_
  try simp -dsimp only [↓RE,↓c_seq,RU,RL,if_true,if_false,forall_const,implies_true,Nat.reduceLeDiff,Nat.reduceLT,pureOp,binPure,intBin,strBin,eqPure,isConstO,unPure,sliceLo,sliceHi,slicePure,slice3Pure,lenPure,capPure,minPure,maxPure,buildP,resK,endV,yieldE,↓reduceIte,Nat.reduceEqDiff,reduceCtorEq,Nat.reduceAdd,Nat.reduceMul,Nat.reduceSub,Int.reduceLT,Int.reduceLE,Int.reduceToNat,Int.reduceAdd,Int.reduceSub,Int.reduceMul,ne_eq,decide_true,decide_false,tf15, he0]
  refine alNoneInt64s B0 rfl ?_
  try simp -dsimp only [↓RE,↓c_seq,RU,RL,if_true,if_false,forall_const,implies_true,Nat.reduceLeDiff,Nat.reduceLT,pureOp,binPure,intBin,strBin,eqPure,isConstO,unPure,sliceLo,sliceHi,slicePure,slice3Pure,lenPure,capPure,minPure,maxPure,buildP,resK,endV,yieldE,↓reduceIte,Nat.reduceEqDiff,reduceCtorEq,Nat.reduceAdd,Nat.reduceMul,Nat.reduceSub,Int.reduceLT,Int.reduceLE,Int.reduceToNat,Int.reduceAdd,Int.reduceSub,Int.reduceMul,ne_eq,decide_true,decide_false,tf15, he0]
  refine alNoneUint64s B0 rfl ?_
  try simp -dsimp only [↓RE,↓c_seq,RU,RL,if_true,if_false,forall_const,implies_true,Nat.reduceLeDiff,Nat.reduceLT,pureOp,binPure,intBin,strBin,eqPure,isConstO,unPure,sliceLo,sliceHi,slicePure,slice3Pure,lenPure,capPure,minPure,maxPure,buildP,resK,endV,yieldE,↓reduceIte,Nat.reduceEqDiff,reduceCtorEq,Nat.reduceAdd,Nat.reduceMul,Nat.reduceSub,Int.reduceLT,Int.reduceLE,Int.reduceToNat,Int.reduceAdd,Int.reduceSub,Int.reduceMul,ne_eq,decide_true,decide_false,tf15, he0]
  refine alTags_ok B0 rfl O5 H5 n5 (fun w101 k1 => ?_)
  have q1 := q0.trans k1 (fun _ _ q => q) (fun i _ q => Or.inr (.inl (q)))
  have B1 := B0.keep k1 (own_held H5 B0 (by decide))
  have O7 := LRow.keep O7 k1 (fun k q q' => held_own H5 O7 (by decide) k q' q)
  have H7 := H7.keep k1 (fun k q q' => held_held H5 H7 (by decide) k q' q)
  have O19 := LRow.keep O19 k1 (fun k q q' => held_own H5 O19 (by decide) k q' q)
  have H19 := H19.keep k1 (fun k q q' => held_held H5 H19 (by decide) k q' q)
  try simp -dsimp only [↓RE,↓c_seq,RU,RL,if_true,if_false,forall_const,implies_true,Nat.reduceLeDiff,Nat.reduceLT,pureOp,binPure,intBin,strBin,eqPure,isConstO,unPure,sliceLo,sliceHi,slicePure,slice3Pure,lenPure,capPure,minPure,maxPure,buildP,resK,endV,yieldE,↓reduceIte,Nat.reduceEqDiff,reduceCtorEq,Nat.reduceAdd,Nat.reduceMul,Nat.reduceSub,Int.reduceLT,Int.reduceLE,Int.reduceToNat,Int.reduceAdd,Int.reduceSub,Int.reduceMul,ne_eq,decide_true,decide_false,tf15, he0]
  refine alNoneFields B1 rfl ?_
  try simp -dsimp only [↓RE,↓c_seq,RU,RL,if_true,if_false,forall_const,implies_true,Nat.reduceLeDiff,Nat.reduceLT,pureOp,binPure,intBin,strBin,eqPure,isConstO,unPure,sliceLo,sliceHi,slicePure,slice3Pure,lenPure,capPure,minPure,maxPure,buildP,resK,endV,yieldE,↓reduceIte,Nat.reduceEqDiff,reduceCtorEq,Nat.reduceAdd,Nat.reduceMul,Nat.reduceSub,Int.reduceLT,Int.reduceLE,Int.reduceToNat,Int.reduceAdd,Int.reduceSub,Int.reduceMul,ne_eq,decide_true,decide_false,tf15, he0]
  refine alSamples_ok B1 rfl O7 H7 n7 (fun w102 k2 => ?_)
  have q2 := q1.trans k2 (fun _ _ q => q) (fun i _ q => Or.inr (.inr (.inl (q))))
  have B2 := B1.keep k2 (own_held H7 B1 (by decide))
  have O19 := LRow.keep O19 k2 (fun k q q' => held_own H7 O19 (by decide) k q' q)
  have H19 := H19.keep k2 (fun k q q' => held_held H7 H19 (by decide) k q' q)
  try simp -dsimp only [↓RE,↓c_seq,RU,RL,if_true,if_false,forall_const,implies_true,Nat.reduceLeDiff,Nat.reduceLT,pureOp,binPure,intBin,strBin,eqPure,isConstO,unPure,sliceLo,sliceHi,slicePure,slice3Pure,lenPure,capPure,minPure,maxPure,buildP,resK,endV,yieldE,↓reduceIte,Nat.reduceEqDiff,reduceCtorEq,Nat.reduceAdd,Nat.reduceMul,Nat.reduceSub,Int.reduceLT,Int.reduceLE,Int.reduceToNat,Int.reduceAdd,Int.reduceSub,Int.reduceMul,ne_eq,decide_true,decide_false,tf15, he0]
  refine alNoneNodes B2 rfl ?_
  try simp -dsimp only [↓RE,↓c_seq,RU,RL,if_true,if_false,forall_const,implies_true,Nat.reduceLeDiff,Nat.reduceLT,pureOp,binPure,intBin,strBin,eqPure,isConstO,unPure,sliceLo,sliceHi,slicePure,slice3Pure,lenPure,capPure,minPure,maxPure,buildP,resK,endV,yieldE,↓reduceIte,Nat.reduceEqDiff,reduceCtorEq,Nat.reduceAdd,Nat.reduceMul,Nat.reduceSub,Int.reduceLT,Int.reduceLE,Int.reduceToNat,Int.reduceAdd,Int.reduceSub,Int.reduceMul,ne_eq,decide_true,decide_false,tf15, he0]
  refine alNoneLabels B2 rfl ?_
  try simp -dsimp only [↓RE,↓c_seq,RU,RL,if_true,if_false,forall_const,implies_true,Nat.reduceLeDiff,Nat.reduceLT,pureOp,binPure,intBin,strBin,eqPure,isConstO,unPure,sliceLo,sliceHi,slicePure,slice3Pure,lenPure,capPure,minPure,maxPure,buildP,resK,endV,yieldE,↓reduceIte,Nat.reduceEqDiff,reduceCtorEq,Nat.reduceAdd,Nat.reduceMul,Nat.reduceSub,Int.reduceLT,Int.reduceLE,Int.reduceToNat,Int.reduceAdd,Int.reduceSub,Int.reduceMul,ne_eq,decide_true,decide_false,tf15, he0]
  refine alNoneAccs B2 rfl ?_
  try simp -dsimp only [↓RE,↓c_seq,RU,RL,if_true,if_false,forall_const,implies_true,Nat.reduceLeDiff,Nat.reduceLT,pureOp,binPure,intBin,strBin,eqPure,isConstO,unPure,sliceLo,sliceHi,slicePure,slice3Pure,lenPure,capPure,minPure,maxPure,buildP,resK,endV,yieldE,↓reduceIte,Nat.reduceEqDiff,reduceCtorEq,Nat.reduceAdd,Nat.reduceMul,Nat.reduceSub,Int.reduceLT,Int.reduceLE,Int.reduceToNat,Int.reduceAdd,Int.reduceSub,Int.reduceMul,ne_eq,decide_true,decide_false,tf15, he0]
  refine alNoneInses B2 rfl ?_
  try simp -dsimp only [↓RE,↓c_seq,RU,RL,if_true,if_false,forall_const,implies_true,Nat.reduceLeDiff,Nat.reduceLT,pureOp,binPure,intBin,strBin,eqPure,isConstO,unPure,sliceLo,sliceHi,slicePure,slice3Pure,lenPure,capPure,minPure,maxPure,buildP,resK,endV,yieldE,↓reduceIte,Nat.reduceEqDiff,reduceCtorEq,Nat.reduceAdd,Nat.reduceMul,Nat.reduceSub,Int.reduceLT,Int.reduceLE,Int.reduceToNat,Int.reduceAdd,Int.reduceSub,Int.reduceMul,ne_eq,decide_true,decide_false,tf15, he0]
  refine alNoneEntries B2 rfl ?_
  try simp -dsimp only [↓RE,↓c_seq,RU,RL,if_true,if_false,forall_const,implies_true,Nat.reduceLeDiff,Nat.reduceLT,pureOp,binPure,intBin,strBin,eqPure,isConstO,unPure,sliceLo,sliceHi,slicePure,slice3Pure,lenPure,capPure,minPure,maxPure,buildP,resK,endV,yieldE,↓reduceIte,Nat.reduceEqDiff,reduceCtorEq,Nat.reduceAdd,Nat.reduceMul,Nat.reduceSub,Int.reduceLT,Int.reduceLE,Int.reduceToNat,Int.reduceAdd,Int.reduceSub,Int.reduceMul,ne_eq,decide_true,decide_false,tf15, he0]
  refine alNoneTold B2 rfl ?_
  try simp -dsimp only [↓RE,↓c_seq,RU,RL,if_true,if_false,forall_const,implies_true,Nat.reduceLeDiff,Nat.reduceLT,pureOp,binPure,intBin,strBin,eqPure,isConstO,unPure,sliceLo,sliceHi,slicePure,slice3Pure,lenPure,capPure,minPure,maxPure,buildP,resK,endV,yieldE,↓reduceIte,Nat.reduceEqDiff,reduceCtorEq,Nat.reduceAdd,Nat.reduceMul,Nat.reduceSub,Int.reduceLT,Int.reduceLE,Int.reduceToNat,Int.reduceAdd,Int.reduceSub,Int.reduceMul,ne_eq,decide_true,decide_false,tf15, he0]
  refine alNoneTokens B2 rfl ?_
  try simp -dsimp only [↓RE,↓c_seq,RU,RL,if_true,if_false,forall_const,implies_true,Nat.reduceLeDiff,Nat.reduceLT,pureOp,binPure,intBin,strBin,eqPure,isConstO,unPure,sliceLo,sliceHi,slicePure,slice3Pure,lenPure,capPure,minPure,maxPure,buildP,resK,endV,yieldE,↓reduceIte,Nat.reduceEqDiff,reduceCtorEq,Nat.reduceAdd,Nat.reduceMul,Nat.reduceSub,Int.reduceLT,Int.reduceLE,Int.reduceToNat,Int.reduceAdd,Int.reduceSub,Int.reduceMul,ne_eq,decide_true,decide_false,tf15, he0]
  refine alNoneSlots B2 rfl ?_
  try simp -dsimp only [↓RE,↓c_seq,RU,RL,if_true,if_false,forall_const,implies_true,Nat.reduceLeDiff,Nat.reduceLT,pureOp,binPure,intBin,strBin,eqPure,isConstO,unPure,sliceLo,sliceHi,slicePure,slice3Pure,lenPure,capPure,minPure,maxPure,buildP,resK,endV,yieldE,↓reduceIte,Nat.reduceEqDiff,reduceCtorEq,Nat.reduceAdd,Nat.reduceMul,Nat.reduceSub,Int.reduceLT,Int.reduceLE,Int.reduceToNat,Int.reduceAdd,Int.reduceSub,Int.reduceMul,ne_eq,decide_true,decide_false,tf15, he0]
  refine alNoneFates B2 rfl ?_
  try simp -dsimp only [↓RE,↓c_seq,RU,RL,if_true,if_false,forall_const,implies_true,Nat.reduceLeDiff,Nat.reduceLT,pureOp,binPure,intBin,strBin,eqPure,isConstO,unPure,sliceLo,sliceHi,slicePure,slice3Pure,lenPure,capPure,minPure,maxPure,buildP,resK,endV,yieldE,↓reduceIte,Nat.reduceEqDiff,reduceCtorEq,Nat.reduceAdd,Nat.reduceMul,Nat.reduceSub,Int.reduceLT,Int.reduceLE,Int.reduceToNat,Int.reduceAdd,Int.reduceSub,Int.reduceMul,ne_eq,decide_true,decide_false,tf15, he0]
  refine alNonePoints B2 rfl ?_
  try simp -dsimp only [↓RE,↓c_seq,RU,RL,if_true,if_false,forall_const,implies_true,Nat.reduceLeDiff,Nat.reduceLT,pureOp,binPure,intBin,strBin,eqPure,isConstO,unPure,sliceLo,sliceHi,slicePure,slice3Pure,lenPure,capPure,minPure,maxPure,buildP,resK,endV,yieldE,↓reduceIte,Nat.reduceEqDiff,reduceCtorEq,Nat.reduceAdd,Nat.reduceMul,Nat.reduceSub,Int.reduceLT,Int.reduceLE,Int.reduceToNat,Int.reduceAdd,Int.reduceSub,Int.reduceMul,ne_eq,decide_true,decide_false,tf15, he0]
  refine alNoneWrites B2 rfl ?_
  try simp -dsimp only [↓RE,↓c_seq,RU,RL,if_true,if_false,forall_const,implies_true,Nat.reduceLeDiff,Nat.reduceLT,pureOp,binPure,intBin,strBin,eqPure,isConstO,unPure,sliceLo,sliceHi,slicePure,slice3Pure,lenPure,capPure,minPure,maxPure,buildP,resK,endV,yieldE,↓reduceIte,Nat.reduceEqDiff,reduceCtorEq,Nat.reduceAdd,Nat.reduceMul,Nat.reduceSub,Int.reduceLT,Int.reduceLE,Int.reduceToNat,Int.reduceAdd,Int.reduceSub,Int.reduceMul,ne_eq,decide_true,decide_false,tf15, he0]
  refine alDeltas_ok B2 rfl O19 H19 n19 (fun w103 k3 => ?_)
  have q3 := q2.trans k3 (fun _ _ q => q) (fun i _ q => Or.inr (.inr (.inr (q))))
  have B3 := B2.keep k3 (own_held H19 B2 (by decide))
  try simp -dsimp only [↓RE,↓c_seq,RU,RL,if_true,if_false,forall_const,implies_true,Nat.reduceLeDiff,Nat.reduceLT,pureOp,binPure,intBin,strBin,eqPure,isConstO,unPure,sliceLo,sliceHi,slicePure,slice3Pure,lenPure,capPure,minPure,maxPure,buildP,resK,endV,yieldE,↓reduceIte,Nat.reduceEqDiff,reduceCtorEq,Nat.reduceAdd,Nat.reduceMul,Nat.reduceSub,Int.reduceLT,Int.reduceLE,Int.reduceToNat,Int.reduceAdd,Int.reduceSub,Int.reduceMul,ne_eq,decide_true,decide_false,tf15, he0]
  refine alNoneSeriesList B3 rfl ?_
  try simp -dsimp only [↓RE,↓c_seq,RU,RL,if_true,if_false,forall_const,implies_true,Nat.reduceLeDiff,Nat.reduceLT,pureOp,binPure,intBin,strBin,eqPure,isConstO,unPure,sliceLo,sliceHi,slicePure,slice3Pure,lenPure,capPure,minPure,maxPure,buildP,resK,endV,yieldE,↓reduceIte,Nat.reduceEqDiff,reduceCtorEq,Nat.reduceAdd,Nat.reduceMul,Nat.reduceSub,Int.reduceLT,Int.reduceLE,Int.reduceToNat,Int.reduceAdd,Int.reduceSub,Int.reduceMul,ne_eq,decide_true,decide_false,tf15, he0]
  refine alNoneItems B3 rfl ?_
  try simp -dsimp only [↓RE,↓c_seq,RU,RL,if_true,if_false,forall_const,implies_true,Nat.reduceLeDiff,Nat.reduceLT,pureOp,binPure,intBin,strBin,eqPure,isConstO,unPure,sliceLo,sliceHi,slicePure,slice3Pure,lenPure,capPure,minPure,maxPure,buildP,resK,endV,yieldE,↓reduceIte,Nat.reduceEqDiff,reduceCtorEq,Nat.reduceAdd,Nat.reduceMul,Nat.reduceSub,Int.reduceLT,Int.reduceLE,Int.reduceToNat,Int.reduceAdd,Int.reduceSub,Int.reduceMul,ne_eq,decide_true,decide_false,tf15, he0]
  refine alNoneTables B3 rfl ?_
  try simp -dsimp only [↓RE,↓c_seq,RU,RL,if_true,if_false,forall_const,implies_true,Nat.reduceLeDiff,Nat.reduceLT,pureOp,binPure,intBin,strBin,eqPure,isConstO,unPure,sliceLo,sliceHi,slicePure,slice3Pure,lenPure,capPure,minPure,maxPure,buildP,resK,endV,yieldE,↓reduceIte,Nat.reduceEqDiff,reduceCtorEq,Nat.reduceAdd,Nat.reduceMul,Nat.reduceSub,Int.reduceLT,Int.reduceLE,Int.reduceToNat,Int.reduceAdd,Int.reduceSub,Int.reduceMul,ne_eq,decide_true,decide_false,tf15, he0]
  refine alNoneOuts B3 rfl ?_
  try simp -dsimp only [↓RE,↓c_seq,RU,RL,if_true,if_false,forall_const,implies_true,Nat.reduceLeDiff,Nat.reduceLT,pureOp,binPure,intBin,strBin,eqPure,isConstO,unPure,sliceLo,sliceHi,slicePure,slice3Pure,lenPure,capPure,minPure,maxPure,buildP,resK,endV,yieldE,↓reduceIte,Nat.reduceEqDiff,reduceCtorEq,Nat.reduceAdd,Nat.reduceMul,Nat.reduceSub,Int.reduceLT,Int.reduceLE,Int.reduceToNat,Int.reduceAdd,Int.reduceSub,Int.reduceMul,ne_eq,decide_true,decide_false,tf15, he0]
  refine alNoneTextLists B3 rfl ?_
  try simp -dsimp only [↓RE,↓c_seq,RU,RL,if_true,if_false,forall_const,implies_true,Nat.reduceLeDiff,Nat.reduceLT,pureOp,binPure,intBin,strBin,eqPure,isConstO,unPure,sliceLo,sliceHi,slicePure,slice3Pure,lenPure,capPure,minPure,maxPure,buildP,resK,endV,yieldE,↓reduceIte,Nat.reduceEqDiff,reduceCtorEq,Nat.reduceAdd,Nat.reduceMul,Nat.reduceSub,Int.reduceLT,Int.reduceLE,Int.reduceToNat,Int.reduceAdd,Int.reduceSub,Int.reduceMul,ne_eq,decide_true,decide_false,tf15, he0]
  refine alNoneCells B3 rfl ?_
  try simp -dsimp only [↓RE,↓c_seq,RU,RL,if_true,if_false,forall_const,implies_true,Nat.reduceLeDiff,Nat.reduceLT,pureOp,binPure,intBin,strBin,eqPure,isConstO,unPure,sliceLo,sliceHi,slicePure,slice3Pure,lenPure,capPure,minPure,maxPure,buildP,resK,endV,yieldE,↓reduceIte,Nat.reduceEqDiff,reduceCtorEq,Nat.reduceAdd,Nat.reduceMul,Nat.reduceSub,Int.reduceLT,Int.reduceLE,Int.reduceToNat,Int.reduceAdd,Int.reduceSub,Int.reduceMul,ne_eq,decide_true,decide_false,tf15, he0]
  refine alNoneRows B3 rfl ?_
  try simp -dsimp only [↓RE,↓c_seq,RU,RL,if_true,if_false,forall_const,implies_true,Nat.reduceLeDiff,Nat.reduceLT,pureOp,binPure,intBin,strBin,eqPure,isConstO,unPure,sliceLo,sliceHi,slicePure,slice3Pure,lenPure,capPure,minPure,maxPure,buildP,resK,endV,yieldE,↓reduceIte,Nat.reduceEqDiff,reduceCtorEq,Nat.reduceAdd,Nat.reduceMul,Nat.reduceSub,Int.reduceLT,Int.reduceLE,Int.reduceToNat,Int.reduceAdd,Int.reduceSub,Int.reduceMul,ne_eq,decide_true,decide_false,tf15, he0]
  refine alNoneImages B3 rfl ?_
  try simp -dsimp only [↓RE,↓c_seq,RU,RL,if_true,if_false,forall_const,implies_true,Nat.reduceLeDiff,Nat.reduceLT,pureOp,binPure,intBin,strBin,eqPure,isConstO,unPure,sliceLo,sliceHi,slicePure,slice3Pure,lenPure,capPure,minPure,maxPure,buildP,resK,endV,yieldE,↓reduceIte,Nat.reduceEqDiff,reduceCtorEq,Nat.reduceAdd,Nat.reduceMul,Nat.reduceSub,Int.reduceLT,Int.reduceLE,Int.reduceToNat,Int.reduceAdd,Int.reduceSub,Int.reduceMul,ne_eq,decide_true,decide_false,tf15, he0]
  refine B3.stAgg (by simp [bkCells]) (by simp [Value.oneCell']) (fun wl hBl kl => ?_)
  have ql := q3.trans kl (fun _ _ q => q) (fun i _ q => Or.inl q)
  try simp -dsimp only [↓RE,↓c_seq,RU,RL,if_true,if_false,forall_const,implies_true,Nat.reduceLeDiff,Nat.reduceLT,pureOp,binPure,intBin,strBin,eqPure,isConstO,unPure,sliceLo,sliceHi,slicePure,slice3Pure,lenPure,capPure,minPure,maxPure,buildP,resK,endV,yieldE,↓reduceIte,Nat.reduceEqDiff,reduceCtorEq,Nat.reduceAdd,Nat.reduceMul,Nat.reduceSub,Int.reduceLT,Int.reduceLE,Int.reduceToNat,Int.reduceAdd,Int.reduceSub,Int.reduceMul,ne_eq,decide_true,decide_false,tf15, he0]
  exact hr wl ql
/-- one list more. -/
theorem Bk.takeTags (h : Bk w0 w p v5 v7 v19 s5 s7 s19 c5 c7 c19) {A : Option Addr} {n c : Nat} {xs : List Value} (ho : LRow w 119 2 (.slice A n c) n xs) (hf : ∀ k, fpA A k → w0.heap.size ≤ k ∧ ¬ fpL v5 k)
    (hb : n + 20 ≤ maxLen ∧ (n + 20) * 32 ≤ 140737488355328) {B3 : Option Addr} {C3 : Nat} {w3 : World} {ga : Grow w (w.alloc (.cells #[.slice A n c] 91))}
    (hO3 : LRow w3 91 1 (.slice B3 (v5.length + 1) C3) (v5.length + 1) (v5 ++ [.slice A n c])) (k3 : Keep (fpV s5) (w.alloc (.cells #[.slice A n c] 91)) w3)
    (hF3 : ∀ k, fpV (.slice B3 (v5.length + 1) C3) k → fpV s5 k ∨ k = (w.alloc (.cells #[.slice A n c] 91)).heap.size) :
    Bk w0 (w3.setCell ⟨p, 5, none⟩ (.slice B3 (v5.length + 1) C3)) p (v5 ++ [.slice A n c]) v7 v19 (.slice B3 (v5.length + 1) C3) s7 s19 (fun j => if j = v5.length then xs else c5 j) c7 c19 ∧ Keep (fun k => k = p ∨ fpV s5 k) w (w3.setCell ⟨p, 5, none⟩ (.slice B3 (v5.length + 1) C3)) := by
  have hB3 := (h.b.grow ga).keep k3 (LRow.blk_ne h.o5 h.b (by decide))
  have hlt := LRow.lt h.o5
  have hgas := ga.size
  have hz3 := k3.size
  have hfp := h.fp
  have hfs := h.fs
  have hfl := h.fl
  have hlp := h.b.lt
  have k4 := Keep.set1 w3 p 5 (.slice B3 (v5.length + 1) C3)
  have hB4 := hB3.set 5 (.slice B3 (v5.length + 1) C3)
  have hlen : (v5 ++ [Value.slice A n c]).length = v5.length + 1 := by simp
  have kk : Keep (fun k => k = p ∨ fpV s5 k) w (w3.setCell ⟨p, 5, none⟩ (.slice B3 (v5.length + 1) C3)) := (ga.then k3).trans k4 (fun _ _ q => .inr q) (fun _ _ q => .inl q)
  have hO4 : LRow (w3.setCell ⟨p, 5, none⟩ (.slice B3 (v5.length + 1) C3)) 91 1 (.slice B3 (v5.length + 1) C3) (v5 ++ [Value.slice A n c]).length (v5 ++ [Value.slice A n c]) := by
    rw [hlen]; exact LRow.keep hO3 k4 (fun k q q' => LRow.blk_ne hO3 hB3 (by decide) (by rw [← q']; exact q))
  have hrow := LRow.keep (LRow.keep (LRow.grow ho ga) k3 (fun k q q' => LRow.ne ho h.o5 (by decide) k q q')) k4 (fun k q q' => LRow.blk_ne ho h.b (by decide) (by rw [← q']; exact q))
  have hH3 := ((h.h5.keep ga (fun _ _ q => q)).keep k3 (fun k q q' => held_own h.h5 h.o5 (by decide) k q q')).keep k4 (fun k q q' => own_held h.h5 h.b (by decide) (by rw [← q']; exact q))
  have hH4 := hH3.snoc hrow (fun k q => (hf k ((fpV_fpA _ _ _ _).1 q)).2) hb
  refine ⟨⟨hB4, hO4, LRow.keep (LRow.keep (LRow.grow h.o7 ga) k3 (fun k q q' => LRow.ne h.o7 h.o5 (by decide) k q q')) k4 (fun k q q' => LRow.blk_ne h.o7 h.b (by decide) (by rw [← q']; exact q)), LRow.keep (LRow.keep (LRow.grow h.o19 ga) k3 (fun k q q' => LRow.ne h.o19 h.o5 (by decide) k q q')) k4 (fun k q q' => LRow.blk_ne h.o19 h.b (by decide) (by rw [← q']; exact q)), hH4, ((h.h7.keep ga (fun _ _ q => q)).keep k3 (fun k q q' => held_own h.h7 h.o5 (by decide) k q q')).keep k4 (fun k q q' => own_held h.h7 h.b (by decide) (by rw [← q']; exact q)), ((h.h19.keep ga (fun _ _ q => q)).keep k3 (fun k q q' => held_own h.h19 h.o5 (by decide) k q q')).keep k4 (fun k q q' => own_held h.h19 h.b (by decide) (by rw [← q']; exact q)), hfp, fun k q => ?_, fun k q => ?_⟩, kk⟩
  · rcases q with q | q | q
    · rcases hF3 k q with q | q
      · exact hfs k (.inl (q))
      · omega
    · exact hfs k (.inr (.inl (q)))
    · exact hfs k (.inr (.inr (q)))
  · rcases q with q | q | q
    · obtain ⟨u, hu, hq⟩ := q
      rcases List.mem_append.1 hu with hu | hu
      · exact hfl k (.inl (⟨u, hu, hq⟩))
      · rw [List.mem_singleton.1 hu] at hq; exact (hf k ((fpV_fpA _ _ _ _).1 hq)).1
    · exact hfl k (.inr (.inl (q)))
    · exact hfl k (.inr (.inr (q)))
/-- one list more. -/
theorem Bk.takeSamples (h : Bk w0 w p v5 v7 v19 s5 s7 s19 c5 c7 c19) {A : Option Addr} {n c : Nat} {xs : List Value} (ho : LRow w 89 3 (.slice A n c) n xs) (hf : ∀ k, fpA A k → w0.heap.size ≤ k ∧ ¬ fpL v7 k)
    (hb : n + 20 ≤ maxLen ∧ (n + 20) * 24 ≤ 140737488355328) {B3 : Option Addr} {C3 : Nat} {w3 : World} {ga : Grow w (w.alloc (.cells #[.slice A n c] 62))}
    (hO3 : LRow w3 62 1 (.slice B3 (v7.length + 1) C3) (v7.length + 1) (v7 ++ [.slice A n c])) (k3 : Keep (fpV s7) (w.alloc (.cells #[.slice A n c] 62)) w3)
    (hF3 : ∀ k, fpV (.slice B3 (v7.length + 1) C3) k → fpV s7 k ∨ k = (w.alloc (.cells #[.slice A n c] 62)).heap.size) :
    Bk w0 (w3.setCell ⟨p, 7, none⟩ (.slice B3 (v7.length + 1) C3)) p v5 (v7 ++ [.slice A n c]) v19 s5 (.slice B3 (v7.length + 1) C3) s19 c5 (fun j => if j = v7.length then xs else c7 j) c19 ∧ Keep (fun k => k = p ∨ fpV s7 k) w (w3.setCell ⟨p, 7, none⟩ (.slice B3 (v7.length + 1) C3)) := by
  have hB3 := (h.b.grow ga).keep k3 (LRow.blk_ne h.o7 h.b (by decide))
  have hlt := LRow.lt h.o7
  have hgas := ga.size
  have hz3 := k3.size
  have hfp := h.fp
  have hfs := h.fs
  have hfl := h.fl
  have hlp := h.b.lt
  have k4 := Keep.set1 w3 p 7 (.slice B3 (v7.length + 1) C3)
  have hB4 := hB3.set 7 (.slice B3 (v7.length + 1) C3)
  have hlen : (v7 ++ [Value.slice A n c]).length = v7.length + 1 := by simp
  have kk : Keep (fun k => k = p ∨ fpV s7 k) w (w3.setCell ⟨p, 7, none⟩ (.slice B3 (v7.length + 1) C3)) := (ga.then k3).trans k4 (fun _ _ q => .inr q) (fun _ _ q => .inl q)
  have hO4 : LRow (w3.setCell ⟨p, 7, none⟩ (.slice B3 (v7.length + 1) C3)) 62 1 (.slice B3 (v7.length + 1) C3) (v7 ++ [Value.slice A n c]).length (v7 ++ [Value.slice A n c]) := by
    rw [hlen]; exact LRow.keep hO3 k4 (fun k q q' => LRow.blk_ne hO3 hB3 (by decide) (by rw [← q']; exact q))
  have hrow := LRow.keep (LRow.keep (LRow.grow ho ga) k3 (fun k q q' => LRow.ne ho h.o7 (by decide) k q q')) k4 (fun k q q' => LRow.blk_ne ho h.b (by decide) (by rw [← q']; exact q))
  have hH3 := ((h.h7.keep ga (fun _ _ q => q)).keep k3 (fun k q q' => held_own h.h7 h.o7 (by decide) k q q')).keep k4 (fun k q q' => own_held h.h7 h.b (by decide) (by rw [← q']; exact q))
  have hH4 := hH3.snoc hrow (fun k q => (hf k ((fpV_fpA _ _ _ _).1 q)).2) hb
  refine ⟨⟨hB4, LRow.keep (LRow.keep (LRow.grow h.o5 ga) k3 (fun k q q' => LRow.ne h.o5 h.o7 (by decide) k q q')) k4 (fun k q q' => LRow.blk_ne h.o5 h.b (by decide) (by rw [← q']; exact q)), hO4, LRow.keep (LRow.keep (LRow.grow h.o19 ga) k3 (fun k q q' => LRow.ne h.o19 h.o7 (by decide) k q q')) k4 (fun k q q' => LRow.blk_ne h.o19 h.b (by decide) (by rw [← q']; exact q)), ((h.h5.keep ga (fun _ _ q => q)).keep k3 (fun k q q' => held_own h.h5 h.o7 (by decide) k q q')).keep k4 (fun k q q' => own_held h.h5 h.b (by decide) (by rw [← q']; exact q)), hH4, ((h.h19.keep ga (fun _ _ q => q)).keep k3 (fun k q q' => held_own h.h19 h.o7 (by decide) k q q')).keep k4 (fun k q q' => own_held h.h19 h.b (by decide) (by rw [← q']; exact q)), hfp, fun k q => ?_, fun k q => ?_⟩, kk⟩
  · rcases q with q | q | q
    · exact hfs k (.inl (q))
    · rcases hF3 k q with q | q
      · exact hfs k (.inr (.inl (q)))
      · omega
    · exact hfs k (.inr (.inr (q)))
  · rcases q with q | q | q
    · exact hfl k (.inl (q))
    · obtain ⟨u, hu, hq⟩ := q
      rcases List.mem_append.1 hu with hu | hu
      · exact hfl k (.inr (.inl (⟨u, hu, hq⟩)))
      · rw [List.mem_singleton.1 hu] at hq; exact (hf k ((fpV_fpA _ _ _ _).1 hq)).1
    · exact hfl k (.inr (.inr (q)))
/-- one list more. -/
theorem Bk.takeDeltas (h : Bk w0 w p v5 v7 v19 s5 s7 s19 c5 c7 c19) {A : Option Addr} {n c : Nat} {xs : List Value} (ho : LRow w 95 10 (.slice A n c) n xs) (hf : ∀ k, fpA A k → w0.heap.size ≤ k ∧ ¬ fpL v19 k)
    (hb : n + 20 ≤ maxLen ∧ (n + 20) * 104 ≤ 140737488355328) {B3 : Option Addr} {C3 : Nat} {w3 : World} {ga : Grow w (w.alloc (.cells #[.slice A n c] 68))}
    (hO3 : LRow w3 68 1 (.slice B3 (v19.length + 1) C3) (v19.length + 1) (v19 ++ [.slice A n c])) (k3 : Keep (fpV s19) (w.alloc (.cells #[.slice A n c] 68)) w3)
    (hF3 : ∀ k, fpV (.slice B3 (v19.length + 1) C3) k → fpV s19 k ∨ k = (w.alloc (.cells #[.slice A n c] 68)).heap.size) :
    Bk w0 (w3.setCell ⟨p, 19, none⟩ (.slice B3 (v19.length + 1) C3)) p v5 v7 (v19 ++ [.slice A n c]) s5 s7 (.slice B3 (v19.length + 1) C3) c5 c7 (fun j => if j = v19.length then xs else c19 j) ∧ Keep (fun k => k = p ∨ fpV s19 k) w (w3.setCell ⟨p, 19, none⟩ (.slice B3 (v19.length + 1) C3)) := by
  have hB3 := (h.b.grow ga).keep k3 (LRow.blk_ne h.o19 h.b (by decide))
  have hlt := LRow.lt h.o19
  have hgas := ga.size
  have hz3 := k3.size
  have hfp := h.fp
  have hfs := h.fs
  have hfl := h.fl
  have hlp := h.b.lt
  have k4 := Keep.set1 w3 p 19 (.slice B3 (v19.length + 1) C3)
  have hB4 := hB3.set 19 (.slice B3 (v19.length + 1) C3)
  have hlen : (v19 ++ [Value.slice A n c]).length = v19.length + 1 := by simp
  have kk : Keep (fun k => k = p ∨ fpV s19 k) w (w3.setCell ⟨p, 19, none⟩ (.slice B3 (v19.length + 1) C3)) := (ga.then k3).trans k4 (fun _ _ q => .inr q) (fun _ _ q => .inl q)
  have hO4 : LRow (w3.setCell ⟨p, 19, none⟩ (.slice B3 (v19.length + 1) C3)) 68 1 (.slice B3 (v19.length + 1) C3) (v19 ++ [Value.slice A n c]).length (v19 ++ [Value.slice A n c]) := by
    rw [hlen]; exact LRow.keep hO3 k4 (fun k q q' => LRow.blk_ne hO3 hB3 (by decide) (by rw [← q']; exact q))
  have hrow := LRow.keep (LRow.keep (LRow.grow ho ga) k3 (fun k q q' => LRow.ne ho h.o19 (by decide) k q q')) k4 (fun k q q' => LRow.blk_ne ho h.b (by decide) (by rw [← q']; exact q))
  have hH3 := ((h.h19.keep ga (fun _ _ q => q)).keep k3 (fun k q q' => held_own h.h19 h.o19 (by decide) k q q')).keep k4 (fun k q q' => own_held h.h19 h.b (by decide) (by rw [← q']; exact q))
  have hH4 := hH3.snoc hrow (fun k q => (hf k ((fpV_fpA _ _ _ _).1 q)).2) hb
  refine ⟨⟨hB4, LRow.keep (LRow.keep (LRow.grow h.o5 ga) k3 (fun k q q' => LRow.ne h.o5 h.o19 (by decide) k q q')) k4 (fun k q q' => LRow.blk_ne h.o5 h.b (by decide) (by rw [← q']; exact q)), LRow.keep (LRow.keep (LRow.grow h.o7 ga) k3 (fun k q q' => LRow.ne h.o7 h.o19 (by decide) k q q')) k4 (fun k q q' => LRow.blk_ne h.o7 h.b (by decide) (by rw [← q']; exact q)), hO4, ((h.h5.keep ga (fun _ _ q => q)).keep k3 (fun k q q' => held_own h.h5 h.o19 (by decide) k q q')).keep k4 (fun k q q' => own_held h.h5 h.b (by decide) (by rw [← q']; exact q)), ((h.h7.keep ga (fun _ _ q => q)).keep k3 (fun k q q' => held_own h.h7 h.o19 (by decide) k q q')).keep k4 (fun k q q' => own_held h.h7 h.b (by decide) (by rw [← q']; exact q)), hH4, hfp, fun k q => ?_, fun k q => ?_⟩, kk⟩
  · rcases q with q | q | q
    · exact hfs k (.inl (q))
    · exact hfs k (.inr (.inl (q)))
    · rcases hF3 k q with q | q
      · exact hfs k (.inr (.inr (q)))
      · omega
  · rcases q with q | q | q
    · exact hfl k (.inl (q))
    · exact hfl k (.inr (.inl (q)))
    · obtain ⟨u, hu, hq⟩ := q
      rcases List.mem_append.1 hu with hu | hu
      · exact hfl k (.inr (.inr (⟨u, hu, hq⟩)))
      · rw [List.mem_singleton.1 hu] at hq; exact (hf k ((fpV_fpA _ _ _ _).1 hq)).1
end

end Go.Proofs.YtcnebgokbjpjnaaGreat
