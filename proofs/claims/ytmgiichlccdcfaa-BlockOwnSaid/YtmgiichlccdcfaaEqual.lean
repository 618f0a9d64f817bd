/- bytes.Equal, and the document's comparison: two rows of bytes are the same just when the lists are. -/
import Derived.Test.YtmgiichlccdcfaaText
import Derived.Test.YtmgiichlccdcfaaSame
import Derived.Laws.Strings
set_option linter.unusedVariables false
set_option linter.unusedSimpArgs false
set_option maxRecDepth 100000
namespace Go.Proofs.Ytmgiichlccdcfaa
open Go

theorem nums_inj {xs ys : List Int} (hx : ∀ z ∈ xs, 0 ≤ z ∧ z < 256) (hy : ∀ z ∈ ys, 0 ≤ z ∧ z < 256) : (strOfNums xs = strOfNums ys) ↔ xs = ys := by
  refine ⟨fun h => ?_, fun h => by rw [h]⟩
  have h1 := nums_back hx
  rw [h, nums_back hy] at h1
  exact (List.map_inj_right (fun a b hab => by injection hab)).1 h1.symm
theorem nums_eqb {xs ys : List Int} (hx : ∀ z ∈ xs, 0 ≤ z ∧ z < 256) (hy : ∀ z ∈ ys, 0 ≤ z ∧ z < 256) : ((strOfNums xs).toList == (strOfNums ys).toList) = decide (xs = ys) := by
  rw [ByteArray.toList_eq, ByteArray.toList_eq]
  by_cases h : xs = ys
  · subst h
    rw [decide_eq_true rfl]; exact beq_self_eq_true _
  · rw [decide_eq_false h, beq_eq_false_iff_ne]
    intro hq
    refine h ((nums_inj hx hy).1 ?_)
    cases hs : strOfNums xs; cases ht : strOfNums ys
    rw [hs, ht] at hq
    have hq := Array.toList_inj.1 hq
    simp only at hq
    rw [hq]
theorem equal_ok {w : World} {A B : Option Addr} {n m c d : Nat} {xs ys : List Int} (hA : Rd w A n 1 (xs.map (Value.int .u8))) (hB : Rd w B m 1 (ys.map (Value.int .u8)))
    (hx : ∀ z ∈ xs, 0 ≤ z ∧ z < 256) (hy : ∀ z ∈ ys, 0 ≤ z ∧ z < 256) {R : VWK} (h : ∀ w', Grow w w' → R (.bool (decide (xs = ys))) w') :
    CallsV Try.prog 42 [.slice A n c, .slice B m d] w R := by
  refine calls_of_wpC mixed Try.func42 rfl (by kernel_rfl) ?_
  intro e he
  have he0 := he 0
  have he1 := he 1
  simp only [List.getD_cons_zero, List.getD_cons_succ] at he0 he1
  clear he
  try simp -dsimp only [↓RE,↓c_seq,RU,RL,if_true,if_false,forall_const,implies_true,Nat.reduceLeDiff,Nat.reduceLT,pureOp,binPure,intBin,strBin,eqPure,isConstO,unPure,sliceLo,sliceHi,slicePure,lenPure,minPure,maxPure,buildP,resK,endV,yieldE,↓reduceIte,Nat.reduceEqDiff,reduceCtorEq,Nat.reduceAdd,Nat.reduceMul,Nat.reduceSub,Int.reduceLT,Int.reduceLE,Int.reduceToNat,Int.reduceAdd,Int.reduceSub,Int.reduceMul,ne_eq,decide_true,decide_false,tf42, he0, he1]
  refine genK_totext rfl Try.underlying29 Try.underlying5 Try.underlying9 (A := A) (n := n) (c := c) (xs := xs) (by simp -dsimp only [↓RE,RU,RL,if_true,if_false,↓reduceIte,Nat.reduceEqDiff,reduceCtorEq,decide_true,decide_false, he0, he1]) hA ?_
  try simp -dsimp only [↓RE,↓c_seq,RU,RL,if_true,if_false,forall_const,implies_true,Nat.reduceLeDiff,Nat.reduceLT,pureOp,binPure,intBin,strBin,eqPure,isConstO,unPure,sliceLo,sliceHi,slicePure,lenPure,minPure,maxPure,buildP,resK,endV,yieldE,↓reduceIte,Nat.reduceEqDiff,reduceCtorEq,Nat.reduceAdd,Nat.reduceMul,Nat.reduceSub,Int.reduceLT,Int.reduceLE,Int.reduceToNat,Int.reduceAdd,Int.reduceSub,Int.reduceMul,ne_eq,decide_true,decide_false,tf42, he0, he1]
  refine genK_totext rfl Try.underlying29 Try.underlying5 Try.underlying9 (A := B) (n := m) (c := d) (xs := ys) (by simp -dsimp only [↓RE,RU,RL,if_true,if_false,↓reduceIte,Nat.reduceEqDiff,reduceCtorEq,decide_true,decide_false, he0, he1]) hB ?_
  try simp -dsimp only [↓RE,↓c_seq,RU,RL,if_true,if_false,forall_const,implies_true,Nat.reduceLeDiff,Nat.reduceLT,pureOp,binPure,intBin,strBin,eqPure,isConstO,unPure,sliceLo,sliceHi,slicePure,lenPure,minPure,maxPure,buildP,resK,endV,yieldE,↓reduceIte,Nat.reduceEqDiff,reduceCtorEq,Nat.reduceAdd,Nat.reduceMul,Nat.reduceSub,Int.reduceLT,Int.reduceLE,Int.reduceToNat,Int.reduceAdd,Int.reduceSub,Int.reduceMul,ne_eq,decide_true,decide_false,tf42, he0, he1]
  rw [nums_eqb hx hy]
  exact h w (Keep.refl _ _)
end Go.Proofs.Ytmgiichlccdcfaa
