/- The document's errors as values. -/
import Derived.Test.YtljgnocpijniiaaGreatDoorMem
import Derived.Test.YtljgnocpijniiaaGreatDoorTab
import Derived.Test.YtljgnocpijniiaaGreatDoorArith
set_option linter.unusedVariables false
set_option linter.unusedSimpArgs false
set_option maxRecDepth 100000
namespace Go.Proofs.YtljgnocpijniiaaGreatDoor
open Go

structure BadV where
  code : Int
  at_ : Int
  ins : Int
  placed : Bool
  numbered : Bool
def BadV.cells (b : BadV) : List Value := [.int .i64 b.code, .int .i64 b.at_, .int .i64 b.ins, .bool b.placed, .bool b.numbered]
def BadV.v (b : BadV) : Value := .agg b.cells.toArray
def BadV.none : BadV := ⟨0, 0, 0, false, false⟩
theorem rnew_ok {w : World} {c : Int} {R : VWK} (h : ∀ w', Grow w w' → R (BadV.v ⟨c, 0, 0, false, false⟩) w') : CallsV Tryz.prog 45 [.int .i64 c] w R := by
  refine calls_of_wpC mixed Tryz.func45 rfl (by kernel_rfl) ?_
  intro e he
  have he0 := he 0
  simp only [List.getD_cons_zero, List.getD_cons_succ] at he0
  clear he
  try simp -dsimp only [↓RE,↓c_seq,RU,RL,Nat.reduceLeDiff,Nat.reduceLT,pureOp,buildP,resK,endV,↓reduceIte,Nat.reduceEqDiff,reduceCtorEq,Nat.reduceAdd,Nat.reduceMul,Int.reduceLT,Int.reduceLE,Int.reduceToNat,decide_true,decide_false,tf45, he0]
  have hz := Blk.new' w 33 #[.int .i64 0, .int .i64 0, .int .i64 0, .bool false, .bool false]
  have ga := Grow.alloc w (.cells #[.int .i64 0, .int .i64 0, .int .i64 0, .bool false, .bool false] 33)
  refine hz.stAgg (by simp) (by simp [Value.oneCell']) (fun w1 hB1 hK1 => ?_)
  have hB1 : Blk w1 w.heap.size 33 (BadV.cells ⟨c, 0, 0, false, false⟩) := by simpa [BadV.cells] using hB1
  try simp -dsimp only [↓RE,↓c_seq,RU,RL,Nat.reduceLeDiff,Nat.reduceLT,pureOp,buildP,resK,endV,↓reduceIte,Nat.reduceEqDiff,reduceCtorEq,Nat.reduceAdd,Nat.reduceMul,Int.reduceLT,Int.reduceLE,Int.reduceToNat,decide_true,decide_false,tf45, he0]
  refine hB1.aggK (by simp [BadV.cells]) ?_
  try simp -dsimp only [↓RE,↓c_seq,RU,RL,Nat.reduceLeDiff,Nat.reduceLT,pureOp,buildP,resK,endV,↓reduceIte,Nat.reduceEqDiff,reduceCtorEq,Nat.reduceAdd,Nat.reduceMul,Int.reduceLT,Int.reduceLE,Int.reduceToNat,decide_true,decide_false,tf45, he0]
  exact h w1 (ga.above hK1 (fun i hi e => by omega))

end Go.Proofs.YtljgnocpijniiaaGreatDoor
