/- The law BatchChecks, walked. -/
import Derived.Test.YtljgnocpijniiaaGreatDoorLives
import Derived.Test.YtljgnocpijniiaaGreatDoorStayed
set_option linter.unusedVariables false
set_option linter.unusedSimpArgs false
set_option maxRecDepth 100000
namespace Go.Proofs.YtljgnocpijniiaaGreatDoor
open Go

set_option maxHeartbeats 2000000 in
theorem checks_walk {w : World} {A : Option Addr} {n c : Nat} {X : List PtV} (hX : RdP w A n X) (hoX : ∀ x ∈ X, x.Ok w ∧ x.n ≤ 1048576 ∧ x.k ≤ 1048576) (hn : n ≤ 1048576) (hL : Lay w) (hT : Tabs w) {R : VWK}
    (h : ∀ w', Grow w w' → R (.bool true) w') : CallsV Tryz.prog 4 [.slice A n c] w R := by
  have hoX : ∀ x ∈ X, x.Ok w := fun x hx => (hoX x hx).1
  refine calls_of_wpC mixed Tryz.func4 rfl (by kernel_rfl) ?_
  intro e he
  have he0 := he 0
  simp only [List.getD_cons_zero, List.getD_cons_succ] at he0
  clear he
  repeat (first | rw [c_seq] | simp -dsimp only [↓RE,RU,RL,if_true,if_false,forall_const,implies_true,Nat.reduceLeDiff,Nat.reduceLT,pureOp,resK,endV,yieldE,↓reduceIte,Nat.reduceEqDiff,reduceCtorEq,Nat.reduceAdd,Nat.reduceMul,Int.reduceLT,Int.reduceLE,Int.reduceToNat,decide_true,decide_false,tf4, he0])
  refine copied_ok hX hoX (by omega) (fun w1 A1 c1 Q hQ hq g1 => ?_)
  repeat (first | rw [c_seq] | simp -dsimp only [↓RE,RU,RL,if_true,if_false,forall_const,implies_true,Nat.reduceLeDiff,Nat.reduceLT,pureOp,resK,endV,yieldE,↓reduceIte,Nat.reduceEqDiff,reduceCtorEq,Nat.reduceAdd,Nat.reduceMul,Int.reduceLT,Int.reduceLE,Int.reduceToNat,decide_true,decide_false,tf4, he0])
  refine live7_ok (hL.grow g1) (hT.grow g1) (fun w2 g2 => ?_)
  have g02 := g1.trans g2
  have hQ2 := hQ.grow g2
  repeat (first | rw [c_seq] | simp -dsimp only [↓RE,RU,RL,if_true,if_false,forall_const,implies_true,Nat.reduceLeDiff,Nat.reduceLT,pureOp,resK,endV,yieldE,↓reduceIte,Nat.reduceEqDiff,reduceCtorEq,Nat.reduceAdd,Nat.reduceMul,Int.reduceLT,Int.reduceLE,Int.reduceToNat,decide_true,decide_false,tf4, he0])
  refine bcheck_ok hQ2.rd (fun x hx => (hQ2.els x hx).1) (by omega) (hT.grow g02) (fun w3 g3 => ?_)
  have g03 := g02.trans g3
  rw [hq]
  repeat (first | rw [c_seq] | simp -dsimp only [↓RE,RU,RL,if_true,if_false,forall_const,implies_true,Nat.reduceLeDiff,Nat.reduceLT,pureOp,resK,endV,yieldE,↓reduceIte,Nat.reduceEqDiff,reduceCtorEq,Nat.reduceAdd,Nat.reduceMul,Int.reduceLT,Int.reduceLE,Int.reduceToNat,decide_true,decide_false,tf4, he0])
  refine qcheck_ok (hX.grow g03) (all_grow hoX g03) (by omega) (fun w4 g4 => ?_)
  have g04 := g03.trans g4
  repeat (first | rw [c_seq] | simp -dsimp only [↓RE,RU,RL,if_true,if_false,forall_const,implies_true,Nat.reduceLeDiff,Nat.reduceLT,pureOp,resK,endV,yieldE,↓reduceIte,Nat.reduceEqDiff,reduceCtorEq,Nat.reduceAdd,Nat.reduceMul,Int.reduceLT,Int.reduceLE,Int.reduceToNat,decide_true,decide_false,tf4, he0])
  refine same_err (hL.grow g04) (fun y hy => checkE_code hy) (fun w5 g5 => ?_)
  have g05 := g04.trans g5
  repeat (first | rw [c_seq] | simp -dsimp only [↓RE,RU,RL,if_true,if_false,forall_const,implies_true,Nat.reduceLeDiff,Nat.reduceLT,pureOp,resK,endV,yieldE,↓reduceIte,Nat.reduceEqDiff,reduceCtorEq,Nat.reduceAdd,Nat.reduceMul,Int.reduceLT,Int.reduceLE,Int.reduceToNat,decide_true,decide_false,tf4, he0])
  refine stayed_ok (hQ2.grow ((g3.trans g4).trans g5)) (hX.grow g05) (all_grow hoX g05) hq (by omega) (fun w6 g6 => ?_)
  repeat (first | rw [c_seq] | simp -dsimp only [↓RE,RU,RL,if_true,if_false,forall_const,implies_true,Nat.reduceLeDiff,Nat.reduceLT,pureOp,resK,endV,yieldE,↓reduceIte,Nat.reduceEqDiff,reduceCtorEq,Nat.reduceAdd,Nat.reduceMul,Int.reduceLT,Int.reduceLE,Int.reduceToNat,decide_true,decide_false,tf4, he0])
  exact h w6 (g05.trans g6)

end Go.Proofs.YtljgnocpijniiaaGreatDoor
