/- The law BatchFlats, walked. -/
import Derived.Test.YtljgnocpijniiaaGreatDoorLives
import Derived.Test.YtljgnocpijniiaaGreatDoorStayed
import Derived.Test.YtljgnocpijniiaaGreatDoorFlatQ
set_option linter.unusedVariables false
set_option linter.unusedSimpArgs false
set_option maxRecDepth 100000
namespace Go.Proofs.YtljgnocpijniiaaGreatDoor
open Go

theorem flatL_few (l : List Pt) : (flatL l).length ≤ 160000 := by
  unfold flatL
  cases h : checkE l with
  | some y => simp
  | none =>
    obtain ⟨h1, h2⟩ := check_few h
    have := flat_few h2
    have := wOrd_len (flatW l)
    simp only [Option.isSome_none, Bool.false_eq_true, if_false]
    omega
set_option maxHeartbeats 4000000 in
theorem flats_walk {w : World} {A : Option Addr} {n c : Nat} {X : List PtV} (hX : RdP w A n X) (hoX : ∀ x ∈ X, x.Ok w ∧ x.n ≤ 1048576 ∧ x.k ≤ 1048576) (hn : n ≤ 1048576) (hL : Lay w) (hT : Tabs w) {R : VWK}
    (h : ∀ w', Grow w w' → R (.bool true) w') : CallsV Tryz.prog 5 [.slice A n c] w R := by
  have hoX : ∀ x ∈ X, x.Ok w := fun x hx => (hoX x hx).1
  have hfew := flatL_few (X.map PtV.p)
  refine calls_of_wpC mixed Tryz.func5 rfl (by kernel_rfl) ?_
  intro e he
  have he0 := he 0
  simp only [List.getD_cons_zero, List.getD_cons_succ] at he0
  clear he
  repeat (first | rw [c_seq] | simp -dsimp only [↓RE,RU,RL,if_true,if_false,forall_const,implies_true,Nat.reduceLeDiff,Nat.reduceLT,pureOp,resK,endV,yieldE,↓reduceIte,Nat.reduceEqDiff,reduceCtorEq,Nat.reduceAdd,Nat.reduceMul,Int.reduceLT,Int.reduceLE,Int.reduceToNat,decide_true,decide_false,tf5, he0])
  refine copied_ok hX hoX (by omega) (fun w1 A1 c1 Q hQ hq g1 => ?_)
  repeat (first | rw [c_seq] | simp -dsimp only [↓RE,RU,RL,if_true,if_false,forall_const,implies_true,Nat.reduceLeDiff,Nat.reduceLT,pureOp,resK,endV,yieldE,↓reduceIte,Nat.reduceEqDiff,reduceCtorEq,Nat.reduceAdd,Nat.reduceMul,Int.reduceLT,Int.reduceLE,Int.reduceToNat,decide_true,decide_false,tf5, he0])
  refine bflat_ok hQ.rd (fun x hx => (hQ.els x hx).1) (by omega) (hT.grow g1) (fun w2 v2 D2 hD2 g2 => ?_)
  rw [hq] at hD2 ⊢
  have g02 := g1.trans g2
  repeat (first | rw [c_seq] | simp -dsimp only [↓RE,RU,RL,if_true,if_false,forall_const,implies_true,Nat.reduceLeDiff,Nat.reduceLT,pureOp,resK,endV,yieldE,↓reduceIte,Nat.reduceEqDiff,reduceCtorEq,Nat.reduceAdd,Nat.reduceMul,Int.reduceLT,Int.reduceLE,Int.reduceToNat,decide_true,decide_false,tf5, he0])
  refine qflat_ok (hX.grow g02) (all_grow hoX g02) (by omega) (fun w3 v3 D3 hD3 g3 => ?_)
  have g03 := g02.trans g3
  have hD2 := hD2.grow g3
  have hl2 := hfew
  rw [← hD2.eq, List.length_map] at hl2
  have hl3 := hfew
  rw [← hD3.eq, List.length_map] at hl3
  have e23 : D2.map WrV.wr = D3.map WrV.wr := by rw [hD2.eq, hD3.eq]
  have hl23 : D2.length = D3.length := by rw [← List.length_map (f := WrV.wr), e23, List.length_map]
  obtain ⟨A2, c2, rfl, _, _⟩ := hD2.row.form
  obtain ⟨A3, c3, rfl, _, _⟩ := hD3.row.form
  have hcode : ∀ y, checkE (X.map PtV.p) = some y → y.code ≠ 0 := fun y hy => checkE_code hy
  generalize checkE (X.map PtV.p) = er at hcode
  obtain ⟨bd, hbd⟩ : ∃ bd, bd = badOf er := ⟨_, rfl⟩
  rw [← hbd]
  repeat (first | rw [c_seq] | simp -dsimp only [↓RE,RU,RL,if_true,if_false,forall_const,implies_true,Nat.reduceLeDiff,Nat.reduceLT,pureOp,resK,endV,yieldE,↓reduceIte,Nat.reduceEqDiff,reduceCtorEq,Nat.reduceAdd,Nat.reduceMul,Int.reduceLT,Int.reduceLE,Int.reduceToNat,decide_true,decide_false,tf5, he0, BadV.v])
  refine ⟨rfl, newN (cs := bd.cells) rfl (by simp [BadV.cells, Value.oneCell']) (fun w4 hb g4 => ?_)⟩
  have g04 := g03.trans g4
  generalize w3.heap.size = b at hb
  have hD2 := hD2.grow g4
  have hD3 := hD3.grow g4
  repeat (first | rw [c_seq] | simp -dsimp only [↓RE,RU,RL,if_true,if_false,forall_const,implies_true,Nat.reduceLeDiff,Nat.reduceLT,pureOp,resK,endV,yieldE,↓reduceIte,Nat.reduceEqDiff,reduceCtorEq,Nat.reduceAdd,Nat.reduceMul,Int.reduceLT,Int.reduceLE,Int.reduceToNat,decide_true,decide_false,tf5, he0])
  refine live7_ok (hL.grow g04) (hT.grow g04) (fun w5 g5 => ?_)
  have g05 := g04.trans g5
  have hD2 := hD2.grow g5
  have hD3 := hD3.grow g5
  have hb5 := hb.grow g5
  repeat (first | rw [c_seq] | simp -dsimp only [↓RE,RU,RL,if_true,if_false,forall_const,implies_true,Nat.reduceLeDiff,Nat.reduceLT,pureOp,resK,endV,yieldE,↓reduceIte,Nat.reduceEqDiff,reduceCtorEq,Nat.reduceAdd,Nat.reduceMul,Int.reduceLT,Int.reduceLE,Int.reduceToNat,decide_true,decide_false,tf5, he0])
  refine hb5.aggK (cs := bd.cells) (by simp [BadV.cells]) ?_
  have hbv : (Value.agg (List.take 5 (List.drop 0 bd.cells)).toArray) = bd.v := rfl
  repeat (first | rw [c_seq] | simp -dsimp only [↓RE,RU,RL,if_true,if_false,forall_const,implies_true,Nat.reduceLeDiff,Nat.reduceLT,pureOp,resK,endV,yieldE,↓reduceIte,Nat.reduceEqDiff,reduceCtorEq,Nat.reduceAdd,Nat.reduceMul,Int.reduceLT,Int.reduceLE,Int.reduceToNat,decide_true,decide_false,tf5, he0, hbv])
  rw [hbd]
  refine same_err (hL.grow g05) hcode (fun w6 g6 => ?_)
  have g06 := g05.trans g6
  have hD2 := hD2.grow g6
  have hD3 := hD3.grow g6
  repeat (first | rw [c_seq] | simp -dsimp only [↓RE,RU,RL,if_true,if_false,forall_const,implies_true,Nat.reduceLeDiff,Nat.reduceLT,pureOp,resK,endV,yieldE,↓reduceIte,Nat.reduceEqDiff,reduceCtorEq,Nat.reduceAdd,Nat.reduceMul,Int.reduceLT,Int.reduceLE,Int.reduceToNat,decide_true,decide_false,tf5, he0])
  refine samew_ok hD2.row.rd hD3.row.rd (fun x hx => (hD2.ok x hx).1) hD3.ok (by omega) (by omega) (fun w7 g7 => ?_)
  rw [e23, decide_eq_true rfl]
  have g07 := g06.trans g7
  repeat (first | rw [c_seq] | simp -dsimp only [↓RE,RU,RL,if_true,if_false,forall_const,implies_true,Nat.reduceLeDiff,Nat.reduceLT,pureOp,resK,endV,yieldE,↓reduceIte,Nat.reduceEqDiff,reduceCtorEq,Nat.reduceAdd,Nat.reduceMul,Int.reduceLT,Int.reduceLE,Int.reduceToNat,decide_true,decide_false,tf5, he0])
  refine stayed_ok (hQ.grow (g2.trans (g3.trans (g4.trans (g5.trans (g6.trans g7)))))) (hX.grow g07) (all_grow hoX g07) hq (by omega) (fun w8 g8 => ?_)
  repeat (first | rw [c_seq] | simp -dsimp only [↓RE,RU,RL,if_true,if_false,forall_const,implies_true,Nat.reduceLeDiff,Nat.reduceLT,pureOp,resK,endV,yieldE,↓reduceIte,Nat.reduceEqDiff,reduceCtorEq,Nat.reduceAdd,Nat.reduceMul,Int.reduceLT,Int.reduceLE,Int.reduceToNat,decide_true,decide_false,tf5, he0])
  exact h w8 (g07.trans g8)

end Go.Proofs.YtljgnocpijniiaaGreatDoor
