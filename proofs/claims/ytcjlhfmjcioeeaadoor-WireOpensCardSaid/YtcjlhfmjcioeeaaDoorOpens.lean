
/- The law WireOpens, walked. -/
import Derived.Test.YtcjlhfmjcioeeaaDoorRopen
set_option linter.unusedVariables false
set_option linter.unusedSimpArgs false
set_option maxRecDepth 100000
namespace Go.Proofs.YtcjlhfmjcioeeaaDoor
open Go

theorem opens_walk {w : World} (hL : Lay w) {A : Option Addr} {n c : Nat} {xs : List Int} (hR : Rd w A n 1 (xs.map (Value.int .u8))) (hc : n ≤ c) (hx : ∀ z ∈ xs, 0 ≤ z ∧ z < 256) (hn : n ≤ 140737488355328) {R : VWK}
    (h : ∀ w', Grow w w' → R (.bool true) w') : CallsV Tryd.prog 4 [.slice A n c] w R := by
  have hl := hR.len1
  refine calls_of_wpC mixed Tryd.func4 rfl (by kernel_rfl) ?_
  intro e he
  have he0 := he 0
  simp only [List.getD_cons_zero, List.getD_cons_succ] at he0
  clear he
  try simp -dsimp only [↓RE, ↓c_seq, RU, RL, if_true, if_false, forall_const, implies_true, Nat.reduceLeDiff, Nat.reduceLT, pureOp, binPure, intBin, strBin, eqPure, isConstO, unPure, sliceLo, sliceHi, slicePure, lenPure, minPure, maxPure, buildP, resK, endV, yieldE, ↓reduceIte, Nat.reduceEqDiff, reduceCtorEq, Nat.reduceAdd, Nat.reduceMul, Nat.reduceSub, Int.reduceLT, Int.reduceLE, Int.reduceToNat, Int.reduceAdd, Int.reduceSub, Int.reduceMul, ne_eq, decide_true, decide_false, tf4, he0]
  refine hand_ok hR hn (fun w1 g hB1 g1 hge => ?_)
  try simp -dsimp only [↓RE, ↓c_seq, RU, RL, if_true, if_false, forall_const, implies_true, Nat.reduceLeDiff, Nat.reduceLT, pureOp, binPure, intBin, strBin, eqPure, isConstO, unPure, sliceLo, sliceHi, slicePure, lenPure, minPure, maxPure, buildP, resK, endV, yieldE, ↓reduceIte, Nat.reduceEqDiff, reduceCtorEq, Nat.reduceAdd, Nat.reduceMul, Nat.reduceSub, Int.reduceLT, Int.reduceLE, Int.reduceToNat, Int.reduceAdd, Int.reduceSub, Int.reduceMul, ne_eq, decide_true, decide_false, tf4, he0]
  refine open_ok (handed_rd hB1 hl) (by omega) hx hn (fun er w2 hoe g2 => ?_) (fun hoe w2 A2 c2 hO2 g2 hF2 => ?_)
  · try simp -dsimp only [↓RE, ↓c_seq, RU, RL, if_true, if_false, forall_const, implies_true, Nat.reduceLeDiff, Nat.reduceLT, pureOp, binPure, intBin, strBin, eqPure, isConstO, unPure, sliceLo, sliceHi, slicePure, lenPure, minPure, maxPure, buildP, resK, endV, yieldE, ↓reduceIte, Nat.reduceEqDiff, reduceCtorEq, Nat.reduceAdd, Nat.reduceMul, Nat.reduceSub, Int.reduceLT, Int.reduceLE, Int.reduceToNat, Int.reduceAdd, Int.reduceSub, Int.reduceMul, ne_eq, decide_true, decide_false, tf4, he0]
    refine ropen_ok ((hR.grow g1).grow g2) hc hx hn (fun er2 w3 hoe2 hz2 g3 => ?_) (fun hs => absurd (hs.symm.trans hoe) (by simp))
    obtain rfl : er2 = er := Option.some.inj (hoe2.symm.trans hoe)
    have hz := Blk.new' w3 31 #[.int .i64 0, .int .i64 0, .int .i64 0, .bool false, .bool false]
    have ga := Grow.alloc w3 (.cells #[.int .i64 0, .int .i64 0, .int .i64 0, .bool false, .bool false] 31)
    try simp -dsimp only [↓RE, ↓c_seq, RU, RL, if_true, if_false, forall_const, implies_true, Nat.reduceLeDiff, Nat.reduceLT, pureOp, binPure, intBin, strBin, eqPure, isConstO, unPure, sliceLo, sliceHi, slicePure, lenPure, minPure, maxPure, buildP, resK, endV, yieldE, ↓reduceIte, Nat.reduceEqDiff, reduceCtorEq, Nat.reduceAdd, Nat.reduceMul, Nat.reduceSub, Int.reduceLT, Int.reduceLE, Int.reduceToNat, Int.reduceAdd, Int.reduceSub, Int.reduceMul, ne_eq, decide_true, decide_false, tf4, he0, BadV.v, BadV.cells]
    refine hz.stAgg (by simp) (by simp [Value.oneCell']) (fun w4 hB4 hK4 => ?_)
    have hB4 : Blk w4 w3.heap.size 31 (badOf (some (.no er2))).cells := by simpa [BadV.cells, badOf, Er.bad, Er.code, Er.place, Er.index] using hB4
    have g4 : Grow w w4 := (((g1.trans g2).trans g3).trans ga).above hK4 (fun i hi e => by have := ((g1.trans g2).trans g3).size; omega)
    have k34 : Grow w3 w4 := ga.above hK4 (fun i hi e => by omega)
    have hB14 := hB1.grow ((g2.trans g3).trans k34)
    try simp -dsimp only [↓RE, ↓c_seq, RU, RL, if_true, if_false, forall_const, implies_true, Nat.reduceLeDiff, Nat.reduceLT, pureOp, binPure, intBin, strBin, eqPure, isConstO, unPure, sliceLo, sliceHi, slicePure, lenPure, minPure, maxPure, buildP, resK, endV, yieldE, ↓reduceIte, Nat.reduceEqDiff, reduceCtorEq, Nat.reduceAdd, Nat.reduceMul, Nat.reduceSub, Int.reduceLT, Int.reduceLE, Int.reduceToNat, Int.reduceAdd, Int.reduceSub, Int.reduceMul, ne_eq, decide_true, decide_false, tf4, he0]
    refine live_ok (fun w5 g5 => ?_)
    try simp -dsimp only [↓RE, ↓c_seq, RU, RL, if_true, if_false, forall_const, implies_true, Nat.reduceLeDiff, Nat.reduceLT, pureOp, binPure, intBin, strBin, eqPure, isConstO, unPure, sliceLo, sliceHi, slicePure, lenPure, minPure, maxPure, buildP, resK, endV, yieldE, ↓reduceIte, Nat.reduceEqDiff, reduceCtorEq, Nat.reduceAdd, Nat.reduceMul, Nat.reduceSub, Int.reduceLT, Int.reduceLE, Int.reduceToNat, Int.reduceAdd, Int.reduceSub, Int.reduceMul, ne_eq, decide_true, decide_false, tf4, he0]
    refine same_ok (xs := []) (ys := []) (Rd.nil _ _ _) (Rd.nil _ _ _) (by omega) (by omega) (fun w6 g6 => ?_)
    try simp -dsimp only [↓RE, ↓c_seq, RU, RL, if_true, if_false, forall_const, implies_true, Nat.reduceLeDiff, Nat.reduceLT, pureOp, binPure, intBin, strBin, eqPure, isConstO, unPure, sliceLo, sliceHi, slicePure, lenPure, minPure, maxPure, buildP, resK, endV, yieldE, ↓reduceIte, Nat.reduceEqDiff, reduceCtorEq, Nat.reduceAdd, Nat.reduceMul, Nat.reduceSub, Int.reduceLT, Int.reduceLE, Int.reduceToNat, Int.reduceAdd, Int.reduceSub, Int.reduceMul, ne_eq, decide_true, decide_false, tf4, he0, eq_self]
    refine ((hB4.grow g5).grow g6).aggK (by simp [BadV.cells]) ?_
    try simp -dsimp only [↓RE, ↓c_seq, RU, RL, if_true, if_false, forall_const, implies_true, Nat.reduceLeDiff, Nat.reduceLT, pureOp, binPure, intBin, strBin, eqPure, isConstO, unPure, sliceLo, sliceHi, slicePure, lenPure, minPure, maxPure, buildP, resK, endV, yieldE, ↓reduceIte, Nat.reduceEqDiff, reduceCtorEq, Nat.reduceAdd, Nat.reduceMul, Nat.reduceSub, Int.reduceLT, Int.reduceLE, Int.reduceToNat, Int.reduceAdd, Int.reduceSub, Int.reduceMul, ne_eq, decide_true, decide_false, tf4, he0, eq_self]
    refine same_err (x := some (.no er2)) (hL.grow ((g4.trans g5).trans g6)) (by intro y hy; injection hy with hy; subst hy; exact hz2) (fun w7 g7 => ?_)
    try simp -dsimp only [↓RE, ↓c_seq, RU, RL, if_true, if_false, forall_const, implies_true, Nat.reduceLeDiff, Nat.reduceLT, pureOp, binPure, intBin, strBin, eqPure, isConstO, unPure, sliceLo, sliceHi, slicePure, lenPure, minPure, maxPure, buildP, resK, endV, yieldE, ↓reduceIte, Nat.reduceEqDiff, reduceCtorEq, Nat.reduceAdd, Nat.reduceMul, Nat.reduceSub, Int.reduceLT, Int.reduceLE, Int.reduceToNat, Int.reduceAdd, Int.reduceSub, Int.reduceMul, ne_eq, decide_true, decide_false, tf4, he0, eq_self]
    have gg := ((g4.trans g5).trans g6).trans g7
    refine kept_ok (hB14.grow ((g5.trans g6).trans g7)) (hR.grow gg) (by omega) (fun w8 g8 => ?_)
    try simp -dsimp only [↓RE, ↓c_seq, RU, RL, if_true, if_false, forall_const, implies_true, Nat.reduceLeDiff, Nat.reduceLT, pureOp, binPure, intBin, strBin, eqPure, isConstO, unPure, sliceLo, sliceHi, slicePure, lenPure, minPure, maxPure, buildP, resK, endV, yieldE, ↓reduceIte, Nat.reduceEqDiff, reduceCtorEq, Nat.reduceAdd, Nat.reduceMul, Nat.reduceSub, Int.reduceLT, Int.reduceLE, Int.reduceToNat, Int.reduceAdd, Int.reduceSub, Int.reduceMul, ne_eq, decide_true, decide_false, tf4, he0, eq_self]
    exact h w8 (gg.trans g8)
  · try simp -dsimp only [↓RE, ↓c_seq, RU, RL, if_true, if_false, forall_const, implies_true, Nat.reduceLeDiff, Nat.reduceLT, pureOp, binPure, intBin, strBin, eqPure, isConstO, unPure, sliceLo, sliceHi, slicePure, lenPure, minPure, maxPure, buildP, resK, endV, yieldE, ↓reduceIte, Nat.reduceEqDiff, reduceCtorEq, Nat.reduceAdd, Nat.reduceMul, Nat.reduceSub, Int.reduceLT, Int.reduceLE, Int.reduceToNat, Int.reduceAdd, Int.reduceSub, Int.reduceMul, ne_eq, decide_true, decide_false, tf4, he0]
    refine ropen_ok ((hR.grow g1).grow g2) hc hx hn (fun er2 w3 hoe2 _ _ => absurd (hoe.symm.trans hoe2) (by simp)) (fun _ w3 A3 c3 hR3 g3 => ?_)
    have hz := Blk.new' w3 31 #[.int .i64 0, .int .i64 0, .int .i64 0, .bool false, .bool false]
    have ga := Grow.alloc w3 (.cells #[.int .i64 0, .int .i64 0, .int .i64 0, .bool false, .bool false] 31)
    try simp -dsimp only [↓RE, ↓c_seq, RU, RL, if_true, if_false, forall_const, implies_true, Nat.reduceLeDiff, Nat.reduceLT, pureOp, binPure, intBin, strBin, eqPure, isConstO, unPure, sliceLo, sliceHi, slicePure, lenPure, minPure, maxPure, buildP, resK, endV, yieldE, ↓reduceIte, Nat.reduceEqDiff, reduceCtorEq, Nat.reduceAdd, Nat.reduceMul, Nat.reduceSub, Int.reduceLT, Int.reduceLE, Int.reduceToNat, Int.reduceAdd, Int.reduceSub, Int.reduceMul, ne_eq, decide_true, decide_false, tf4, he0, BadV.v, BadV.cells, BadV.none]
    refine hz.stAgg (by simp) (by simp [Value.oneCell']) (fun w4 hB4 hK4 => ?_)
    have hB4 : Blk w4 w3.heap.size 31 (badOf none).cells := by simpa [BadV.cells, badOf, BadV.none] using hB4
    have g4 : Grow w w4 := (((g1.trans g2).trans g3).trans ga).above hK4 (fun i hi e => by have := ((g1.trans g2).trans g3).size; omega)
    have k34 : Grow w3 w4 := ga.above hK4 (fun i hi e => by omega)
    have hB14 := hB1.grow ((g2.trans g3).trans k34)
    have hN : oN xs ≤ n := by
      unfold oErr at hoe
      split at hoe
      · cases hoe
      split at hoe
      · cases hoe
      split at hoe
      · cases hoe
      split at hoe
      · cases hoe
      omega
    generalize oN xs = N at *
    generalize (xs.drop 17).take N = Z at *
    try simp -dsimp only [↓RE, ↓c_seq, RU, RL, if_true, if_false, forall_const, implies_true, Nat.reduceLeDiff, Nat.reduceLT, pureOp, binPure, intBin, strBin, eqPure, isConstO, unPure, sliceLo, sliceHi, slicePure, lenPure, minPure, maxPure, buildP, resK, endV, yieldE, ↓reduceIte, Nat.reduceEqDiff, reduceCtorEq, Nat.reduceAdd, Nat.reduceMul, Nat.reduceSub, Int.reduceLT, Int.reduceLE, Int.reduceToNat, Int.reduceAdd, Int.reduceSub, Int.reduceMul, ne_eq, decide_true, decide_false, tf4, he0]
    refine live_ok (fun w5 g5 => ?_)
    try simp -dsimp only [↓RE, ↓c_seq, RU, RL, if_true, if_false, forall_const, implies_true, Nat.reduceLeDiff, Nat.reduceLT, pureOp, binPure, intBin, strBin, eqPure, isConstO, unPure, sliceLo, sliceHi, slicePure, lenPure, minPure, maxPure, buildP, resK, endV, yieldE, ↓reduceIte, Nat.reduceEqDiff, reduceCtorEq, Nat.reduceAdd, Nat.reduceMul, Nat.reduceSub, Int.reduceLT, Int.reduceLE, Int.reduceToNat, Int.reduceAdd, Int.reduceSub, Int.reduceMul, ne_eq, decide_true, decide_false, tf4, he0, eq_self]
    refine same_ok ((Rd.of_own hO2).grow ((g3.trans k34).trans g5)) (hR3.grow (k34.trans g5)) (by omega) (by omega) (fun w6 g6 => ?_)
    try simp -dsimp only [↓RE, ↓c_seq, RU, RL, if_true, if_false, forall_const, implies_true, Nat.reduceLeDiff, Nat.reduceLT, pureOp, binPure, intBin, strBin, eqPure, isConstO, unPure, sliceLo, sliceHi, slicePure, lenPure, minPure, maxPure, buildP, resK, endV, yieldE, ↓reduceIte, Nat.reduceEqDiff, reduceCtorEq, Nat.reduceAdd, Nat.reduceMul, Nat.reduceSub, Int.reduceLT, Int.reduceLE, Int.reduceToNat, Int.reduceAdd, Int.reduceSub, Int.reduceMul, ne_eq, decide_true, decide_false, tf4, he0, eq_self]
    refine ((hB4.grow g5).grow g6).aggK (by simp [BadV.cells]) ?_
    try simp -dsimp only [↓RE, ↓c_seq, RU, RL, if_true, if_false, forall_const, implies_true, Nat.reduceLeDiff, Nat.reduceLT, pureOp, binPure, intBin, strBin, eqPure, isConstO, unPure, sliceLo, sliceHi, slicePure, lenPure, minPure, maxPure, buildP, resK, endV, yieldE, ↓reduceIte, Nat.reduceEqDiff, reduceCtorEq, Nat.reduceAdd, Nat.reduceMul, Nat.reduceSub, Int.reduceLT, Int.reduceLE, Int.reduceToNat, Int.reduceAdd, Int.reduceSub, Int.reduceMul, ne_eq, decide_true, decide_false, tf4, he0, eq_self]
    refine same_err (x := none) (hL.grow ((g4.trans g5).trans g6)) (by intro y hy; cases hy) (fun w7 g7 => ?_)
    try simp -dsimp only [↓RE, ↓c_seq, RU, RL, if_true, if_false, forall_const, implies_true, Nat.reduceLeDiff, Nat.reduceLT, pureOp, binPure, intBin, strBin, eqPure, isConstO, unPure, sliceLo, sliceHi, slicePure, lenPure, minPure, maxPure, buildP, resK, endV, yieldE, ↓reduceIte, Nat.reduceEqDiff, reduceCtorEq, Nat.reduceAdd, Nat.reduceMul, Nat.reduceSub, Int.reduceLT, Int.reduceLE, Int.reduceToNat, Int.reduceAdd, Int.reduceSub, Int.reduceMul, ne_eq, decide_true, decide_false, tf4, he0, eq_self]
    have gg := ((g4.trans g5).trans g6).trans g7
    refine kept_ok (hB14.grow ((g5.trans g6).trans g7)) (hR.grow gg) (by omega) (fun w8 g8 => ?_)
    try simp -dsimp only [↓RE, ↓c_seq, RU, RL, if_true, if_false, forall_const, implies_true, Nat.reduceLeDiff, Nat.reduceLT, pureOp, binPure, intBin, strBin, eqPure, isConstO, unPure, sliceLo, sliceHi, slicePure, lenPure, minPure, maxPure, buildP, resK, endV, yieldE, ↓reduceIte, Nat.reduceEqDiff, reduceCtorEq, Nat.reduceAdd, Nat.reduceMul, Nat.reduceSub, Int.reduceLT, Int.reduceLE, Int.reduceToNat, Int.reduceAdd, Int.reduceSub, Int.reduceMul, ne_eq, decide_true, decide_false, tf4, he0, eq_self]
    exact h w8 (gg.trans g8)

end Go.Proofs.YtcjlhfmjcioeeaaDoor
