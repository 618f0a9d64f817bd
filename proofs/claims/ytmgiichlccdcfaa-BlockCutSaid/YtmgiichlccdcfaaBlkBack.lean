
/- The law BlockBack, walked. -/
import Derived.Test.YtmgiichlccdcfaaUnpack
import Derived.Test.YtmgiichlccdcfaaRpack
import Derived.Test.YtmgiichlccdcfaaSameS
set_option linter.unusedVariables false
set_option linter.unusedSimpArgs false
set_option maxRecDepth 100000
namespace Go.Proofs.Ytmgiichlccdcfaa
open Go

theorem pOut_bytes (l : List (Int × Int × Int)) : ∀ z ∈ pOut l, 0 ≤ z ∧ z < 256 := by
  intro z hz
  rcases List.mem_append.1 hz with hz | hz
  · exact (List.mem_append.1 hz).elim (uvar_byte _ z) ((tW_ok (tms l) l.length).2.1 z)
  · exact (List.mem_append.1 hz).elim (uvar_byte _ z) ((vS_ok (vls l) l.length).2.1 z)
theorem back_walk {w : World} {A : Option Addr} {n c : Nat} {l : List (Int × Int × Int)} (hR : Rd w A n 3 (l.flatMap scells)) (hl0 : ∀ z ∈ l, SOk z) (hn : n ≤ 5864062014634)
    {R : VWK} (h : ∀ w', Grow w w' → R (.bool true) w') : CallsV Try.prog 4 [.slice A n c] w R := by
  have hl := hR.flat3
  refine calls_of_wpC mixed Try.func4 rfl (by kernel_rfl) ?_
  intro e he
  have he0 := he 0
  simp only [List.getD_cons_zero, List.getD_cons_succ] at he0
  clear he
  try simp -dsimp only [↓RE, ↓c_seq, RU, RL, if_true, if_false, forall_const, implies_true, Nat.reduceLeDiff, Nat.reduceLT, pureOp, binPure, intBin, strBin, eqPure, isConstO, unPure, sliceLo, sliceHi, slicePure, lenPure, minPure, maxPure, buildP, resK, endV, yieldE, ↓reduceIte, Nat.reduceEqDiff, reduceCtorEq, Nat.reduceAdd, Nat.reduceMul, Nat.reduceSub, Int.reduceLT, Int.reduceLE, Int.reduceToNat, Int.reduceAdd, Int.reduceSub, Int.reduceMul, ne_eq, decide_true, decide_false, tf4, he0]
  refine pack_ok hR hl0 (by omega) (fun er w3 hpe g3 => ?_) (fun hpe w3 A3 c3 hO3 g3 hF3 => ?_)
  · try simp -dsimp only [↓RE, ↓c_seq, RU, RL, if_true, if_false, forall_const, implies_true, Nat.reduceLeDiff, Nat.reduceLT, pureOp, binPure, intBin, strBin, eqPure, isConstO, unPure, sliceLo, sliceHi, slicePure, lenPure, minPure, maxPure, buildP, resK, endV, yieldE, ↓reduceIte, Nat.reduceEqDiff, reduceCtorEq, Nat.reduceAdd, Nat.reduceMul, Nat.reduceSub, Int.reduceLT, Int.reduceLE, Int.reduceToNat, Int.reduceAdd, Int.reduceSub, Int.reduceMul, ne_eq, decide_true, decide_false, tf4, he0]
    refine rpack_ok (hR.grow g3) hl0 (by omega) (fun er' w4 hpe' hne g4 => ?_) (fun hq => by rw [hpe] at hq; cases hq)
    have hz := Blk.new' w4 37 #[.int .i64 0, .int .i64 0, .int .i64 0, .bool false, .bool false]
    have ga := Grow.alloc w4 (.cells #[.int .i64 0, .int .i64 0, .int .i64 0, .bool false, .bool false] 37)
    have g04 := g3.trans g4
    have hs4 := g04.size
    have hq0 : decide (er' = 0) = false := decide_eq_false hne
    try simp -dsimp only [↓RE, ↓c_seq, RU, RL, if_true, if_false, forall_const, implies_true, Nat.reduceLeDiff, Nat.reduceLT, pureOp, binPure, intBin, strBin, eqPure, isConstO, unPure, sliceLo, sliceHi, slicePure, lenPure, minPure, maxPure, buildP, resK, endV, yieldE, ↓reduceIte, Nat.reduceEqDiff, reduceCtorEq, Nat.reduceAdd, Nat.reduceMul, Nat.reduceSub, Int.reduceLT, Int.reduceLE, Int.reduceToNat, Int.reduceAdd, Int.reduceSub, Int.reduceMul, ne_eq, decide_true, decide_false, tf4, he0, BadV.v, BadV.cells]
    refine bad_put (w := w) (b := ⟨er', 0, 0, false, false⟩) (g04.trans ga) hz rfl hs4 (fun w5 hB5 k5 g5 => ?_)
    try simp -dsimp only [↓RE, ↓c_seq, RU, RL, if_true, if_false, forall_const, implies_true, Nat.reduceLeDiff, Nat.reduceLT, pureOp, binPure, intBin, strBin, eqPure, isConstO, unPure, sliceLo, sliceHi, slicePure, lenPure, minPure, maxPure, buildP, resK, endV, yieldE, ↓reduceIte, Nat.reduceEqDiff, reduceCtorEq, Nat.reduceAdd, Nat.reduceMul, Nat.reduceSub, Int.reduceLT, Int.reduceLE, Int.reduceToNat, Int.reduceAdd, Int.reduceSub, Int.reduceMul, ne_eq, decide_true, decide_false, tf4, he0]
    refine live9_ok (fun w6 g6 => ?_)
    try simp -dsimp only [↓RE, ↓c_seq, RU, RL, if_true, if_false, forall_const, implies_true, Nat.reduceLeDiff, Nat.reduceLT, pureOp, binPure, intBin, strBin, eqPure, isConstO, unPure, sliceLo, sliceHi, slicePure, lenPure, minPure, maxPure, buildP, resK, endV, yieldE, ↓reduceIte, Nat.reduceEqDiff, reduceCtorEq, Nat.reduceAdd, Nat.reduceMul, Nat.reduceSub, Int.reduceLT, Int.reduceLE, Int.reduceToNat, Int.reduceAdd, Int.reduceSub, Int.reduceMul, ne_eq, decide_true, decide_false, tf4, he0, (hB5.grow g6).cell, BadV.cells, hq0]
    exact h w6 (g5.trans g6)
  · have hln : l.length ≤ 1048576 := by have := tErr_none (pErr_none hpe).1; rwa [tms_len] at this
    have hpl := pOut_len hln hl0
    obtain ⟨b1, b2⟩ := unpack_back hl0 hpe
    try simp -dsimp only [↓RE, ↓c_seq, RU, RL, if_true, if_false, forall_const, implies_true, Nat.reduceLeDiff, Nat.reduceLT, pureOp, binPure, intBin, strBin, eqPure, isConstO, unPure, sliceLo, sliceHi, slicePure, lenPure, minPure, maxPure, buildP, resK, endV, yieldE, ↓reduceIte, Nat.reduceEqDiff, reduceCtorEq, Nat.reduceAdd, Nat.reduceMul, Nat.reduceSub, Int.reduceLT, Int.reduceLE, Int.reduceToNat, Int.reduceAdd, Int.reduceSub, Int.reduceMul, ne_eq, decide_true, decide_false, tf4, he0]
    refine unpack_ok (Rd.of_own hO3) (pOut_bytes l) (by omega) (fun x w4 hq g4 => by rw [b1] at hq; cases hq) (fun _ w4 A4 c4 hO4 g4 hF4 => ?_)
    rw [b2] at hO4 ⊢
    try simp -dsimp only [↓RE, ↓c_seq, RU, RL, if_true, if_false, forall_const, implies_true, Nat.reduceLeDiff, Nat.reduceLT, pureOp, binPure, intBin, strBin, eqPure, isConstO, unPure, sliceLo, sliceHi, slicePure, lenPure, minPure, maxPure, buildP, resK, endV, yieldE, ↓reduceIte, Nat.reduceEqDiff, reduceCtorEq, Nat.reduceAdd, Nat.reduceMul, Nat.reduceSub, Int.reduceLT, Int.reduceLE, Int.reduceToNat, Int.reduceAdd, Int.reduceSub, Int.reduceMul, ne_eq, decide_true, decide_false, tf4, he0]
    refine live9_ok (fun w5 g5 => ?_)
    try simp -dsimp only [↓RE, ↓c_seq, RU, RL, if_true, if_false, forall_const, implies_true, Nat.reduceLeDiff, Nat.reduceLT, pureOp, binPure, intBin, strBin, eqPure, isConstO, unPure, sliceLo, sliceHi, slicePure, lenPure, minPure, maxPure, buildP, resK, endV, yieldE, ↓reduceIte, Nat.reduceEqDiff, reduceCtorEq, Nat.reduceAdd, Nat.reduceMul, Nat.reduceSub, Int.reduceLT, Int.reduceLE, Int.reduceToNat, Int.reduceAdd, Int.reduceSub, Int.reduceMul, ne_eq, decide_true, decide_false, tf4, he0]
    refine sameSamples_ok ((hR.grow (g3.trans g4)).grow g5) (Rd.of_own (own_grow hO4 g5)) (by omega) (by omega) (fun w6 g6 => ?_)
    try simp -dsimp only [↓RE, ↓c_seq, RU, RL, if_true, if_false, forall_const, implies_true, Nat.reduceLeDiff, Nat.reduceLT, pureOp, binPure, intBin, strBin, eqPure, isConstO, unPure, sliceLo, sliceHi, slicePure, lenPure, minPure, maxPure, buildP, resK, endV, yieldE, ↓reduceIte, Nat.reduceEqDiff, reduceCtorEq, Nat.reduceAdd, Nat.reduceMul, Nat.reduceSub, Int.reduceLT, Int.reduceLE, Int.reduceToNat, Int.reduceAdd, Int.reduceSub, Int.reduceMul, ne_eq, decide_true, decide_false, tf4, he0, eq_self]
    exact h w6 (((g3.trans g4).trans g5).trans g6)

end Go.Proofs.Ytmgiichlccdcfaa
