
/- The law BlockPacks, walked. -/
import Derived.Test.YtmgiichlccdcfaaDoorSameS
import Derived.Test.YtmgiichlccdcfaaDoorRpack
import Derived.Test.YtmgiichlccdcfaaDoorAsk
set_option linter.unusedVariables false
set_option linter.unusedSimpArgs false
set_option maxRecDepth 100000
namespace Go.Proofs.YtmgiichlccdcfaaDoor
open Go

theorem bpacks_walk {w : World} (hL : Lay w) {A : Option Addr} {n c : Nat} {l : List (Int × Int × Int)} (hR : Rd w A n 3 (l.flatMap scells)) (hl0 : ∀ z ∈ l, SOk z) (hn : n ≤ 5864062014634)
    {R : VWK} (h : ∀ w', Grow w w' → R (.bool true) w') : CallsV Tryd.prog 5 [.slice A n c] w R := by
  have hl := hR.flat3
  refine calls_of_wpC mixed Tryd.func5 rfl (by kernel_rfl) ?_
  intro e he
  have he0 := he 0
  simp only [List.getD_cons_zero, List.getD_cons_succ] at he0
  clear he
  rw [c_seq]
  simp -dsimp only [↓RE, RU, RL, if_true, if_false, forall_const, implies_true, Nat.reduceLeDiff, Nat.reduceLT, pureOp, binPure, intBin, strBin, eqPure, isConstO, unPure, sliceLo, sliceHi, slicePure, lenPure, minPure, maxPure, buildP, resK, endV, yieldE, ↓reduceIte, Nat.reduceEqDiff, reduceCtorEq, Nat.reduceAdd, Nat.reduceMul, Nat.reduceSub, Int.reduceLT, Int.reduceLE, Int.reduceToNat, Int.reduceAdd, Int.reduceSub, Int.reduceMul, ne_eq, decide_true, decide_false, tf5, he0]
  rw [c_seq]
  simp -dsimp only [↓RE, RU, RL, if_true, if_false, forall_const, implies_true, Nat.reduceLeDiff, Nat.reduceLT, pureOp, binPure, intBin, strBin, eqPure, isConstO, unPure, sliceLo, sliceHi, slicePure, lenPure, minPure, maxPure, buildP, resK, endV, yieldE, ↓reduceIte, Nat.reduceEqDiff, reduceCtorEq, Nat.reduceAdd, Nat.reduceMul, Nat.reduceSub, Int.reduceLT, Int.reduceLE, Int.reduceToNat, Int.reduceAdd, Int.reduceSub, Int.reduceMul, ne_eq, decide_true, decide_false, tf5, he0]
  have hO0 := own_new w 48 3 0 #[] rfl (by simp [maxLen])
  have g0 := Grow.alloc w (.cells #[] 48)
  refine appK_own (bytes := 24) (by kernel_rfl) hO0 (hR.grow g0) (scells_one _) (by simp only [maxLen]; omega) (by omega) (fun A1 c1 w1 hO1 hK1 hF1 => ?_)
  simp -dsimp only [↓RE, RU, RL, if_true, if_false, forall_const, implies_true, Nat.reduceLeDiff, Nat.reduceLT, pureOp, binPure, intBin, strBin, eqPure, isConstO, unPure, sliceLo, sliceHi, slicePure, lenPure, minPure, maxPure, buildP, resK, endV, yieldE, ↓reduceIte, Nat.reduceEqDiff, reduceCtorEq, Nat.reduceAdd, Nat.reduceMul, Nat.reduceSub, Int.reduceLT, Int.reduceLE, Int.reduceToNat, Int.reduceAdd, Int.reduceSub, Int.reduceMul, ne_eq, decide_true, decide_false, tf5, he0]
  have hB77 := Blk.new' w1 48 #[.int .i64 77, .int .u8 0, .int .i64 0]
  have g77 := Grow.alloc w1 (.cells #[.int .i64 77, .int .u8 0, .int .i64 0] 48)
  have hR77 : Rd (w1.alloc (.cells #[.int .i64 77, .int .u8 0, .int .i64 0] 48)) (some ⟨w1.heap.size, 0, none⟩) 1 3 (([(77, 0, 0)] : List (Int × Int × Int)).flatMap scells) := Rd.of_blk hB77 rfl
  rw [Nat.zero_add] at hO1 hF1
  have hO1 : w1.ownsRow 0 48 3 (.slice A1 n c1) n (l.flatMap scells) := hO1
  refine appK_own (m := 1) (bytes := 24) (by kernel_rfl) (own_grow hO1 g77) hR77 (scells_one _) (by show n + 1 ≤ maxLen; simp only [maxLen]; omega) (by show (n + 1) * 24 ≤ 140737488355328; omega) (fun A2 c2 w2 hO2 hK2 hF2 => ?_)
  have hc2 := own_cap hO2
  have gw1 : Grow w w1 := g0.above hK1 (fun i hi hf => Nat.ne_of_lt hi ((fpV_some _ _ _ _).1 hf))
  simp -dsimp only [↓RE, RU, RL, if_true, if_false, forall_const, implies_true, Nat.reduceLeDiff, Nat.reduceLT, pureOp, binPure, intBin, strBin, eqPure, isConstO, unPure, sliceLo, sliceHi, slicePure, lenPure, minPure, maxPure, buildP, resK, endV, yieldE, ↓reduceIte, Nat.reduceEqDiff, reduceCtorEq, Nat.reduceAdd, Nat.reduceMul, Nat.reduceSub, Int.reduceLT, Int.reduceLE, Int.reduceToNat, Int.reduceAdd, Int.reduceSub, Int.reduceMul, ne_eq, decide_true, decide_false, tf5, he0]
  have gw2 : Grow w w2 := (gw1.trans g77).above hK2 (fun i hi hf => by
    rcases hF1 i hf with hq | hq
    · have hq : i = w.heap.size := (fpV_some _ _ _ _).1 hq
      omega
    · have := g0.size; omega)
  obtain ⟨G, rfl⟩ : ∃ G, A2 = some ⟨G, 0, none⟩ := own_place hO2 (by omega)
  have hln2 : (l.flatMap scells).length = n * 3 := by rw [flat_len scells (size := 3) l (fun _ _ => rfl), hl]
  have hRo : Rd w2 (some ⟨G, 0, none⟩) n 3 (l.flatMap scells) := (Rd.of_own hO2).front hln2 (by omega)
  have h77 : w2.cell? ⟨G, n * 3, none⟩ = some (.int .i64 77) := (Rd.of_own hO2).behind (by omega) hln2 (j := 0) rfl
  refine ⟨⟨by omega, by omega⟩, ?_⟩
  rw [c_seq]
  simp -dsimp only [↓RE, RU, RL, if_true, if_false, forall_const, implies_true, Nat.reduceLeDiff, Nat.reduceLT, pureOp, binPure, intBin, strBin, eqPure, isConstO, unPure, sliceLo, sliceHi, slicePure, lenPure, minPure, maxPure, buildP, resK, endV, yieldE, ↓reduceIte, Nat.reduceEqDiff, reduceCtorEq, Nat.reduceAdd, Nat.reduceMul, Nat.reduceSub, Int.reduceLT, Int.reduceLE, Int.reduceToNat, Int.reduceAdd, Int.reduceSub, Int.reduceMul, ne_eq, decide_true, decide_false, tf5, he0, ite_self, Nat.sub_zero]
  refine pack_ok hRo hl0 (by omega) (fun er w3 hte g3 => ?_) (fun hte w3 A3 c3 hO3 g3 hF3 => ?_)
  · try simp -dsimp only [↓RE, ↓c_seq, RU, RL, if_true, if_false, forall_const, implies_true, Nat.reduceLeDiff, Nat.reduceLT, pureOp, binPure, intBin, strBin, eqPure, isConstO, unPure, sliceLo, sliceHi, slicePure, lenPure, minPure, maxPure, buildP, resK, endV, yieldE, ↓reduceIte, Nat.reduceEqDiff, reduceCtorEq, Nat.reduceAdd, Nat.reduceMul, Nat.reduceSub, Int.reduceLT, Int.reduceLE, Int.reduceToNat, Int.reduceAdd, Int.reduceSub, Int.reduceMul, ne_eq, decide_true, decide_false, tf5, he0, ite_self, Nat.sub_zero]
    refine rpack_ok ((hR.grow gw2).grow g3) hl0 (by omega) (fun er' w4 hte' hne g4 => ?_) (fun hq => by rw [hte] at hq; cases hq)
    obtain rfl : er = er' := by rw [hte] at hte'; injection hte'
    have hz := Blk.new' w4 30 #[.int .i64 0, .int .i64 0, .int .i64 0, .bool false, .bool false]
    have ga := Grow.alloc w4 (.cells #[.int .i64 0, .int .i64 0, .int .i64 0, .bool false, .bool false] 30)
    have gw4 := (gw2.trans g3).trans g4
    try simp -dsimp only [↓RE, ↓c_seq, RU, RL, if_true, if_false, forall_const, implies_true, Nat.reduceLeDiff, Nat.reduceLT, pureOp, binPure, intBin, strBin, eqPure, isConstO, unPure, sliceLo, sliceHi, slicePure, lenPure, minPure, maxPure, buildP, resK, endV, yieldE, ↓reduceIte, Nat.reduceEqDiff, reduceCtorEq, Nat.reduceAdd, Nat.reduceMul, Nat.reduceSub, Int.reduceLT, Int.reduceLE, Int.reduceToNat, Int.reduceAdd, Int.reduceSub, Int.reduceMul, ne_eq, decide_true, decide_false, tf5, he0, ite_self, Nat.sub_zero, BadV.v, BadV.cells, BadV.none]
    refine hz.stAgg (by simp) (by simp [Value.oneCell']) (fun w5 hB5 hK5 => ?_)
    have hB5 : Blk w5 w4.heap.size 30 (badOf (some (.no er))).cells := by simpa [BadV.cells, badOf, Er.bad, Er.code, Er.place, Er.index, BadV.none] using hB5
    have g45 : Grow w4 w5 := ga.above hK5 (fun i hi e => by omega)
    try simp -dsimp only [↓RE, ↓c_seq, RU, RL, if_true, if_false, forall_const, implies_true, Nat.reduceLeDiff, Nat.reduceLT, pureOp, binPure, intBin, strBin, eqPure, isConstO, unPure, sliceLo, sliceHi, slicePure, lenPure, minPure, maxPure, buildP, resK, endV, yieldE, ↓reduceIte, Nat.reduceEqDiff, reduceCtorEq, Nat.reduceAdd, Nat.reduceMul, Nat.reduceSub, Int.reduceLT, Int.reduceLE, Int.reduceToNat, Int.reduceAdd, Int.reduceSub, Int.reduceMul, ne_eq, decide_true, decide_false, tf5, he0, ite_self, Nat.sub_zero]
    refine live9_ok (fun w6 g6 => ?_)
    try simp -dsimp only [↓RE, ↓c_seq, RU, RL, if_true, if_false, forall_const, implies_true, Nat.reduceLeDiff, Nat.reduceLT, pureOp, binPure, intBin, strBin, eqPure, isConstO, unPure, sliceLo, sliceHi, slicePure, lenPure, minPure, maxPure, buildP, resK, endV, yieldE, ↓reduceIte, Nat.reduceEqDiff, reduceCtorEq, Nat.reduceAdd, Nat.reduceMul, Nat.reduceSub, Int.reduceLT, Int.reduceLE, Int.reduceToNat, Int.reduceAdd, Int.reduceSub, Int.reduceMul, ne_eq, decide_true, decide_false, tf5, he0, ite_self, Nat.sub_zero]
    refine (hB5.grow g6).aggK (by simp [BadV.cells]) ?_
    try simp -dsimp only [↓RE, ↓c_seq, RU, RL, if_true, if_false, forall_const, implies_true, Nat.reduceLeDiff, Nat.reduceLT, pureOp, binPure, intBin, strBin, eqPure, isConstO, unPure, sliceLo, sliceHi, slicePure, lenPure, minPure, maxPure, buildP, resK, endV, yieldE, ↓reduceIte, Nat.reduceEqDiff, reduceCtorEq, Nat.reduceAdd, Nat.reduceMul, Nat.reduceSub, Int.reduceLT, Int.reduceLE, Int.reduceToNat, Int.reduceAdd, Int.reduceSub, Int.reduceMul, ne_eq, decide_true, decide_false, tf5, he0, ite_self, Nat.sub_zero]
    refine same_err (x := (some (.no er))) (hL.grow ((gw4.trans g45).trans g6)) (by intro y hy; injection hy with hy; subst hy; exact hne) (fun w7 g7 => ?_)
    have g37 := (((g3.trans g4).trans g45).trans g6).trans g7
    try simp -dsimp only [↓RE, ↓c_seq, RU, RL, if_true, if_false, forall_const, implies_true, Nat.reduceLeDiff, Nat.reduceLT, pureOp, binPure, intBin, strBin, eqPure, isConstO, unPure, sliceLo, sliceHi, slicePure, lenPure, minPure, maxPure, buildP, resK, endV, yieldE, ↓reduceIte, Nat.reduceEqDiff, reduceCtorEq, Nat.reduceAdd, Nat.reduceMul, Nat.reduceSub, Int.reduceLT, Int.reduceLE, Int.reduceToNat, Int.reduceAdd, Int.reduceSub, Int.reduceMul, ne_eq, decide_true, decide_false, tf5, he0, ite_self, Nat.sub_zero]
    refine same_ok (xs := []) (ys := []) (Rd.nil _ _ _) (Rd.nil _ _ _) (by omega) (by omega) (fun w8 g8 => ?_)
    have g38 := g37.trans g8
    try simp -dsimp only [↓RE, ↓c_seq, RU, RL, if_true, if_false, forall_const, implies_true, Nat.reduceLeDiff, Nat.reduceLT, pureOp, binPure, intBin, strBin, eqPure, isConstO, unPure, sliceLo, sliceHi, slicePure, lenPure, minPure, maxPure, buildP, resK, endV, yieldE, ↓reduceIte, Nat.reduceEqDiff, reduceCtorEq, Nat.reduceAdd, Nat.reduceMul, Nat.reduceSub, Int.reduceLT, Int.reduceLE, Int.reduceToNat, Int.reduceAdd, Int.reduceSub, Int.reduceMul, ne_eq, decide_true, decide_false, tf5, he0, ite_self, Nat.sub_zero, eq_self]
    refine sameSamples_ok (hRo.grow g38) ((hR.grow gw2).grow g38) (by omega) (by omega) (fun w9 g9 => ?_)
    have h77' := (g38.trans g9).cell h77 (fun h => h)
    try simp -dsimp only [↓RE, ↓c_seq, RU, RL, if_true, if_false, forall_const, implies_true, Nat.reduceLeDiff, Nat.reduceLT, pureOp, binPure, intBin, strBin, eqPure, isConstO, unPure, sliceLo, sliceHi, slicePure, lenPure, minPure, maxPure, buildP, resK, endV, yieldE, ↓reduceIte, Nat.reduceEqDiff, reduceCtorEq, Nat.reduceAdd, Nat.reduceMul, Nat.reduceSub, Int.reduceLT, Int.reduceLE, Int.reduceToNat, Int.reduceAdd, Int.reduceSub, Int.reduceMul, ne_eq, decide_true, decide_false, tf5, he0, ite_self, Nat.sub_zero, eq_self, h77']
    rw [wrap_i64_in (by omega) (by omega)]
    exact ⟨⟨by omega, by omega⟩, ⟨by omega, by omega⟩, h w9 (gw2.trans (g38.trans g9))⟩
  · try simp -dsimp only [↓RE, ↓c_seq, RU, RL, if_true, if_false, forall_const, implies_true, Nat.reduceLeDiff, Nat.reduceLT, pureOp, binPure, intBin, strBin, eqPure, isConstO, unPure, sliceLo, sliceHi, slicePure, lenPure, minPure, maxPure, buildP, resK, endV, yieldE, ↓reduceIte, Nat.reduceEqDiff, reduceCtorEq, Nat.reduceAdd, Nat.reduceMul, Nat.reduceSub, Int.reduceLT, Int.reduceLE, Int.reduceToNat, Int.reduceAdd, Int.reduceSub, Int.reduceMul, ne_eq, decide_true, decide_false, tf5, he0, ite_self, Nat.sub_zero]
    refine rpack_ok ((hR.grow gw2).grow g3) hl0 (by omega) (fun er' w4 hte' hne g4 => by rw [hte] at hte'; cases hte') (fun _ w4 A4 c4 hR4 _ g4 => ?_)
    have hln : l.length ≤ 1048576 := by have := tErr_none (pErr_none hte).1; rwa [tms_len] at this
    have hlen := pOut_len hln hl0
    generalize pOut l = Z at hO3 hR4 hlen
    have hz := Blk.new' w4 30 #[.int .i64 0, .int .i64 0, .int .i64 0, .bool false, .bool false]
    have ga := Grow.alloc w4 (.cells #[.int .i64 0, .int .i64 0, .int .i64 0, .bool false, .bool false] 30)
    have gw4 := (gw2.trans g3).trans g4
    try simp -dsimp only [↓RE, ↓c_seq, RU, RL, if_true, if_false, forall_const, implies_true, Nat.reduceLeDiff, Nat.reduceLT, pureOp, binPure, intBin, strBin, eqPure, isConstO, unPure, sliceLo, sliceHi, slicePure, lenPure, minPure, maxPure, buildP, resK, endV, yieldE, ↓reduceIte, Nat.reduceEqDiff, reduceCtorEq, Nat.reduceAdd, Nat.reduceMul, Nat.reduceSub, Int.reduceLT, Int.reduceLE, Int.reduceToNat, Int.reduceAdd, Int.reduceSub, Int.reduceMul, ne_eq, decide_true, decide_false, tf5, he0, ite_self, Nat.sub_zero, BadV.v, BadV.cells, BadV.none]
    refine hz.stAgg (by simp) (by simp [Value.oneCell']) (fun w5 hB5 hK5 => ?_)
    have hB5 : Blk w5 w4.heap.size 30 (badOf none).cells := by simpa [BadV.cells, badOf, Er.bad, Er.code, Er.place, Er.index, BadV.none] using hB5
    have g45 : Grow w4 w5 := ga.above hK5 (fun i hi e => by omega)
    try simp -dsimp only [↓RE, ↓c_seq, RU, RL, if_true, if_false, forall_const, implies_true, Nat.reduceLeDiff, Nat.reduceLT, pureOp, binPure, intBin, strBin, eqPure, isConstO, unPure, sliceLo, sliceHi, slicePure, lenPure, minPure, maxPure, buildP, resK, endV, yieldE, ↓reduceIte, Nat.reduceEqDiff, reduceCtorEq, Nat.reduceAdd, Nat.reduceMul, Nat.reduceSub, Int.reduceLT, Int.reduceLE, Int.reduceToNat, Int.reduceAdd, Int.reduceSub, Int.reduceMul, ne_eq, decide_true, decide_false, tf5, he0, ite_self, Nat.sub_zero]
    refine live9_ok (fun w6 g6 => ?_)
    try simp -dsimp only [↓RE, ↓c_seq, RU, RL, if_true, if_false, forall_const, implies_true, Nat.reduceLeDiff, Nat.reduceLT, pureOp, binPure, intBin, strBin, eqPure, isConstO, unPure, sliceLo, sliceHi, slicePure, lenPure, minPure, maxPure, buildP, resK, endV, yieldE, ↓reduceIte, Nat.reduceEqDiff, reduceCtorEq, Nat.reduceAdd, Nat.reduceMul, Nat.reduceSub, Int.reduceLT, Int.reduceLE, Int.reduceToNat, Int.reduceAdd, Int.reduceSub, Int.reduceMul, ne_eq, decide_true, decide_false, tf5, he0, ite_self, Nat.sub_zero]
    refine (hB5.grow g6).aggK (by simp [BadV.cells]) ?_
    try simp -dsimp only [↓RE, ↓c_seq, RU, RL, if_true, if_false, forall_const, implies_true, Nat.reduceLeDiff, Nat.reduceLT, pureOp, binPure, intBin, strBin, eqPure, isConstO, unPure, sliceLo, sliceHi, slicePure, lenPure, minPure, maxPure, buildP, resK, endV, yieldE, ↓reduceIte, Nat.reduceEqDiff, reduceCtorEq, Nat.reduceAdd, Nat.reduceMul, Nat.reduceSub, Int.reduceLT, Int.reduceLE, Int.reduceToNat, Int.reduceAdd, Int.reduceSub, Int.reduceMul, ne_eq, decide_true, decide_false, tf5, he0, ite_self, Nat.sub_zero]
    refine same_err (x := none) (hL.grow ((gw4.trans g45).trans g6)) (by intro y hy; cases hy) (fun w7 g7 => ?_)
    have g37 := (((g3.trans g4).trans g45).trans g6).trans g7
    try simp -dsimp only [↓RE, ↓c_seq, RU, RL, if_true, if_false, forall_const, implies_true, Nat.reduceLeDiff, Nat.reduceLT, pureOp, binPure, intBin, strBin, eqPure, isConstO, unPure, sliceLo, sliceHi, slicePure, lenPure, minPure, maxPure, buildP, resK, endV, yieldE, ↓reduceIte, Nat.reduceEqDiff, reduceCtorEq, Nat.reduceAdd, Nat.reduceMul, Nat.reduceSub, Int.reduceLT, Int.reduceLE, Int.reduceToNat, Int.reduceAdd, Int.reduceSub, Int.reduceMul, ne_eq, decide_true, decide_false, tf5, he0, ite_self, Nat.sub_zero]
    refine same_ok ((Rd.of_own hO3).grow (((g4.trans g45).trans g6).trans g7)) (hR4.grow ((g45.trans g6).trans g7)) (by omega) (by omega) (fun w8 g8 => ?_)
    have g38 := g37.trans g8
    try simp -dsimp only [↓RE, ↓c_seq, RU, RL, if_true, if_false, forall_const, implies_true, Nat.reduceLeDiff, Nat.reduceLT, pureOp, binPure, intBin, strBin, eqPure, isConstO, unPure, sliceLo, sliceHi, slicePure, lenPure, minPure, maxPure, buildP, resK, endV, yieldE, ↓reduceIte, Nat.reduceEqDiff, reduceCtorEq, Nat.reduceAdd, Nat.reduceMul, Nat.reduceSub, Int.reduceLT, Int.reduceLE, Int.reduceToNat, Int.reduceAdd, Int.reduceSub, Int.reduceMul, ne_eq, decide_true, decide_false, tf5, he0, ite_self, Nat.sub_zero, eq_self]
    refine sameSamples_ok (hRo.grow g38) ((hR.grow gw2).grow g38) (by omega) (by omega) (fun w9 g9 => ?_)
    have h77' := (g38.trans g9).cell h77 (fun h => h)
    try simp -dsimp only [↓RE, ↓c_seq, RU, RL, if_true, if_false, forall_const, implies_true, Nat.reduceLeDiff, Nat.reduceLT, pureOp, binPure, intBin, strBin, eqPure, isConstO, unPure, sliceLo, sliceHi, slicePure, lenPure, minPure, maxPure, buildP, resK, endV, yieldE, ↓reduceIte, Nat.reduceEqDiff, reduceCtorEq, Nat.reduceAdd, Nat.reduceMul, Nat.reduceSub, Int.reduceLT, Int.reduceLE, Int.reduceToNat, Int.reduceAdd, Int.reduceSub, Int.reduceMul, ne_eq, decide_true, decide_false, tf5, he0, ite_self, Nat.sub_zero, eq_self, h77']
    rw [wrap_i64_in (by omega) (by omega)]
    exact ⟨⟨by omega, by omega⟩, ⟨by omega, by omega⟩, h w9 (gw2.trans (g38.trans g9))⟩

end Go.Proofs.YtmgiichlccdcfaaDoor
