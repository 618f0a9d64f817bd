
/- The document's NewReader. -/
import Derived.Test.YtmgiichlccdcfaaDoorRR
set_option linter.unusedVariables false
set_option linter.unusedSimpArgs false
set_option maxRecDepth 100000
namespace Go.Proofs.YtmgiichlccdcfaaDoor
open Go

theorem rnewReader_ok {w : World} {A : Option Addr} {n c : Nat} {xs : List Int} (hR : Rd w A n 1 (xs.map (Value.int .u8))) (hb : n ≤ 140737488355328) {R : VWK}
    (h : ∀ w' F p, RMAt w' F p ⟨xs, 0, 0, none⟩ → Grow w w' → (∀ k, F k → w.heap.size ≤ k) → R (.pointer (some ⟨p, 0, none⟩)) w') :
    CallsV Tryd.prog 53 [.slice A n c] w R := by
  have hl := hR.len1
  refine calls_of_wpC mixed Tryd.func53 rfl (by kernel_rfl) ?_
  intro e he
  have he0 := he 0
  simp only [List.getD_cons_zero, List.getD_cons_succ] at he0
  clear he
  try simp -dsimp only [↓RE, ↓c_seq, RU, RL, if_true, if_false, forall_const, implies_true, Nat.reduceLeDiff, Nat.reduceLT, pureOp, binPure, intBin, strBin, eqPure, isConstO, unPure, sliceLo, sliceHi, slicePure, lenPure, minPure, maxPure, buildP, resK, endV, yieldE, ↓reduceIte, Nat.reduceEqDiff, reduceCtorEq, Nat.reduceAdd, Nat.reduceMul, Nat.reduceSub, Int.reduceLT, Int.reduceLE, Int.reduceToNat, Int.reduceAdd, Int.reduceSub, Int.reduceMul, ne_eq, decide_true, decide_false, tf53, he0]
  have hB1 := Blk.new' w 132 #[.slice none 0 0, .int .i64 0, .int .i64 0, .int .i64 0, .int .i64 0, .int .i64 0, .bool false, .bool false]
  have g1 := Grow.alloc w (.cells #[.slice none 0 0, .int .i64 0, .int .i64 0, .int .i64 0, .int .i64 0, .int .i64 0, .bool false, .bool false] 132)
  generalize hw1 : w.alloc (.cells #[.slice none 0 0, .int .i64 0, .int .i64 0, .int .i64 0, .int .i64 0, .int .i64 0, .bool false, .bool false] 132) = w1 at hB1 g1
  try simp -dsimp only [↓RE, ↓c_seq, RU, RL, if_true, if_false, forall_const, implies_true, Nat.reduceLeDiff, Nat.reduceLT, pureOp, binPure, intBin, strBin, eqPure, isConstO, unPure, sliceLo, sliceHi, slicePure, lenPure, minPure, maxPure, buildP, resK, endV, yieldE, ↓reduceIte, Nat.reduceEqDiff, reduceCtorEq, Nat.reduceAdd, Nat.reduceMul, Nat.reduceSub, Int.reduceLT, Int.reduceLE, Int.reduceToNat, Int.reduceAdd, Int.reduceSub, Int.reduceMul, ne_eq, decide_true, decide_false, tf53, he0, hB1.cell, hw1]
  refine appK_own (bytes := 1) (by kernel_rfl) (own_nil w1 5 1) (hR.grow g1) (ints_one _ _) (by simp only [maxLen]; omega) (by omega) (fun A' c' w2 hO2 hK2 hF2 => ?_)
  have hO2 : w2.ownsRow 0 5 1 (.slice A' n c') n (xs.map (Value.int .u8)) := by simpa using hO2
  rw [Nat.zero_add]
  have k2 : Grow w1 w2 := hK2.mono (fun i _ hf => absurd hf (fpV_none i))
  have hF2 : ∀ k, fpA A' k → k = w1.heap.size := fun k hk => (hF2 k (by rw [Nat.zero_add, fpV_fpA]; exact hk)).elim (fun h => absurd h (fpV_none k)) id
  have hp1 : w.heap.size < w1.heap.size := hB1.lt
  try simp -dsimp only [↓RE, ↓c_seq, RU, RL, if_true, if_false, forall_const, implies_true, Nat.reduceLeDiff, Nat.reduceLT, pureOp, binPure, intBin, strBin, eqPure, isConstO, unPure, sliceLo, sliceHi, slicePure, lenPure, minPure, maxPure, buildP, resK, endV, yieldE, ↓reduceIte, Nat.reduceEqDiff, reduceCtorEq, Nat.reduceAdd, Nat.reduceMul, Nat.reduceSub, Int.reduceLT, Int.reduceLE, Int.reduceToNat, Int.reduceAdd, Int.reduceSub, Int.reduceMul, ne_eq, decide_true, decide_false, tf53, he0]
  refine (hB1.grow k2).st (i := 0) (by simp) ?_
  have hB3 := (hB1.grow k2).set 0 (.slice A' n c')
  have hB3 : Blk (w2.setCell ⟨w.heap.size, 0, none⟩ (.slice A' n c')) w.heap.size 132 ([.slice A' xs.length c', .int .i64 (0 : Nat), .int .i64 (0 : Nat)] ++ (badF none).cells) := by rw [hl]; simpa [badF, BadV.none, BadV.cells] using hB3
  have k3 := Keep.set1 w2 w.heap.size 0 (.slice A' n c')
  have hO3 := own_keep hO2 k3 (fun k hk e => by rw [fpV_fpA] at hk; have := hF2 k hk; omega)
  obtain ⟨A2, c2, e2, hc2, _⟩ := own_form hO2
  injection e2 with e2a e2b e2c
  subst e2a; subst e2c
  try simp -dsimp only [↓RE, ↓c_seq, RU, RL, if_true, if_false, forall_const, implies_true, Nat.reduceLeDiff, Nat.reduceLT, pureOp, binPure, intBin, strBin, eqPure, isConstO, unPure, sliceLo, sliceHi, slicePure, lenPure, minPure, maxPure, buildP, resK, endV, yieldE, ↓reduceIte, Nat.reduceEqDiff, reduceCtorEq, Nat.reduceAdd, Nat.reduceMul, Nat.reduceSub, Int.reduceLT, Int.reduceLE, Int.reduceToNat, Int.reduceAdd, Int.reduceSub, Int.reduceMul, ne_eq, decide_true, decide_false, tf53, he0]
  refine h _ _ _ ⟨A', c', hB3, by rw [hl]; exact Rd.of_own hO3, fun _ hf => by have := hF2 _ hf; omega, by rw [hl]; exact hc2, rfl⟩ ((g1.trans k2).above k3 (fun i hi e => by omega)) ?_
  rintro k (rfl | ⟨_, hk⟩)
  · exact Nat.le_refl _
  · have := hF2 k hk; omega

end Go.Proofs.YtmgiichlccdcfaaDoor
