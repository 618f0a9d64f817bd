
/- The document's Pack: what it writes, or what is wrong. -/
import Derived.Test.YtmgiichlccdcfaaPack
import Derived.Test.YtmgiichlccdcfaaRtimes
import Derived.Test.YtmgiichlccdcfaaRvals
set_option linter.unusedVariables false
set_option linter.unusedSimpArgs false
set_option maxRecDepth 100000
namespace Go.Proofs.Ytmgiichlccdcfaa
open Go

theorem bad_put {w w' : World} {g0 : Nat} {old : List Value} {b : BadV} {K : WK} {tk : Tok K} (g : Grow w w') (hB : Blk w' g0 37 old) (hl : old.length = 5) (hge : w.heap.size ≤ g0)
    (hk : ∀ w2, Blk w2 g0 37 b.cells → Keep (fun k => k = g0) w' w2 → Grow w w2 → K w2) : aggSt Try.prog w' ⟨g0, 0, none⟩ [.int .i64 b.code, .int .i64 b.at_, .int .i64 b.ins, .bool b.placed, .bool b.numbered] K tk := by
  refine hB.stAgg (by simp [hl]) (by simp [Value.oneCell']) (fun w2 hB2 hK2 => hk w2 ?_ hK2 (g.above hK2 (fun i hi e => by omega)))
  have : old.drop 5 = [] := List.drop_eq_nil_of_le (by omega)
  simpa [BadV.cells, this] using hB2
theorem bad_len (b : BadV) : b.cells.length = 5 := rfl

theorem rpack_ok {w : World} {A : Option Addr} {n c : Nat} {l : List (Int × Int × Int)} (hR : Rd w A n 3 (l.flatMap scells)) (hl0 : ∀ s ∈ l, SOk s) (hn : n ≤ 8796093021952) {R : VWK}
    (herr : ∀ er w', pErr l = some er → er ≠ 0 → Grow w w' → R (.tuple #[.slice none 0 0, BadV.v ⟨er, 0, 0, false, false⟩]) w')
    (h : pErr l = none → ∀ w' A' c', Rd w' A' (pOut l).length 1 ((pOut l).map (Value.int .u8)) → (∀ k, fpA A' k → w.heap.size ≤ k) → Grow w w' → R (.tuple #[.slice A' (pOut l).length c', BadV.none.v]) w') :
    CallsV Try.prog 10 [.slice A n c] w R := by
  have hl := hR.flat3
  refine calls_of_wpC mixed Try.func10 rfl (by kernel_rfl) ?_
  intro e he
  have he0 := he 0
  simp only [List.getD_cons_zero, List.getD_cons_succ] at he0
  clear he
  rw [c_seq]
  simp -dsimp only [↓RE, RU, RL, if_true, if_false, forall_const, implies_true, Nat.reduceLeDiff, Nat.reduceLT, pureOp, binPure, intBin, strBin, eqPure, isConstO, unPure, sliceLo, sliceHi, slicePure, lenPure, minPure, maxPure, buildP, resK, endV, yieldE, ↓reduceIte, Nat.reduceEqDiff, reduceCtorEq, Nat.reduceAdd, Nat.reduceMul, Nat.reduceSub, Int.reduceLT, Int.reduceLE, Int.reduceToNat, Int.reduceAdd, Int.reduceSub, Int.reduceMul, ne_eq, decide_true, decide_false, tf10, he0]
  have hz0 := Blk.new' w 37 #[.int .i64 0, .int .i64 0, .int .i64 0, .bool false, .bool false]
  have g0 := Grow.alloc w (.cells #[.int .i64 0, .int .i64 0, .int .i64 0, .bool false, .bool false] 37)
  generalize hw0 : w.alloc (.cells #[.int .i64 0, .int .i64 0, .int .i64 0, .bool false, .bool false] 37) = w0 at hz0 g0
  have hs0 : w0.heap.size = w.heap.size + 1 := by rw [← hw0]; simp
  rw [c_seq]
  simp -dsimp only [↓RE, RU, RL, if_true, if_false, forall_const, implies_true, Nat.reduceLeDiff, Nat.reduceLT, pureOp, binPure, intBin, strBin, eqPure, isConstO, unPure, sliceLo, sliceHi, slicePure, lenPure, minPure, maxPure, buildP, resK, endV, yieldE, ↓reduceIte, Nat.reduceEqDiff, reduceCtorEq, Nat.reduceAdd, Nat.reduceMul, Nat.reduceSub, Int.reduceLT, Int.reduceLE, Int.reduceToNat, Int.reduceAdd, Int.reduceSub, Int.reduceMul, ne_eq, decide_true, decide_false, tf10, he0, hw0]
  rw [c_seq]
  simp -dsimp only [↓RE, RU, RL, if_true, if_false, forall_const, implies_true, Nat.reduceLeDiff, Nat.reduceLT, pureOp, binPure, intBin, strBin, eqPure, isConstO, unPure, sliceLo, sliceHi, slicePure, lenPure, minPure, maxPure, buildP, resK, endV, yieldE, ↓reduceIte, Nat.reduceEqDiff, reduceCtorEq, Nat.reduceAdd, Nat.reduceMul, Nat.reduceSub, Int.reduceLT, Int.reduceLE, Int.reduceToNat, Int.reduceAdd, Int.reduceSub, Int.reduceMul, ne_eq, decide_true, decide_false, tf10, he0, hw0]
  refine c_seq_cut (fun e' w' => ∃ s1 s2, e' 3 = .pointer (some ⟨w.heap.size, 0, none⟩) ∧ e' 4 = s1 ∧ e' 5 = s2 ∧ TV w0 l n s1 s2 w') ?_ ?_
  · try simp -dsimp only [↓RE, ↓c_seq, RU, RL, if_true, if_false, forall_const, implies_true, Nat.reduceLeDiff, Nat.reduceLT, pureOp, binPure, intBin, strBin, eqPure, isConstO, unPure, sliceLo, sliceHi, slicePure, lenPure, minPure, maxPure, buildP, resK, endV, yieldE, ↓reduceIte, Nat.reduceEqDiff, reduceCtorEq, Nat.reduceAdd, Nat.reduceMul, Nat.reduceSub, Int.reduceLT, Int.reduceLE, Int.reduceToNat, Int.reduceAdd, Int.reduceSub, Int.reduceMul, ne_eq, decide_true, decide_false, tf10, he0, hw0]
    refine wpLoop_intro (fun e' w' => e' 0 = .slice A n c ∧ e' 3 = .pointer (some ⟨w.heap.size, 0, none⟩) ∧ ∃ (k : Nat) (s1 s2 : Value), k ≤ n ∧ e' 6 = .int .i64 k ∧ e' 4 = s1 ∧ e' 5 = s2 ∧ TV w0 l k s1 s2 w')
      (fun e' _ => n - (envInt (e' 6)).toNat) ⟨?_, ?_, 0, .slice none 0 0, .slice none 0 0, Nat.zero_le _, ?_, ?_, ?_, TV.nil w0 l⟩ ?_
    · simp -dsimp only [↓RE, ↓c_seq, RU, RL, if_true, if_false, forall_const, implies_true, Nat.reduceLeDiff, Nat.reduceLT, pureOp, binPure, intBin, strBin, eqPure, isConstO, unPure, sliceLo, sliceHi, slicePure, lenPure, minPure, maxPure, buildP, resK, endV, yieldE, ↓reduceIte, Nat.reduceEqDiff, reduceCtorEq, Nat.reduceAdd, Nat.reduceMul, Nat.reduceSub, Int.reduceLT, Int.reduceLE, Int.reduceToNat, Int.reduceAdd, Int.reduceSub, Int.reduceMul, ne_eq, decide_true, decide_false, tf10, he0]
    · simp -dsimp only [↓RE, ↓c_seq, RU, RL, if_true, if_false, forall_const, implies_true, Nat.reduceLeDiff, Nat.reduceLT, pureOp, binPure, intBin, strBin, eqPure, isConstO, unPure, sliceLo, sliceHi, slicePure, lenPure, minPure, maxPure, buildP, resK, endV, yieldE, ↓reduceIte, Nat.reduceEqDiff, reduceCtorEq, Nat.reduceAdd, Nat.reduceMul, Nat.reduceSub, Int.reduceLT, Int.reduceLE, Int.reduceToNat, Int.reduceAdd, Int.reduceSub, Int.reduceMul, ne_eq, decide_true, decide_false, tf10, he0]
    · simp -dsimp only [↓RE, ↓c_seq, RU, RL, if_true, if_false, forall_const, implies_true, Nat.reduceLeDiff, Nat.reduceLT, pureOp, binPure, intBin, strBin, eqPure, isConstO, unPure, sliceLo, sliceHi, slicePure, lenPure, minPure, maxPure, buildP, resK, endV, yieldE, ↓reduceIte, Nat.reduceEqDiff, reduceCtorEq, Nat.reduceAdd, Nat.reduceMul, Nat.reduceSub, Int.reduceLT, Int.reduceLE, Int.reduceToNat, Int.reduceAdd, Int.reduceSub, Int.reduceMul, ne_eq, decide_true, decide_false, tf10, he0, Int.cast_ofNat_Int]
    · simp -dsimp only [↓RE, ↓c_seq, RU, RL, if_true, if_false, forall_const, implies_true, Nat.reduceLeDiff, Nat.reduceLT, pureOp, binPure, intBin, strBin, eqPure, isConstO, unPure, sliceLo, sliceHi, slicePure, lenPure, minPure, maxPure, buildP, resK, endV, yieldE, ↓reduceIte, Nat.reduceEqDiff, reduceCtorEq, Nat.reduceAdd, Nat.reduceMul, Nat.reduceSub, Int.reduceLT, Int.reduceLE, Int.reduceToNat, Int.reduceAdd, Int.reduceSub, Int.reduceMul, ne_eq, decide_true, decide_false, tf10, he0]
    · simp -dsimp only [↓RE, ↓c_seq, RU, RL, if_true, if_false, forall_const, implies_true, Nat.reduceLeDiff, Nat.reduceLT, pureOp, binPure, intBin, strBin, eqPure, isConstO, unPure, sliceLo, sliceHi, slicePure, lenPure, minPure, maxPure, buildP, resK, endV, yieldE, ↓reduceIte, Nat.reduceEqDiff, reduceCtorEq, Nat.reduceAdd, Nat.reduceMul, Nat.reduceSub, Int.reduceLT, Int.reduceLE, Int.reduceToNat, Int.reduceAdd, Int.reduceSub, Int.reduceMul, ne_eq, decide_true, decide_false, tf10, he0]
    rintro e' w' ⟨h0, h3, k, s1, s2, hk, h6, h4, h5, hT⟩
    try simp -dsimp only [↓RE, ↓c_seq, RU, RL, if_true, if_false, forall_const, implies_true, Nat.reduceLeDiff, Nat.reduceLT, pureOp, binPure, intBin, strBin, eqPure, isConstO, unPure, sliceLo, sliceHi, slicePure, lenPure, minPure, maxPure, buildP, resK, endV, yieldE, ↓reduceIte, Nat.reduceEqDiff, reduceCtorEq, Nat.reduceAdd, Nat.reduceMul, Nat.reduceSub, Int.reduceLT, Int.reduceLE, Int.reduceToNat, Int.reduceAdd, Int.reduceSub, Int.reduceMul, ne_eq, decide_true, decide_false, tf10, h0, h3, h6, h4, h5]
    refine ⟨fun hlt => ?_, fun hge => ?_⟩
    · obtain ⟨ad, hA, hca, hcv, hcs⟩ := ((hR.grow g0).grow hT.grow).smp (k := k) (by omega)
      subst hA
      generalize hx : l.getD k (0, 0, 0) = x at *
      try simp -dsimp only [↓RE, ↓c_seq, RU, RL, if_true, if_false, forall_const, implies_true, Nat.reduceLeDiff, Nat.reduceLT, pureOp, binPure, intBin, strBin, eqPure, isConstO, unPure, sliceLo, sliceHi, slicePure, lenPure, minPure, maxPure, buildP, resK, endV, yieldE, ↓reduceIte, Nat.reduceEqDiff, reduceCtorEq, Nat.reduceAdd, Nat.reduceMul, Nat.reduceSub, Int.reduceLT, Int.reduceLE, Int.reduceToNat, Int.reduceAdd, Int.reduceSub, Int.reduceMul, ne_eq, decide_true, decide_false, tf10, h0, h3, h6, h4, h5, Int.toNat_natCast, hca]
      refine ⟨⟨by omega, by omega⟩, ?_⟩
      try simp -dsimp only [↓RE, ↓c_seq, RU, RL, if_true, if_false, forall_const, implies_true, Nat.reduceLeDiff, Nat.reduceLT, pureOp, binPure, intBin, strBin, eqPure, isConstO, unPure, sliceLo, sliceHi, slicePure, lenPure, minPure, maxPure, buildP, resK, endV, yieldE, ↓reduceIte, Nat.reduceEqDiff, reduceCtorEq, Nat.reduceAdd, Nat.reduceMul, Nat.reduceSub, Int.reduceLT, Int.reduceLE, Int.reduceToNat, Int.reduceAdd, Int.reduceSub, Int.reduceMul, ne_eq, decide_true, decide_false, tf10, h0, h3, h6, h4, h5, Int.toNat_natCast, add_zero', hca]
      have hb1 := Blk.new' w' 2 #[.int .i64 x.1]
      have ga1 := Grow.alloc w' (.cells #[.int .i64 x.1] 2)
      have hr1 : Rd (w'.alloc (.cells #[.int .i64 x.1] 2)) (some ⟨w'.heap.size, 0, none⟩) 1 1 (([x.1] : List Int).map (Value.int .i64)) := Rd.of_cells _ _ _ _ _ hb1 rfl
      have hlt := own_lt hT.t
      have hlv := own_lt hT.v
      have hsw := hT.grow.size
      refine appK_own (m := 1) (bytes := 8) (by kernel_rfl) (own_grow hT.t ga1) hr1 (ints_one _ _) (by show k + 1 ≤ maxLen; simp only [maxLen]; omega) (by show (k + 1) * 8 ≤ 140737488355328; omega) (fun A3 c3 w3 hO3 hK3 hF3 => ?_)
      have hV3 := own_keep (own_grow hT.v ga1) hK3 (own_ne hT.v hT.t (by decide))
      have g3 : Grow w0 w3 := (hT.grow.trans ga1).above hK3 (fun i hi hf => absurd (hT.ft i hf) (by omega))
      have hT3 : w3.ownsRow 0 2 1 (.slice A3 (k + 1) c3) (k + 1) ((tms (l.take (k + 1))).map (Value.int .i64)) := by
        rw [tms_snoc (by omega), hx, List.map_append]; exact hO3
      have hF3' : ∀ i, fpV (.slice A3 (k + 1) c3) i → w0.heap.size ≤ i := fun i hi => (hF3 i hi).elim (hT.ft i) (fun q => by have := ga1.size; omega)
      try simp -dsimp only [↓RE, ↓c_seq, RU, RL, if_true, if_false, forall_const, implies_true, Nat.reduceLeDiff, Nat.reduceLT, pureOp, binPure, intBin, strBin, eqPure, isConstO, unPure, sliceLo, sliceHi, slicePure, lenPure, minPure, maxPure, buildP, resK, endV, yieldE, ↓reduceIte, Nat.reduceEqDiff, reduceCtorEq, Nat.reduceAdd, Nat.reduceMul, Nat.reduceSub, Int.reduceLT, Int.reduceLE, Int.reduceToNat, Int.reduceAdd, Int.reduceSub, Int.reduceMul, ne_eq, decide_true, decide_false, tf10, h0, h3, h6, h4, h5, Int.toNat_natCast, add_zero']
      refine ⟨⟨by omega, by omega⟩, ?_⟩
      obtain ⟨ad', hA', _, hcv', _⟩ := ((hR.grow g0).grow g3).smp (k := k) (by omega)
      injection hA' with hA'
      subst hA'
      rw [hx] at hcv'
      refine hcv' ?_
      have hb4 := Blk.new' w3 26 #[.int .u8 x.2.1, .int .i64 x.2.2]
      have ga4 := Grow.alloc w3 (.cells #[.int .u8 x.2.1, .int .i64 x.2.2] 26)
      have hr4 : Rd (w3.alloc (.cells #[.int .u8 x.2.1, .int .i64 x.2.2] 26)) (some ⟨w3.heap.size, 0, none⟩) 1 2 (([x.2] : List (Int × Int)).flatMap vcells) := Rd.of_blk hb4 rfl
      try simp -dsimp only [↓RE, ↓c_seq, RU, RL, if_true, if_false, forall_const, implies_true, Nat.reduceLeDiff, Nat.reduceLT, pureOp, binPure, intBin, strBin, eqPure, isConstO, unPure, sliceLo, sliceHi, slicePure, lenPure, minPure, maxPure, buildP, resK, endV, yieldE, ↓reduceIte, Nat.reduceEqDiff, reduceCtorEq, Nat.reduceAdd, Nat.reduceMul, Nat.reduceSub, Int.reduceLT, Int.reduceLE, Int.reduceToNat, Int.reduceAdd, Int.reduceSub, Int.reduceMul, ne_eq, decide_true, decide_false, tf10, h0, h3, h6, h4, h5]
      refine appK_own (m := 1) (bytes := 16) (by kernel_rfl) (own_grow hV3 ga4) hr4 (vcells_one _) (by show k + 1 ≤ maxLen; simp only [maxLen]; omega) (by show (k + 1) * 16 ≤ 140737488355328; omega) (fun A5 c5 w5 hO5 hK5 hF5 => ?_)
      have g5 : Grow w0 w5 := (g3.trans ga4).above hK5 (fun i hi hf => absurd (hT.fv i hf) (by omega))
      have hV5 : w5.ownsRow 0 26 2 (.slice A5 (k + 1) c5) (k + 1) ((vls (l.take (k + 1))).flatMap vcells) := by
        rw [vls_snoc (by omega), hx, List.flatMap_append]; exact hO5
      have hF5' : ∀ i, fpV (.slice A5 (k + 1) c5) i → w0.heap.size ≤ i := fun i hi => (hF5 i hi).elim (hT.fv i) (fun q => by have := g3.size; have := ga4.size; omega)
      have hT5 := own_keep (own_grow hT3 ga4) hK5 (own_ne hT3 hV3 (by decide))
      try simp -dsimp only [↓RE, ↓c_seq, RU, RL, if_true, if_false, forall_const, implies_true, Nat.reduceLeDiff, Nat.reduceLT, pureOp, binPure, intBin, strBin, eqPure, isConstO, unPure, sliceLo, sliceHi, slicePure, lenPure, minPure, maxPure, buildP, resK, endV, yieldE, ↓reduceIte, Nat.reduceEqDiff, reduceCtorEq, Nat.reduceAdd, Nat.reduceMul, Nat.reduceSub, Int.reduceLT, Int.reduceLE, Int.reduceToNat, Int.reduceAdd, Int.reduceSub, Int.reduceMul, ne_eq, decide_true, decide_false, tf10, h0, h3, h6, h4, h5]
      refine hold_intro ⟨⟨?_, ?_, k + 1, .slice A3 (k + 1) c3, .slice A5 (k + 1) c5, by omega, ?_, ?_, ?_, hT5, hV5, hF3', hF5', g5⟩, ?_⟩
      · simp -dsimp only [↓RE, ↓c_seq, RU, RL, if_true, if_false, forall_const, implies_true, Nat.reduceLeDiff, Nat.reduceLT, pureOp, binPure, intBin, strBin, eqPure, isConstO, unPure, sliceLo, sliceHi, slicePure, lenPure, minPure, maxPure, buildP, resK, endV, yieldE, ↓reduceIte, Nat.reduceEqDiff, reduceCtorEq, Nat.reduceAdd, Nat.reduceMul, Nat.reduceSub, Int.reduceLT, Int.reduceLE, Int.reduceToNat, Int.reduceAdd, Int.reduceSub, Int.reduceMul, ne_eq, decide_true, decide_false, tf10, h0]
      · simp -dsimp only [↓RE, ↓c_seq, RU, RL, if_true, if_false, forall_const, implies_true, Nat.reduceLeDiff, Nat.reduceLT, pureOp, binPure, intBin, strBin, eqPure, isConstO, unPure, sliceLo, sliceHi, slicePure, lenPure, minPure, maxPure, buildP, resK, endV, yieldE, ↓reduceIte, Nat.reduceEqDiff, reduceCtorEq, Nat.reduceAdd, Nat.reduceMul, Nat.reduceSub, Int.reduceLT, Int.reduceLE, Int.reduceToNat, Int.reduceAdd, Int.reduceSub, Int.reduceMul, ne_eq, decide_true, decide_false, tf10, h3]
      · simp -dsimp only [↓RE, ↓c_seq, RU, RL, if_true, if_false, forall_const, implies_true, Nat.reduceLeDiff, Nat.reduceLT, pureOp, binPure, intBin, strBin, eqPure, isConstO, unPure, sliceLo, sliceHi, slicePure, lenPure, minPure, maxPure, buildP, resK, endV, yieldE, ↓reduceIte, Nat.reduceEqDiff, reduceCtorEq, Nat.reduceAdd, Nat.reduceMul, Nat.reduceSub, Int.reduceLT, Int.reduceLE, Int.reduceToNat, Int.reduceAdd, Int.reduceSub, Int.reduceMul, ne_eq, decide_true, decide_false, tf10, h6]
        rw [wrap_i64_in (by omega) (by omega)]; rfl
      · simp -dsimp only [↓RE, ↓c_seq, RU, RL, if_true, if_false, forall_const, implies_true, Nat.reduceLeDiff, Nat.reduceLT, pureOp, binPure, intBin, strBin, eqPure, isConstO, unPure, sliceLo, sliceHi, slicePure, lenPure, minPure, maxPure, buildP, resK, endV, yieldE, ↓reduceIte, Nat.reduceEqDiff, reduceCtorEq, Nat.reduceAdd, Nat.reduceMul, Nat.reduceSub, Int.reduceLT, Int.reduceLE, Int.reduceToNat, Int.reduceAdd, Int.reduceSub, Int.reduceMul, ne_eq, decide_true, decide_false, tf10, h4]
      · simp -dsimp only [↓RE, ↓c_seq, RU, RL, if_true, if_false, forall_const, implies_true, Nat.reduceLeDiff, Nat.reduceLT, pureOp, binPure, intBin, strBin, eqPure, isConstO, unPure, sliceLo, sliceHi, slicePure, lenPure, minPure, maxPure, buildP, resK, endV, yieldE, ↓reduceIte, Nat.reduceEqDiff, reduceCtorEq, Nat.reduceAdd, Nat.reduceMul, Nat.reduceSub, Int.reduceLT, Int.reduceLE, Int.reduceToNat, Int.reduceAdd, Int.reduceSub, Int.reduceMul, ne_eq, decide_true, decide_false, tf10, h5]
      · simp -dsimp only [↓RE, ↓c_seq, RU, RL, if_true, if_false, forall_const, implies_true, Nat.reduceLeDiff, Nat.reduceLT, pureOp, binPure, intBin, strBin, eqPure, isConstO, unPure, sliceLo, sliceHi, slicePure, lenPure, minPure, maxPure, buildP, resK, endV, yieldE, ↓reduceIte, Nat.reduceEqDiff, reduceCtorEq, Nat.reduceAdd, Nat.reduceMul, Nat.reduceSub, Int.reduceLT, Int.reduceLE, Int.reduceToNat, Int.reduceAdd, Int.reduceSub, Int.reduceMul, ne_eq, decide_true, decide_false, tf10, h6]
        rw [wrap_i64_in (by omega) (by omega), envInt_int, envInt_int]; omega
    · obtain rfl : k = n := by omega
      try simp -dsimp only [↓RE, ↓c_seq, RU, RL, if_true, if_false, forall_const, implies_true, Nat.reduceLeDiff, Nat.reduceLT, pureOp, binPure, intBin, strBin, eqPure, isConstO, unPure, sliceLo, sliceHi, slicePure, lenPure, minPure, maxPure, buildP, resK, endV, yieldE, ↓reduceIte, Nat.reduceEqDiff, reduceCtorEq, Nat.reduceAdd, Nat.reduceMul, Nat.reduceSub, Int.reduceLT, Int.reduceLE, Int.reduceToNat, Int.reduceAdd, Int.reduceSub, Int.reduceMul, ne_eq, decide_true, decide_false, tf10, h0, h3, h6, h4, h5]
      refine hold_intro ⟨s1, s2, ?_, ?_, ?_, hT⟩
      · simp -dsimp only [↓RE, ↓c_seq, RU, RL, if_true, if_false, forall_const, implies_true, Nat.reduceLeDiff, Nat.reduceLT, pureOp, binPure, intBin, strBin, eqPure, isConstO, unPure, sliceLo, sliceHi, slicePure, lenPure, minPure, maxPure, buildP, resK, endV, yieldE, ↓reduceIte, Nat.reduceEqDiff, reduceCtorEq, Nat.reduceAdd, Nat.reduceMul, Nat.reduceSub, Int.reduceLT, Int.reduceLE, Int.reduceToNat, Int.reduceAdd, Int.reduceSub, Int.reduceMul, ne_eq, decide_true, decide_false, tf10, h3]
      · simp -dsimp only [↓RE, ↓c_seq, RU, RL, if_true, if_false, forall_const, implies_true, Nat.reduceLeDiff, Nat.reduceLT, pureOp, binPure, intBin, strBin, eqPure, isConstO, unPure, sliceLo, sliceHi, slicePure, lenPure, minPure, maxPure, buildP, resK, endV, yieldE, ↓reduceIte, Nat.reduceEqDiff, reduceCtorEq, Nat.reduceAdd, Nat.reduceMul, Nat.reduceSub, Int.reduceLT, Int.reduceLE, Int.reduceToNat, Int.reduceAdd, Int.reduceSub, Int.reduceMul, ne_eq, decide_true, decide_false, tf10, h4]
      · simp -dsimp only [↓RE, ↓c_seq, RU, RL, if_true, if_false, forall_const, implies_true, Nat.reduceLeDiff, Nat.reduceLT, pureOp, binPure, intBin, strBin, eqPure, isConstO, unPure, sliceLo, sliceHi, slicePure, lenPure, minPure, maxPure, buildP, resK, endV, yieldE, ↓reduceIte, Nat.reduceEqDiff, reduceCtorEq, Nat.reduceAdd, Nat.reduceMul, Nat.reduceSub, Int.reduceLT, Int.reduceLE, Int.reduceToNat, Int.reduceAdd, Int.reduceSub, Int.reduceMul, ne_eq, decide_true, decide_false, tf10, h5]
  · rintro e w1 ⟨s1, s2, he3, he4, he5, hT⟩
    have htk : l.take n = l := List.take_of_length_le (by omega)
    have hOt := hT.t
    have hOv := hT.v
    have hg1 := hT.grow
    rw [htk] at hOt hOv
    obtain ⟨A1, c1, rfl, _, _⟩ := own_form hOt
    obtain ⟨A2, c2, rfl, _, _⟩ := own_form hOv
    have hRt := Rd.of_own hOt
    have hRv := Rd.of_own hOv
    have hs1 := hg1.size
    have hzw := hz0.grow hg1
    try simp -dsimp only [↓RE, ↓c_seq, RU, RL, if_true, if_false, forall_const, implies_true, Nat.reduceLeDiff, Nat.reduceLT, pureOp, binPure, intBin, strBin, eqPure, isConstO, unPure, sliceLo, sliceHi, slicePure, lenPure, minPure, maxPure, buildP, resK, endV, yieldE, ↓reduceIte, Nat.reduceEqDiff, reduceCtorEq, Nat.reduceAdd, Nat.reduceMul, Nat.reduceSub, Int.reduceLT, Int.reduceLE, Int.reduceToNat, Int.reduceAdd, Int.reduceSub, Int.reduceMul, ne_eq, decide_true, decide_false, tf10, he3, he4, he5]
    refine rtimes_ok hRt (sok_tms hl0) (by omega) (fun er w3 hte hne g3 => ?_) (fun hte w3 A3 c3 hR3 hF3 g3 => ?_)
    · have hq0 : decide (er = 0) = false := decide_eq_false hne
      have hB := Blk.new' w3 37 #[.int .i64 0, .int .i64 0, .int .i64 0, .bool false, .bool false]
      have ga := Grow.alloc w3 (.cells #[.int .i64 0, .int .i64 0, .int .i64 0, .bool false, .bool false] 37)
      have gw3 := (g0.trans hg1).trans g3
      have hs3 := gw3.size
      try simp -dsimp only [↓RE, ↓c_seq, RU, RL, if_true, if_false, forall_const, implies_true, Nat.reduceLeDiff, Nat.reduceLT, pureOp, binPure, intBin, strBin, eqPure, isConstO, unPure, sliceLo, sliceHi, slicePure, lenPure, minPure, maxPure, buildP, resK, endV, yieldE, ↓reduceIte, Nat.reduceEqDiff, reduceCtorEq, Nat.reduceAdd, Nat.reduceMul, Nat.reduceSub, Int.reduceLT, Int.reduceLE, Int.reduceToNat, Int.reduceAdd, Int.reduceSub, Int.reduceMul, ne_eq, decide_true, decide_false, tf10, he3, he4, he5, BadV.v, BadV.cells]
      refine bad_put (w := w) (b := ⟨er, 0, 0, false, false⟩) (gw3.trans ga) hB rfl hs3 (fun w4 hB4 k4 g4 => ?_)
      have hz4 := ((hzw.grow g3).grow ga).keep k4 (by have := hzw.lt; have := g3.size; omega)
      try simp -dsimp only [↓RE, ↓c_seq, RU, RL, if_true, if_false, forall_const, implies_true, Nat.reduceLeDiff, Nat.reduceLT, pureOp, binPure, intBin, strBin, eqPure, isConstO, unPure, sliceLo, sliceHi, slicePure, lenPure, minPure, maxPure, buildP, resK, endV, yieldE, ↓reduceIte, Nat.reduceEqDiff, reduceCtorEq, Nat.reduceAdd, Nat.reduceMul, Nat.reduceSub, Int.reduceLT, Int.reduceLE, Int.reduceToNat, Int.reduceAdd, Int.reduceSub, Int.reduceMul, ne_eq, decide_true, decide_false, tf10, he3, he4, he5, hB4.cell, BadV.cells, hq0]
      refine wpDraw_tail mixed 2 (by kernel_rfl) ?_
      try simp -dsimp only [↓RE, ↓c_seq, RU, RL, if_true, if_false, forall_const, implies_true, Nat.reduceLeDiff, Nat.reduceLT, pureOp, binPure, intBin, strBin, eqPure, isConstO, unPure, sliceLo, sliceHi, slicePure, lenPure, minPure, maxPure, buildP, resK, endV, yieldE, ↓reduceIte, Nat.reduceEqDiff, reduceCtorEq, Nat.reduceAdd, Nat.reduceMul, Nat.reduceSub, Int.reduceLT, Int.reduceLE, Int.reduceToNat, Int.reduceAdd, Int.reduceSub, Int.reduceMul, ne_eq, decide_true, decide_false, tf10, he3, he4, he5]
      refine hB4.drew.aggK (by simp [BadV.cells]) ?_
      try simp -dsimp only [↓RE, ↓c_seq, RU, RL, if_true, if_false, forall_const, implies_true, Nat.reduceLeDiff, Nat.reduceLT, pureOp, binPure, intBin, strBin, eqPure, isConstO, unPure, sliceLo, sliceHi, slicePure, lenPure, minPure, maxPure, buildP, resK, endV, yieldE, ↓reduceIte, Nat.reduceEqDiff, reduceCtorEq, Nat.reduceAdd, Nat.reduceMul, Nat.reduceSub, Int.reduceLT, Int.reduceLE, Int.reduceToNat, Int.reduceAdd, Int.reduceSub, Int.reduceMul, ne_eq, decide_true, decide_false, tf10, he3, he4, he5, BadV.cells, List.drop_zero, List.take_succ_cons, List.take_zero]
      refine bad_put (w := w) (b := ⟨er, 0, 0, false, false⟩) (g4.trans (Grow.drew w4)) hz4.drew rfl (Nat.le_refl _) (fun w5 hB5 _ g5 => ?_)
      try simp -dsimp only [↓RE, ↓c_seq, RU, RL, if_true, if_false, forall_const, implies_true, Nat.reduceLeDiff, Nat.reduceLT, pureOp, binPure, intBin, strBin, eqPure, isConstO, unPure, sliceLo, sliceHi, slicePure, lenPure, minPure, maxPure, buildP, resK, endV, yieldE, ↓reduceIte, Nat.reduceEqDiff, reduceCtorEq, Nat.reduceAdd, Nat.reduceMul, Nat.reduceSub, Int.reduceLT, Int.reduceLE, Int.reduceToNat, Int.reduceAdd, Int.reduceSub, Int.reduceMul, ne_eq, decide_true, decide_false, tf10, he3, he4, he5]
      refine hB5.aggK (by simp [BadV.cells]) ?_
      try simp -dsimp only [↓RE, ↓c_seq, RU, RL, if_true, if_false, forall_const, implies_true, Nat.reduceLeDiff, Nat.reduceLT, pureOp, binPure, intBin, strBin, eqPure, isConstO, unPure, sliceLo, sliceHi, slicePure, lenPure, minPure, maxPure, buildP, resK, endV, yieldE, ↓reduceIte, Nat.reduceEqDiff, reduceCtorEq, Nat.reduceAdd, Nat.reduceMul, Nat.reduceSub, Int.reduceLT, Int.reduceLE, Int.reduceToNat, Int.reduceAdd, Int.reduceSub, Int.reduceMul, ne_eq, decide_true, decide_false, tf10, he3, he4, he5]
      exact herr er w5 (pErr_t hte) hne g5
    have hB := Blk.new' w3 37 #[.int .i64 0, .int .i64 0, .int .i64 0, .bool false, .bool false]
    have ga := Grow.alloc w3 (.cells #[.int .i64 0, .int .i64 0, .int .i64 0, .bool false, .bool false] 37)
    have gw3 := (g0.trans hg1).trans g3
    have hs3 := gw3.size
    try simp -dsimp only [↓RE, ↓c_seq, RU, RL, if_true, if_false, forall_const, implies_true, Nat.reduceLeDiff, Nat.reduceLT, pureOp, binPure, intBin, strBin, eqPure, isConstO, unPure, sliceLo, sliceHi, slicePure, lenPure, minPure, maxPure, buildP, resK, endV, yieldE, ↓reduceIte, Nat.reduceEqDiff, reduceCtorEq, Nat.reduceAdd, Nat.reduceMul, Nat.reduceSub, Int.reduceLT, Int.reduceLE, Int.reduceToNat, Int.reduceAdd, Int.reduceSub, Int.reduceMul, ne_eq, decide_true, decide_false, tf10, he3, he4, he5, BadV.v, BadV.cells, BadV.none]
    refine bad_put (w := w) (b := BadV.none) (gw3.trans ga) hB rfl hs3 (fun w4 hB4 k4 g4 => ?_)
    have hz4 := ((hzw.grow g3).grow ga).keep k4 (by have := hzw.lt; have := g3.size; omega)
    have k34 : Grow w3 w4 := ga.above k4 (fun i hi e => by omega)
    try simp -dsimp only [↓RE, ↓c_seq, RU, RL, if_true, if_false, forall_const, implies_true, Nat.reduceLeDiff, Nat.reduceLT, pureOp, binPure, intBin, strBin, eqPure, isConstO, unPure, sliceLo, sliceHi, slicePure, lenPure, minPure, maxPure, buildP, resK, endV, yieldE, ↓reduceIte, Nat.reduceEqDiff, reduceCtorEq, Nat.reduceAdd, Nat.reduceMul, Nat.reduceSub, Int.reduceLT, Int.reduceLE, Int.reduceToNat, Int.reduceAdd, Int.reduceSub, Int.reduceMul, ne_eq, decide_true, decide_false, tf10, he3, he4, he5, hB4.cell, BadV.cells, BadV.none, eq_self]
    refine rvalues_ok ((hRv.grow g3).grow k34) (sok_vls hl0) (by omega) (fun er w5 hve hne g5 => ?_) (fun hve w5 A5 c5 hR5 hF5 g5 => ?_)
    · have hq0 : decide (er = 0) = false := decide_eq_false hne
      try simp -dsimp only [↓RE, ↓c_seq, RU, RL, if_true, if_false, forall_const, implies_true, Nat.reduceLeDiff, Nat.reduceLT, pureOp, binPure, intBin, strBin, eqPure, isConstO, unPure, sliceLo, sliceHi, slicePure, lenPure, minPure, maxPure, buildP, resK, endV, yieldE, ↓reduceIte, Nat.reduceEqDiff, reduceCtorEq, Nat.reduceAdd, Nat.reduceMul, Nat.reduceSub, Int.reduceLT, Int.reduceLE, Int.reduceToNat, Int.reduceAdd, Int.reduceSub, Int.reduceMul, ne_eq, decide_true, decide_false, tf10, he3, he4, he5, BadV.v, BadV.cells]
      refine bad_put (w := w) (b := ⟨er, 0, 0, false, false⟩) (g4.trans g5) (hB4.grow g5) rfl hs3 (fun w6 hB6 k6 g6 => ?_)
      have hz6 := (hz4.grow g5).keep k6 (by have := hzw.lt; have := g3.size; omega)
      try simp -dsimp only [↓RE, ↓c_seq, RU, RL, if_true, if_false, forall_const, implies_true, Nat.reduceLeDiff, Nat.reduceLT, pureOp, binPure, intBin, strBin, eqPure, isConstO, unPure, sliceLo, sliceHi, slicePure, lenPure, minPure, maxPure, buildP, resK, endV, yieldE, ↓reduceIte, Nat.reduceEqDiff, reduceCtorEq, Nat.reduceAdd, Nat.reduceMul, Nat.reduceSub, Int.reduceLT, Int.reduceLE, Int.reduceToNat, Int.reduceAdd, Int.reduceSub, Int.reduceMul, ne_eq, decide_true, decide_false, tf10, he3, he4, he5, hB6.cell, BadV.cells, hq0]
      refine wpDraw_tail mixed 2 (by kernel_rfl) ?_
      try simp -dsimp only [↓RE, ↓c_seq, RU, RL, if_true, if_false, forall_const, implies_true, Nat.reduceLeDiff, Nat.reduceLT, pureOp, binPure, intBin, strBin, eqPure, isConstO, unPure, sliceLo, sliceHi, slicePure, lenPure, minPure, maxPure, buildP, resK, endV, yieldE, ↓reduceIte, Nat.reduceEqDiff, reduceCtorEq, Nat.reduceAdd, Nat.reduceMul, Nat.reduceSub, Int.reduceLT, Int.reduceLE, Int.reduceToNat, Int.reduceAdd, Int.reduceSub, Int.reduceMul, ne_eq, decide_true, decide_false, tf10, he3, he4, he5]
      refine hB6.drew.aggK (by simp [BadV.cells]) ?_
      try simp -dsimp only [↓RE, ↓c_seq, RU, RL, if_true, if_false, forall_const, implies_true, Nat.reduceLeDiff, Nat.reduceLT, pureOp, binPure, intBin, strBin, eqPure, isConstO, unPure, sliceLo, sliceHi, slicePure, lenPure, minPure, maxPure, buildP, resK, endV, yieldE, ↓reduceIte, Nat.reduceEqDiff, reduceCtorEq, Nat.reduceAdd, Nat.reduceMul, Nat.reduceSub, Int.reduceLT, Int.reduceLE, Int.reduceToNat, Int.reduceAdd, Int.reduceSub, Int.reduceMul, ne_eq, decide_true, decide_false, tf10, he3, he4, he5, BadV.cells, List.drop_zero, List.take_succ_cons, List.take_zero]
      refine bad_put (w := w) (b := ⟨er, 0, 0, false, false⟩) (g6.trans (Grow.drew w6)) hz6.drew rfl (Nat.le_refl _) (fun w7 hB7 _ g7 => ?_)
      try simp -dsimp only [↓RE, ↓c_seq, RU, RL, if_true, if_false, forall_const, implies_true, Nat.reduceLeDiff, Nat.reduceLT, pureOp, binPure, intBin, strBin, eqPure, isConstO, unPure, sliceLo, sliceHi, slicePure, lenPure, minPure, maxPure, buildP, resK, endV, yieldE, ↓reduceIte, Nat.reduceEqDiff, reduceCtorEq, Nat.reduceAdd, Nat.reduceMul, Nat.reduceSub, Int.reduceLT, Int.reduceLE, Int.reduceToNat, Int.reduceAdd, Int.reduceSub, Int.reduceMul, ne_eq, decide_true, decide_false, tf10, he3, he4, he5]
      refine hB7.aggK (by simp [BadV.cells]) ?_
      try simp -dsimp only [↓RE, ↓c_seq, RU, RL, if_true, if_false, forall_const, implies_true, Nat.reduceLeDiff, Nat.reduceLT, pureOp, binPure, intBin, strBin, eqPure, isConstO, unPure, sliceLo, sliceHi, slicePure, lenPure, minPure, maxPure, buildP, resK, endV, yieldE, ↓reduceIte, Nat.reduceEqDiff, reduceCtorEq, Nat.reduceAdd, Nat.reduceMul, Nat.reduceSub, Int.reduceLT, Int.reduceLE, Int.reduceToNat, Int.reduceAdd, Int.reduceSub, Int.reduceMul, ne_eq, decide_true, decide_false, tf10, he3, he4, he5]
      exact herr er w7 ((pErr_v hte).trans hve) hne g7
    try simp -dsimp only [↓RE, ↓c_seq, RU, RL, if_true, if_false, forall_const, implies_true, Nat.reduceLeDiff, Nat.reduceLT, pureOp, binPure, intBin, strBin, eqPure, isConstO, unPure, sliceLo, sliceHi, slicePure, lenPure, minPure, maxPure, buildP, resK, endV, yieldE, ↓reduceIte, Nat.reduceEqDiff, reduceCtorEq, Nat.reduceAdd, Nat.reduceMul, Nat.reduceSub, Int.reduceLT, Int.reduceLE, Int.reduceToNat, Int.reduceAdd, Int.reduceSub, Int.reduceMul, ne_eq, decide_true, decide_false, tf10, he3, he4, he5, BadV.v, BadV.cells, BadV.none]
    refine bad_put (w := w) (b := BadV.none) (g4.trans g5) (hB4.grow g5) rfl hs3 (fun w6 hB6 k6 g6 => ?_)
    have hz6 := (hz4.grow g5).keep k6 (by have := hzw.lt; have := g3.size; omega)
    have k36 : Grow w3 w6 := (k34.trans g5).above k6 (fun i hi e => by omega)
    have k46 : Keep (fun k => k = w3.heap.size) w4 w6 := g5.then k6
    have hs4 := k34.size
    have hs5 := g5.size
    have hs6 := k6.size
    have hpe : pErr l = none := (pErr_v hte).trans hve
    have hln : l.length ≤ 1048576 := by have := tErr_none hte; rwa [tms_len] at this
    have hpl := pOut_len hln hl0
    have hp : pOut l = rawB (tW (tms l) n).1 ++ rawB (vS (vls l) n).q.1 := by rw [pOut, hl]
    rw [hp] at h hpl
    simp only [rawB, List.length_append] at hpl
    generalize (tW (tms l) n).1 = Z1 at *
    generalize (vS (vls l) n).q.1 = Z2 at *
    have hR3' := hR3.grow k36
    have hR5' := hR5.keep k6 (fun k hk e => by have := hF5 k hk; have := hB4.lt; omega)
    have hB1 := Blk.new' w6 93 #[.slice none 0 0, .int .i64 0]
    have gb := Grow.alloc w6 (.cells #[.slice none 0 0, .int .i64 0] 93)
    have hW0 : WAt 93 (w6.alloc (.cells #[.slice none 0 0, .int .i64 0] 93)) (fun k => k = w6.heap.size ∨ fpV (.slice none 0 0) k) w6.heap.size [] 0 := ⟨_, hB1, own_nil _ _ _, rfl⟩
    have hge : ∀ k, (k = w6.heap.size ∨ fpV (.slice none 0 0) k) → w6.heap.size ≤ k := by
      rintro k (rfl | hk)
      · exact Nat.le_refl _
      · exact absurd hk (fpV_none _)
    try simp -dsimp only [↓RE, ↓c_seq, RU, RL, if_true, if_false, forall_const, implies_true, Nat.reduceLeDiff, Nat.reduceLT, pureOp, binPure, intBin, strBin, eqPure, isConstO, unPure, sliceLo, sliceHi, slicePure, lenPure, minPure, maxPure, buildP, resK, endV, yieldE, ↓reduceIte, Nat.reduceEqDiff, reduceCtorEq, Nat.reduceAdd, Nat.reduceMul, Nat.reduceSub, Int.reduceLT, Int.reduceLE, Int.reduceToNat, Int.reduceAdd, Int.reduceSub, Int.reduceMul, ne_eq, decide_true, decide_false, tf10, he3, he4, he5, hB6.cell, BadV.cells, BadV.none, eq_self]
    refine rraw_ok hW0 (hR3'.grow gb) (fun h0 k hk hf => by have := hR3'.lt h0 (by omega) k hk; have := hge k hf; omega) (by simp only [List.length_nil]; omega) (fun w7 F7 hW7 hS7 => ?_)
    have hF7 : ∀ k, F7 k → w6.heap.size ≤ k := fun k hk => (hS7.sub k hk).elim (hge k) (fun q => by have := gb.size; omega)
    have g7 : Grow w6 w7 := gb.above hS7.keep (fun i hi hf => absurd (hge i hf) (by omega))
    try simp -dsimp only [↓RE, ↓c_seq, RU, RL, if_true, if_false, forall_const, implies_true, Nat.reduceLeDiff, Nat.reduceLT, pureOp, binPure, intBin, strBin, eqPure, isConstO, unPure, sliceLo, sliceHi, slicePure, lenPure, minPure, maxPure, buildP, resK, endV, yieldE, ↓reduceIte, Nat.reduceEqDiff, reduceCtorEq, Nat.reduceAdd, Nat.reduceMul, Nat.reduceSub, Int.reduceLT, Int.reduceLE, Int.reduceToNat, Int.reduceAdd, Int.reduceSub, Int.reduceMul, ne_eq, decide_true, decide_false, tf10, he3, he4, he5]
    refine rraw_ok hW7 (hR5'.grow g7) (fun h0 k hk hf => by have := hR5'.lt h0 (by omega) k hk; have := hF7 k hf; omega) (by simp only [List.length_nil, List.nil_append, List.length_append]; omega) (fun w8 F8 hW8 hS8 => ?_)
    have hF8 : ∀ k, F8 k → w6.heap.size ≤ k := fun k hk => (hS8.sub k hk).elim (hF7 k) (fun q => by have := g7.size; omega)
    have g8 : Grow w6 w8 := g7.above hS8.keep (fun i hi hf => absurd (hF7 i hf) (by omega))
    obtain ⟨sv, hB8, hO8, hsv⟩ := hW8
    obtain ⟨A8, c8, rfl, _⟩ := own_form hO8
    have hz8 := hz6.grow g8
    try simp -dsimp only [↓RE, ↓c_seq, RU, RL, if_true, if_false, forall_const, implies_true, Nat.reduceLeDiff, Nat.reduceLT, pureOp, binPure, intBin, strBin, eqPure, isConstO, unPure, sliceLo, sliceHi, slicePure, lenPure, minPure, maxPure, buildP, resK, endV, yieldE, ↓reduceIte, Nat.reduceEqDiff, reduceCtorEq, Nat.reduceAdd, Nat.reduceMul, Nat.reduceSub, Int.reduceLT, Int.reduceLE, Int.reduceToNat, Int.reduceAdd, Int.reduceSub, Int.reduceMul, ne_eq, decide_true, decide_false, tf10, he3, he4, he5, hB8.cell]
    refine bad_put (w := w) (b := BadV.none) (g6.trans g8) hz8 rfl (Nat.le_refl _) (fun w9 hB9 k9 g9 => ?_)
    have hO9 := own_keep hO8 k9 (fun i hi e => by have := hF8 i (by rw [hsv]; exact .inr hi); have := hz6.lt; omega)
    try simp -dsimp only [↓RE, ↓c_seq, RU, RL, if_true, if_false, forall_const, implies_true, Nat.reduceLeDiff, Nat.reduceLT, pureOp, binPure, intBin, strBin, eqPure, isConstO, unPure, sliceLo, sliceHi, slicePure, lenPure, minPure, maxPure, buildP, resK, endV, yieldE, ↓reduceIte, Nat.reduceEqDiff, reduceCtorEq, Nat.reduceAdd, Nat.reduceMul, Nat.reduceSub, Int.reduceLT, Int.reduceLE, Int.reduceToNat, Int.reduceAdd, Int.reduceSub, Int.reduceMul, ne_eq, decide_true, decide_false, tf10, he3, he4, he5]
    refine hB9.aggK (by simp [BadV.cells]) ?_
    try simp -dsimp only [↓RE, ↓c_seq, RU, RL, if_true, if_false, forall_const, implies_true, Nat.reduceLeDiff, Nat.reduceLT, pureOp, binPure, intBin, strBin, eqPure, isConstO, unPure, sliceLo, sliceHi, slicePure, lenPure, minPure, maxPure, buildP, resK, endV, yieldE, ↓reduceIte, Nat.reduceEqDiff, reduceCtorEq, Nat.reduceAdd, Nat.reduceMul, Nat.reduceSub, Int.reduceLT, Int.reduceLE, Int.reduceToNat, Int.reduceAdd, Int.reduceSub, Int.reduceMul, ne_eq, decide_true, decide_false, tf10, he3, he4, he5]
    exact h hpe w9 A8 c8 (by simpa [rawB] using Rd.of_own hO9) (fun k hk => by have := hF8 k (by rw [hsv]; exact .inr ((fpV_fpA _ _ _ _).2 hk)); have := g6.size; omega) g9

end Go.Proofs.Ytmgiichlccdcfaa
