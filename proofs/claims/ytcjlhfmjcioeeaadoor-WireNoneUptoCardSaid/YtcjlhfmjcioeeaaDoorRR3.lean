
/- The document's Reader: bytes, texts, where it stands, its fault. -/
import Derived.Test.YtcjlhfmjcioeeaaDoorRR2
set_option linter.unusedVariables false
set_option linter.unusedSimpArgs false
set_option maxRecDepth 100000
namespace Go.Proofs.YtcjlhfmjcioeeaaDoor
open Go

theorem scan_err : ∀ {l : List Int} {k : Nat} {v : Int} {i j : Nat} {e : Int}, scan l k v i = .error (j, e) → e ≠ 0
  | [], k, v, i, j, e, h => by
    simp only [scan, Except.error.injEq, Prod.mk.injEq] at h
    omega
  | c :: r, k, v, i, j, e, h => by
    rw [scan_cons] at h
    split at h
    · simp only [Except.error.injEq, Prod.mk.injEq] at h
      omega
    split at h
    · cases h
    · exact scan_err h
theorem rBegin_fok {s : RS} (h : FOk s.fault) : FOk (rBegin s).1.fault := by
  unfold rBegin; split
  · exact h
  split
  · exact h.fail (FOk.err (by decide))
  · exact h
theorem rFail_set {s : RS} {e : Option (TypeId × Value)} (h : s.fault = none) : rFail s e = { s with fault := e } := by unfold rFail; rw [if_pos h]

/-- what a row of bytes that is read comes to, by the number ahead of it. -/
theorem rLoad_none {most : Int} {s : RS} (h : (rNum2 (rLim most) 6 s).2.2 = 0) : rLoad most s = ((rNum2 (rLim most) 6 s).1, []) := by
  obtain ⟨_, sz⟩ := rNum2_spec (rLim most) 6 s
  obtain ⟨hN, _, hf, hp, hb⟩ := sz h
  have hS : rLoadS most s = (rNum2 (rLim most) 6 s).1 := by
    unfold rLoadS rLong
    rw [hN]
    simp only
    rw [if_neg (fun h => hf h.1)]
    unfold rShort
    rw [if_neg (fun h => hf h.1)]
  unfold rLoad
  by_cases hbg : (rBegin s).2 = true
  · rw [if_pos hbg, hS, if_pos hf]
    unfold rBack
    rw [← hp, ← hb]
  · rw [if_neg hbg]
    unfold rNum2
    rw [if_neg hbg]
theorem rLoad_some {most : Int} {s : RS} {n : Nat} {v : Int} (hq : rNum2 (rLim most) 6 s = (s, v, n)) (hn : 0 < n) :
    rLoad most s = if most < 0 then (rFail s (errAt s.pos 6), []) else if ((s.xs.length - (s.pos + n) : Nat) : Int) < v then (rFail s (errAt s.xs.length 30), []) else
      ({ s with pos := s.pos + n + v.toNat, bits := 0 }, (s.xs.drop (s.pos + n)).take v.toNat) := by
  obtain ⟨sp, _⟩ := rNum2_spec (rLim most) 6 s
  rw [hq] at sp
  obtain ⟨hb, _, hf, hN, hle⟩ := sp hn
  simp only at hN hle
  have hnn : rLoadN most s = v := by unfold rLoadN; rw [hN]
  have hS : rLoadS most s = rShort v (rLong most s { s with pos := s.pos + n, bits := 0 }) := by unfold rLoadS; rw [hN, hnn]
  unfold rLoad
  rw [if_pos hb, hS, hnn]
  by_cases hm : most < 0
  · rw [if_pos hm]
    have hL : rLong most s { s with pos := s.pos + n, bits := 0 } = { s with pos := s.pos + n, bits := 0, fault := errAt s.pos 6 } := by
      unfold rLong rFail
      simp [hf, hm]
    have hSh : rShort v { s with pos := s.pos + n, bits := 0, fault := errAt s.pos 6 } = { s with pos := s.pos + n, bits := 0, fault := errAt s.pos 6 } := by
      unfold rShort; rw [if_neg (by simp [errAt])]
    rw [hL, hSh, if_pos (by simp [errAt])]
    unfold rBack rFail
    simp [hf]
  · rw [if_neg hm]
    have hL : rLong most s { s with pos := s.pos + n, bits := 0 } = { s with pos := s.pos + n, bits := 0 } := by
      unfold rLong; rw [if_neg (fun h => hm h.2)]
    rw [hL]
    by_cases hv : ((s.xs.length - (s.pos + n) : Nat) : Int) < v
    · rw [if_pos hv]
      have hSh : rShort v { s with pos := s.pos + n, bits := 0 } = { s with pos := s.pos + n, bits := 0, fault := errAt s.xs.length 30 } := by
        unfold rShort rFail
        simp only
        rw [if_pos ⟨hf, hv⟩, if_pos hf]
      rw [hSh, if_pos (by simp [errAt])]
      unfold rBack rFail
      simp [hf]
    · rw [if_neg hv]
      have hSh : rShort v { s with pos := s.pos + n, bits := 0 } = { s with pos := s.pos + n, bits := 0 } := by
        unfold rShort; rw [if_neg (fun h => hv h.2)]
      rw [hSh, if_neg (by simp [hf])]
      unfold rTake
      rw [rBegin_ok (s := { s with pos := s.pos + n, bits := 0 }) hf rfl, if_pos rfl, if_neg (by simp only; omega)]

set_option maxHeartbeats 800000 in
theorem rraw_ok' {w : World} {F : Nat → Prop} {p : Nat} {s : RS} (hR : RMAt w F p s) (ok : RSok s) (fo : FOk s.fault) {most : Int} (m0 : -9223372036854775808 ≤ most) (m1 : most < 9223372036854775808) {R : VWK}
    (h : ∀ w' A' c', RMAt w' F p (rLoad most s).1 → Rd w' A' (rLoad most s).2.length 1 ((rLoad most s).2.map (Value.int .u8)) → (∀ k, fpA A' k → w.heap.size ≤ k) → Keep (fun k => k = p) w w' →
      R (.slice A' (rLoad most s).2.length c') w') :
    CallsV Tryd.prog 58 [.pointer (some ⟨p, 0, none⟩), .int .i64 most] w R := by
  have hl := ok.len
  have hle := ok.le
  have hlim0 : 0 ≤ rLim most := by unfold rLim; split <;> omega
  have hlim1 : rLim most < 18446744073709551616 := by unfold rLim; split <;> omega
  obtain ⟨sp, sz⟩ := rNum2_spec (rLim most) 6 s
  have hp0 : p < w.heap.size := hR.lt p hR.place
  refine calls_of_wpC mixed Tryd.func58 rfl (by kernel_rfl) ?_
  intro e he
  have he0 := he 0
  have he1 := he 1
  simp only [List.getD_cons_zero, List.getD_cons_succ] at he0 he1
  clear he
  rw [c_seq]
  simp -dsimp only [↓RE, RU, RL, if_true, if_false, forall_const, implies_true, Nat.reduceLeDiff, Nat.reduceLT, pureOp, binPure, intBin, strBin, eqPure, isConstO, unPure, sliceLo, sliceHi, slicePure, lenPure, minPure, maxPure, buildP, resK, endV, yieldE, ↓reduceIte, Nat.reduceEqDiff, reduceCtorEq, Nat.reduceAdd, Nat.reduceMul, Nat.reduceSub, Int.reduceLT, Int.reduceLE, Int.reduceToNat, Int.reduceAdd, Int.reduceSub, Int.reduceMul, ne_eq, decide_true, decide_false, tf58, he0, he1]
  rw [c_seq]
  simp -dsimp only [↓RE, RU, RL, if_true, if_false, forall_const, implies_true, Nat.reduceLeDiff, Nat.reduceLT, pureOp, binPure, intBin, strBin, eqPure, isConstO, unPure, sliceLo, sliceHi, slicePure, lenPure, minPure, maxPure, buildP, resK, endV, yieldE, ↓reduceIte, Nat.reduceEqDiff, reduceCtorEq, Nat.reduceAdd, Nat.reduceMul, Nat.reduceSub, Int.reduceLT, Int.reduceLE, Int.reduceToNat, Int.reduceAdd, Int.reduceSub, Int.reduceMul, ne_eq, decide_true, decide_false, tf58, he0, he1]
  refine c_seq_cut (fun e' w' => w' = w ∧ e' 0 = .pointer (some ⟨p, 0, none⟩) ∧ e' 1 = .int .i64 most ∧ e' 5 = .int .u64 (rLim most)) ?_ ?_
  · try simp -dsimp only [↓RE, ↓c_seq, RU, RL, if_true, if_false, forall_const, implies_true, Nat.reduceLeDiff, Nat.reduceLT, pureOp, binPure, intBin, strBin, eqPure, isConstO, unPure, sliceLo, sliceHi, slicePure, lenPure, minPure, maxPure, buildP, resK, endV, yieldE, ↓reduceIte, Nat.reduceEqDiff, reduceCtorEq, Nat.reduceAdd, Nat.reduceMul, Nat.reduceSub, Int.reduceLT, Int.reduceLE, Int.reduceToNat, Int.reduceAdd, Int.reduceSub, Int.reduceMul, ne_eq, decide_true, decide_false, tf58, he0, he1]
    refine ⟨fun hpos => ?_, fun hneg => ?_⟩
    · have e : rLim most = most := by unfold rLim; rw [if_pos hpos]
      have hwu : IntKind.u64.wrap most = most := by rw [wrap_u64]; omega
      try simp -dsimp only [↓RE, ↓c_seq, RU, RL, if_true, if_false, forall_const, implies_true, Nat.reduceLeDiff, Nat.reduceLT, pureOp, binPure, intBin, strBin, eqPure, isConstO, unPure, sliceLo, sliceHi, slicePure, lenPure, minPure, maxPure, buildP, resK, endV, yieldE, ↓reduceIte, Nat.reduceEqDiff, reduceCtorEq, Nat.reduceAdd, Nat.reduceMul, Nat.reduceSub, Int.reduceLT, Int.reduceLE, Int.reduceToNat, Int.reduceAdd, Int.reduceSub, Int.reduceMul, ne_eq, decide_true, decide_false, tf58, he0, he1]
      refine hold_intro ⟨rfl, ?_, ?_, ?_⟩
      · simp -dsimp only [↓RE, ↓c_seq, RU, RL, if_true, if_false, forall_const, implies_true, Nat.reduceLeDiff, Nat.reduceLT, pureOp, binPure, intBin, strBin, eqPure, isConstO, unPure, sliceLo, sliceHi, slicePure, lenPure, minPure, maxPure, buildP, resK, endV, yieldE, ↓reduceIte, Nat.reduceEqDiff, reduceCtorEq, Nat.reduceAdd, Nat.reduceMul, Nat.reduceSub, Int.reduceLT, Int.reduceLE, Int.reduceToNat, Int.reduceAdd, Int.reduceSub, Int.reduceMul, ne_eq, decide_true, decide_false, tf58, he0]
      · simp -dsimp only [↓RE, ↓c_seq, RU, RL, if_true, if_false, forall_const, implies_true, Nat.reduceLeDiff, Nat.reduceLT, pureOp, binPure, intBin, strBin, eqPure, isConstO, unPure, sliceLo, sliceHi, slicePure, lenPure, minPure, maxPure, buildP, resK, endV, yieldE, ↓reduceIte, Nat.reduceEqDiff, reduceCtorEq, Nat.reduceAdd, Nat.reduceMul, Nat.reduceSub, Int.reduceLT, Int.reduceLE, Int.reduceToNat, Int.reduceAdd, Int.reduceSub, Int.reduceMul, ne_eq, decide_true, decide_false, tf58, he1]
      · simp -dsimp only [↓RE, ↓c_seq, RU, RL, if_true, if_false, forall_const, implies_true, Nat.reduceLeDiff, Nat.reduceLT, pureOp, binPure, intBin, strBin, eqPure, isConstO, unPure, sliceLo, sliceHi, slicePure, lenPure, minPure, maxPure, buildP, resK, endV, yieldE, ↓reduceIte, Nat.reduceEqDiff, reduceCtorEq, Nat.reduceAdd, Nat.reduceMul, Nat.reduceSub, Int.reduceLT, Int.reduceLE, Int.reduceToNat, Int.reduceAdd, Int.reduceSub, Int.reduceMul, ne_eq, decide_true, decide_false, tf58, he1, hwu, e]
    · have e : rLim most = 0 := by unfold rLim; rw [if_neg hneg]
      try simp -dsimp only [↓RE, ↓c_seq, RU, RL, if_true, if_false, forall_const, implies_true, Nat.reduceLeDiff, Nat.reduceLT, pureOp, binPure, intBin, strBin, eqPure, isConstO, unPure, sliceLo, sliceHi, slicePure, lenPure, minPure, maxPure, buildP, resK, endV, yieldE, ↓reduceIte, Nat.reduceEqDiff, reduceCtorEq, Nat.reduceAdd, Nat.reduceMul, Nat.reduceSub, Int.reduceLT, Int.reduceLE, Int.reduceToNat, Int.reduceAdd, Int.reduceSub, Int.reduceMul, ne_eq, decide_true, decide_false, tf58, he0, he1]
      refine hold_intro ⟨rfl, ?_, ?_, ?_⟩
      · simp -dsimp only [↓RE, ↓c_seq, RU, RL, if_true, if_false, forall_const, implies_true, Nat.reduceLeDiff, Nat.reduceLT, pureOp, binPure, intBin, strBin, eqPure, isConstO, unPure, sliceLo, sliceHi, slicePure, lenPure, minPure, maxPure, buildP, resK, endV, yieldE, ↓reduceIte, Nat.reduceEqDiff, reduceCtorEq, Nat.reduceAdd, Nat.reduceMul, Nat.reduceSub, Int.reduceLT, Int.reduceLE, Int.reduceToNat, Int.reduceAdd, Int.reduceSub, Int.reduceMul, ne_eq, decide_true, decide_false, tf58, he0]
      · simp -dsimp only [↓RE, ↓c_seq, RU, RL, if_true, if_false, forall_const, implies_true, Nat.reduceLeDiff, Nat.reduceLT, pureOp, binPure, intBin, strBin, eqPure, isConstO, unPure, sliceLo, sliceHi, slicePure, lenPure, minPure, maxPure, buildP, resK, endV, yieldE, ↓reduceIte, Nat.reduceEqDiff, reduceCtorEq, Nat.reduceAdd, Nat.reduceMul, Nat.reduceSub, Int.reduceLT, Int.reduceLE, Int.reduceToNat, Int.reduceAdd, Int.reduceSub, Int.reduceMul, ne_eq, decide_true, decide_false, tf58, he1]
      · simp -dsimp only [↓RE, ↓c_seq, RU, RL, if_true, if_false, forall_const, implies_true, Nat.reduceLeDiff, Nat.reduceLT, pureOp, binPure, intBin, strBin, eqPure, isConstO, unPure, sliceLo, sliceHi, slicePure, lenPure, minPure, maxPure, buildP, resK, endV, yieldE, ↓reduceIte, Nat.reduceEqDiff, reduceCtorEq, Nat.reduceAdd, Nat.reduceMul, Nat.reduceSub, Int.reduceLT, Int.reduceLE, Int.reduceToNat, Int.reduceAdd, Int.reduceSub, Int.reduceMul, ne_eq, decide_true, decide_false, tf58, he1, e]
  rintro e w' ⟨rfl, he0, he1, he5⟩
  try simp -dsimp only [↓RE, ↓c_seq, RU, RL, if_true, if_false, forall_const, implies_true, Nat.reduceLeDiff, Nat.reduceLT, pureOp, binPure, intBin, strBin, eqPure, isConstO, unPure, sliceLo, sliceHi, slicePure, lenPure, minPure, maxPure, buildP, resK, endV, yieldE, ↓reduceIte, Nat.reduceEqDiff, reduceCtorEq, Nat.reduceAdd, Nat.reduceMul, Nat.reduceSub, Int.reduceLT, Int.reduceLE, Int.reduceToNat, Int.reduceAdd, Int.reduceSub, Int.reduceMul, ne_eq, decide_true, decide_false, tf58, he0, he1, he5]
  refine rrnumber_ok hR ok fo hlim0 (by decide) (fun w1 hR1 k1 => ?_)
  cases hn : (rNum2 (rLim most) 6 s).2.2 with
  | zero =>
    have hld := rLoad_none hn
    obtain ⟨_, hv0, hf, _, _⟩ := sz hn
    rw [hld] at h
    have fo1 : FOk (rNum2 (rLim most) 6 s).1.fault := by
      unfold rNum2
      split
      · split
        · rename_i i er hsc
          exact fo.fail (FOk.err (scan_err hsc))
        · split
          · exact fo.fail (FOk.err (by decide))
          · exact fo
      · exact (rBegin_fok fo)
    have hc3 : ∀ {w2 : World}, Grow w1 w2 → w2.cell? ⟨p, 3, none⟩ = some (.int .i64 (badF (rNum2 (rLim most) 6 s).1.fault).code) := fun g => by
      obtain ⟨A, c, hB, _⟩ := hR1.grow g
      exact hB.cell 3
    have hcd : decide ((badF (rNum2 (rLim most) 6 s).1.fault).code = 0) = false := by rw [decide_eq_false_iff_not]; exact fun h => hf (fo1.code.1 h)
    try simp -dsimp only [↓RE, ↓c_seq, RU, RL, if_true, if_false, forall_const, implies_true, Nat.reduceLeDiff, Nat.reduceLT, pureOp, binPure, intBin, strBin, eqPure, isConstO, unPure, sliceLo, sliceHi, slicePure, lenPure, minPure, maxPure, buildP, resK, endV, yieldE, ↓reduceIte, Nat.reduceEqDiff, reduceCtorEq, Nat.reduceAdd, Nat.reduceMul, Nat.reduceSub, Int.reduceLT, Int.reduceLE, Int.reduceToNat, Int.reduceAdd, Int.reduceSub, Int.reduceMul, ne_eq, decide_true, decide_false, tf58, he0, he1, he5, undef, Int.cast_ofNat_Int]
    refine wpDraw_still (by kernel_rfl) ?_
    have hc3d := hc3 (Grow.drew w1)
    try simp -dsimp only [↓RE, ↓c_seq, RU, RL, if_true, if_false, forall_const, implies_true, Nat.reduceLeDiff, Nat.reduceLT, pureOp, binPure, intBin, strBin, eqPure, isConstO, unPure, sliceLo, sliceHi, slicePure, lenPure, minPure, maxPure, buildP, resK, endV, yieldE, ↓reduceIte, Nat.reduceEqDiff, reduceCtorEq, Nat.reduceAdd, Nat.reduceMul, Nat.reduceSub, Int.reduceLT, Int.reduceLE, Int.reduceToNat, Int.reduceAdd, Int.reduceSub, Int.reduceMul, ne_eq, decide_true, decide_false, tf58, he0, he1, he5, undef, hc3d, hcd]
    exact h w1.drew none 0 (hR1.grow (Grow.drew w1)) (Rd.nil _ _ _) (fun k hk => absurd hk (by rintro ⟨ad, e, _⟩; cases e)) (k1.then_grow (Grow.drew w1))
  | succ m =>
    obtain ⟨hbg, hs1, hf, hN, hposle⟩ := sp (by omega)
    generalize hv : (rNum2 (rLim most) 6 s).2.1 = v at *
    have hq : rNum2 (rLim most) 6 s = (s, v, m + 1) := Prod.ext hs1 (Prod.ext hv hn)
    rw [hs1] at hR1
    have hld := rLoad_some hq (by omega)
    have hvr := rNumber_range ok (rLim most) 6
    rw [hN] at hvr
    simp only at hvr
    rw [hn] at hposle
    have hmx : s.pos + (m + 1) ≤ s.xs.length := by omega
    rw [hld] at h
    have hfn : (badF s.fault).code = 0 := fo.code.2 hf
    have hR1' := hR1
    obtain ⟨A, c, hB, hRd, hp, hc, hF⟩ := hR1'
    have hc1 : w1.cell? ⟨p, 1, none⟩ = some (.int .i64 s.pos) := hB.cell 1
    have hnd : decide (0 < ((m + 1 : Nat) : Int)) = true := by rw [decide_eq_true_iff]; omega
    by_cases hm : most < 0
    · rw [if_pos hm] at h
      have hmd : decide (most < 0) = true := decide_eq_true hm
      try simp -dsimp only [↓RE, ↓c_seq, RU, RL, if_true, if_false, forall_const, implies_true, Nat.reduceLeDiff, Nat.reduceLT, pureOp, binPure, intBin, strBin, eqPure, isConstO, unPure, sliceLo, sliceHi, slicePure, lenPure, minPure, maxPure, buildP, resK, endV, yieldE, ↓reduceIte, Nat.reduceEqDiff, reduceCtorEq, Nat.reduceAdd, Nat.reduceMul, Nat.reduceSub, Int.reduceLT, Int.reduceLE, Int.reduceToNat, Int.reduceAdd, Int.reduceSub, Int.reduceMul, ne_eq, decide_true, decide_false, tf58, he0, he1, he5, hmd, hnd, hc1]
      refine rat_ok (c := 6) (by decide) (fun w2 g2 => ?_)
      try simp -dsimp only [↓RE, ↓c_seq, RU, RL, if_true, if_false, forall_const, implies_true, Nat.reduceLeDiff, Nat.reduceLT, pureOp, binPure, intBin, strBin, eqPure, isConstO, unPure, sliceLo, sliceHi, slicePure, lenPure, minPure, maxPure, buildP, resK, endV, yieldE, ↓reduceIte, Nat.reduceEqDiff, reduceCtorEq, Nat.reduceAdd, Nat.reduceMul, Nat.reduceSub, Int.reduceLT, Int.reduceLE, Int.reduceToNat, Int.reduceAdd, Int.reduceSub, Int.reduceMul, ne_eq, decide_true, decide_false, tf58, he0, he1, he5, hmd, hnd]
      refine rrfail_ok (er := errAt s.pos 6) (hR1.grow g2) fo (fun w3 hR3 k3 => ?_)
      have hc3 : w3.drew.cell? ⟨p, 3, none⟩ = some (.int .i64 6) := by
        obtain ⟨A, c, hB, _⟩ := hR3.grow (Grow.drew w3)
        rw [rFail_set hf] at hB
        exact hB.cell 3
      try simp -dsimp only [↓RE, ↓c_seq, RU, RL, if_true, if_false, forall_const, implies_true, Nat.reduceLeDiff, Nat.reduceLT, pureOp, binPure, intBin, strBin, eqPure, isConstO, unPure, sliceLo, sliceHi, slicePure, lenPure, minPure, maxPure, buildP, resK, endV, yieldE, ↓reduceIte, Nat.reduceEqDiff, reduceCtorEq, Nat.reduceAdd, Nat.reduceMul, Nat.reduceSub, Int.reduceLT, Int.reduceLE, Int.reduceToNat, Int.reduceAdd, Int.reduceSub, Int.reduceMul, ne_eq, decide_true, decide_false, tf58, he0, he1, he5, hmd, hnd]
      refine wpDraw_still (by kernel_rfl) ?_
      try simp -dsimp only [↓RE, ↓c_seq, RU, RL, if_true, if_false, forall_const, implies_true, Nat.reduceLeDiff, Nat.reduceLT, pureOp, binPure, intBin, strBin, eqPure, isConstO, unPure, sliceLo, sliceHi, slicePure, lenPure, minPure, maxPure, buildP, resK, endV, yieldE, ↓reduceIte, Nat.reduceEqDiff, reduceCtorEq, Nat.reduceAdd, Nat.reduceMul, Nat.reduceSub, Int.reduceLT, Int.reduceLE, Int.reduceToNat, Int.reduceAdd, Int.reduceSub, Int.reduceMul, ne_eq, decide_true, decide_false, tf58, he0, he1, he5, hmd, hnd, hc3, undef, Int.reduceEq]
      exact h w3.drew none 0 (hR3.grow (Grow.drew w3)) (Rd.nil _ _ _) (fun k hk => absurd hk (by rintro ⟨ad, e, _⟩; cases e)) (((k1.then_grow g2).trans k3 (H := fun k => k = p) (fun _ _ h => h) (fun _ _ h => h)).then_grow (Grow.drew w3))
    · rw [if_neg hm] at h
      have hmd : decide (most < 0) = false := decide_eq_false hm
      obtain ⟨V, rfl⟩ : ∃ V : Nat, v = (V : Int) := ⟨v.toNat, by omega⟩
      rw [Int.toNat_natCast] at h
      have hR2 := hR1.grow (Grow.drew w1)
      have hB2 := hB.drew
      have hd0 : w1.drew.cell? ⟨p, 0, none⟩ = some (.slice A s.xs.length c) := hB2.cell 0
      have hd1 : w1.drew.cell? ⟨p, 1, none⟩ = some (.int .i64 s.pos) := hB2.cell 1
      have hd3 : w1.drew.cell? ⟨p, 3, none⟩ = some (.int .i64 (badF s.fault).code) := hB2.cell 3
      have w1a : IntKind.i64.wrap ((s.xs.length : Int) - (s.pos : Int)) = ((s.xs.length - s.pos : Nat) : Int) := by rw [wrap_i64_in (by omega) (by omega)]; omega
      have w1b : IntKind.i64.wrap (((s.xs.length - s.pos : Nat) : Int) - ((m + 1 : Nat) : Int)) = ((s.xs.length - (s.pos + (m + 1)) : Nat) : Int) := by rw [wrap_i64_in (by omega) (by omega)]; omega
      have w1c : IntKind.u64.wrap ((s.xs.length - (s.pos + (m + 1)) : Nat) : Int) = ((s.xs.length - (s.pos + (m + 1)) : Nat) : Int) := by rw [wrap_u64]; omega
      try simp -dsimp only [↓RE, ↓c_seq, RU, RL, if_true, if_false, forall_const, implies_true, Nat.reduceLeDiff, Nat.reduceLT, pureOp, binPure, intBin, strBin, eqPure, isConstO, unPure, sliceLo, sliceHi, slicePure, lenPure, minPure, maxPure, buildP, resK, endV, yieldE, ↓reduceIte, Nat.reduceEqDiff, reduceCtorEq, Nat.reduceAdd, Nat.reduceMul, Nat.reduceSub, Int.reduceLT, Int.reduceLE, Int.reduceToNat, Int.reduceAdd, Int.reduceSub, Int.reduceMul, ne_eq, decide_true, decide_false, tf58, he0, he1, he5, hmd, hnd]
      refine wpDraw_still (by kernel_rfl) ?_
      try simp -dsimp only [↓RE, ↓c_seq, RU, RL, if_true, if_false, forall_const, implies_true, Nat.reduceLeDiff, Nat.reduceLT, pureOp, binPure, intBin, strBin, eqPure, isConstO, unPure, sliceLo, sliceHi, slicePure, lenPure, minPure, maxPure, buildP, resK, endV, yieldE, ↓reduceIte, Nat.reduceEqDiff, reduceCtorEq, Nat.reduceAdd, Nat.reduceMul, Nat.reduceSub, Int.reduceLT, Int.reduceLE, Int.reduceToNat, Int.reduceAdd, Int.reduceSub, Int.reduceMul, ne_eq, decide_true, decide_false, tf58, he0, he1, he5, hmd, hnd, hd0, hd1, hd3, hfn, w1a, w1b, w1c, undef]
      refine ⟨fun hgt => ?_, fun hng => ?_⟩
      · rw [if_pos hgt] at h
        try simp -dsimp only [↓RE, ↓c_seq, RU, RL, if_true, if_false, forall_const, implies_true, Nat.reduceLeDiff, Nat.reduceLT, pureOp, binPure, intBin, strBin, eqPure, isConstO, unPure, sliceLo, sliceHi, slicePure, lenPure, minPure, maxPure, buildP, resK, endV, yieldE, ↓reduceIte, Nat.reduceEqDiff, reduceCtorEq, Nat.reduceAdd, Nat.reduceMul, Nat.reduceSub, Int.reduceLT, Int.reduceLE, Int.reduceToNat, Int.reduceAdd, Int.reduceSub, Int.reduceMul, ne_eq, decide_true, decide_false, tf58, he0, he1, he5, hd0]
        refine rat_ok (c := 30) (by decide) (fun w2 g2 => ?_)
        try simp -dsimp only [↓RE, ↓c_seq, RU, RL, if_true, if_false, forall_const, implies_true, Nat.reduceLeDiff, Nat.reduceLT, pureOp, binPure, intBin, strBin, eqPure, isConstO, unPure, sliceLo, sliceHi, slicePure, lenPure, minPure, maxPure, buildP, resK, endV, yieldE, ↓reduceIte, Nat.reduceEqDiff, reduceCtorEq, Nat.reduceAdd, Nat.reduceMul, Nat.reduceSub, Int.reduceLT, Int.reduceLE, Int.reduceToNat, Int.reduceAdd, Int.reduceSub, Int.reduceMul, ne_eq, decide_true, decide_false, tf58, he0, he1, he5]
        refine rrfail_ok (er := errAt s.xs.length 30) (hR2.grow g2) fo (fun w3 hR3 k3 => ?_)
        have hc3 : w3.cell? ⟨p, 3, none⟩ = some (.int .i64 30) := by
          obtain ⟨A, c, hB, _⟩ := hR3
          rw [rFail_set hf] at hB
          exact hB.cell 3
        try simp -dsimp only [↓RE, ↓c_seq, RU, RL, if_true, if_false, forall_const, implies_true, Nat.reduceLeDiff, Nat.reduceLT, pureOp, binPure, intBin, strBin, eqPure, isConstO, unPure, sliceLo, sliceHi, slicePure, lenPure, minPure, maxPure, buildP, resK, endV, yieldE, ↓reduceIte, Nat.reduceEqDiff, reduceCtorEq, Nat.reduceAdd, Nat.reduceMul, Nat.reduceSub, Int.reduceLT, Int.reduceLE, Int.reduceToNat, Int.reduceAdd, Int.reduceSub, Int.reduceMul, ne_eq, decide_true, decide_false, tf58, he0, he1, he5, hc3, Int.reduceEq]
        exact h w3 none 0 hR3 (Rd.nil _ _ _) (fun k hk => absurd hk (by rintro ⟨ad, e, _⟩; cases e)) ((((k1.then_grow (Grow.drew w1))).then_grow g2).trans k3 (H := fun k => k = p) (fun _ _ h => h) (fun _ _ h => h))
      · rw [if_neg hng] at h
        have hB3 := hB2.drew
        have hx0 : w1.drew.drew.cell? ⟨p, 0, none⟩ = some (.slice A s.xs.length c) := hB3.cell 0
        have hx1 : w1.drew.drew.cell? ⟨p, 1, none⟩ = some (.int .i64 s.pos) := hB3.cell 1
        have q1 : IntKind.i64.wrap ((s.pos : Int) + ((m + 1 : Nat) : Int)) = ((s.pos + (m + 1) : Nat) : Int) := by rw [wrap_i64_in (by omega) (by omega)]; omega
        have q2 : IntKind.i64.wrap (V : Int) = (V : Int) := wrap_i64_in (by omega) (by omega)
        have q3 : IntKind.i64.wrap (((s.pos + (m + 1) : Nat) : Int) + (V : Int)) = ((s.pos + (m + 1) + V : Nat) : Int) := by rw [wrap_i64_in (by omega) (by omega)]; omega
        have q4 : IntKind.i64.wrap (((m + 1 : Nat) : Int) + (V : Int)) = ((m + 1 + V : Nat) : Int) := by rw [wrap_i64_in (by omega) (by omega)]; omega
        have q5 : IntKind.i64.wrap ((s.pos : Int) + ((m + 1 + V : Nat) : Int)) = ((s.pos + (m + 1) + V : Nat) : Int) := by rw [wrap_i64_in (by omega) (by omega)]; omega
        have q6 : s.pos + (m + 1) + V - (s.pos + (m + 1)) = V := by omega
        have hRd3 : Rd w1.drew.drew A s.xs.length 1 (s.xs.map (Value.int .u8)) := hRd.drew.drew
        have hcut := hRd3.cut (k := s.pos + (m + 1)) (m := s.pos + (m + 1) + V) (cap := c) (by omega) (by omega) hc
        have hdc : ((s.xs.map (Value.int .u8)).drop ((s.pos + (m + 1)) * 1)).take ((s.pos + (m + 1) + V - (s.pos + (m + 1))) * 1) = ((s.xs.drop (s.pos + (m + 1))).take V).map (Value.int .u8) := by
          rw [Nat.mul_one, Nat.mul_one, ← List.map_drop, ← List.map_take, q6]
        rw [hdc] at hcut
        simp only [Nat.mul_one, q6] at hcut
        have hZl : ((s.xs.drop (s.pos + (m + 1))).take V).length = V := by rw [List.length_take, List.length_drop]; omega
        rw [hZl] at h
        have hfd : decide ((badF s.fault).code = 0) = true := decide_eq_true hfn
        try simp -dsimp only [↓RE, ↓c_seq, RU, RL, if_true, if_false, forall_const, implies_true, Nat.reduceLeDiff, Nat.reduceLT, pureOp, binPure, intBin, strBin, eqPure, isConstO, unPure, sliceLo, sliceHi, slicePure, lenPure, minPure, maxPure, buildP, resK, endV, yieldE, ↓reduceIte, Nat.reduceEqDiff, reduceCtorEq, Nat.reduceAdd, Nat.reduceMul, Nat.reduceSub, Int.reduceLT, Int.reduceLE, Int.reduceToNat, Int.reduceAdd, Int.reduceSub, Int.reduceMul, ne_eq, decide_true, decide_false, tf58, he0, he1, he5, hd3, hfn]
        refine wpDraw_by (fun w => w.cell? ⟨p, 0, none⟩ = some (.slice A s.xs.length c) ∧ w.cell? ⟨p, 1, none⟩ = some (.int .i64 s.pos)) [(0, true), (1, true), (2, true), (3, true), (4, true), (5, true), (6, true), (7, true), (8, true), (9, true), (10, true), (11, true), (12, true), (13, true), (14, true), (15, true), (16, true), (17, true), (18, true), (19, true), (20, true), (21, false), (22, true)] (by kernel_rfl) ⟨hx0, hx1⟩ ?_
        simp only [planL, List.getElem?_toArray, List.getElem?_cons_zero, List.getElem?_cons_succ, Option.toList_some, List.map_cons, List.map_nil, List.cons_append, List.nil_append]
        try simp -dsimp only [↓RE, ↓c_seq, RU, RL, if_true, if_false, forall_const, implies_true, Nat.reduceLeDiff, Nat.reduceLT, pureOp, binPure, intBin, strBin, eqPure, isConstO, unPure, sliceLo, sliceHi, slicePure, lenPure, minPure, maxPure, buildP, resK, endV, yieldE, ↓reduceIte, Nat.reduceEqDiff, reduceCtorEq, Nat.reduceAdd, Nat.reduceMul, Nat.reduceSub, Int.reduceLT, Int.reduceLE, Int.reduceToNat, Int.reduceAdd, Int.reduceSub, Int.reduceMul, ne_eq, decide_true, decide_false, tf58, he0, he1, he5]
        refine ⟨_, fun w' hS => hS.1, ?_⟩
        try simp -dsimp only [↓RE, ↓c_seq, RU, RL, if_true, if_false, forall_const, implies_true, Nat.reduceLeDiff, Nat.reduceLT, pureOp, binPure, intBin, strBin, eqPure, isConstO, unPure, sliceLo, sliceHi, slicePure, lenPure, minPure, maxPure, buildP, resK, endV, yieldE, ↓reduceIte, Nat.reduceEqDiff, reduceCtorEq, Nat.reduceAdd, Nat.reduceMul, Nat.reduceSub, Int.reduceLT, Int.reduceLE, Int.reduceToNat, Int.reduceAdd, Int.reduceSub, Int.reduceMul, ne_eq, decide_true, decide_false, tf58, he0, he1, he5]
        refine ⟨_, fun w' hS => hS.2, ?_⟩
        try simp -dsimp only [↓RE, ↓c_seq, RU, RL, if_true, if_false, forall_const, implies_true, Nat.reduceLeDiff, Nat.reduceLT, pureOp, binPure, intBin, strBin, eqPure, isConstO, unPure, sliceLo, sliceHi, slicePure, lenPure, minPure, maxPure, buildP, resK, endV, yieldE, ↓reduceIte, Nat.reduceEqDiff, reduceCtorEq, Nat.reduceAdd, Nat.reduceMul, Nat.reduceSub, Int.reduceLT, Int.reduceLE, Int.reduceToNat, Int.reduceAdd, Int.reduceSub, Int.reduceMul, ne_eq, decide_true, decide_false, tf58, he0, he1, he5, q1]
        refine ⟨_, fun w' hS => hS.2, ?_⟩
        try simp -dsimp only [↓RE, ↓c_seq, RU, RL, if_true, if_false, forall_const, implies_true, Nat.reduceLeDiff, Nat.reduceLT, pureOp, binPure, intBin, strBin, eqPure, isConstO, unPure, sliceLo, sliceHi, slicePure, lenPure, minPure, maxPure, buildP, resK, endV, yieldE, ↓reduceIte, Nat.reduceEqDiff, reduceCtorEq, Nat.reduceAdd, Nat.reduceMul, Nat.reduceSub, Int.reduceLT, Int.reduceLE, Int.reduceToNat, Int.reduceAdd, Int.reduceSub, Int.reduceMul, ne_eq, decide_true, decide_false, tf58, he0, he1, he5, q1, q2, q3, Int.toNat_natCast, q6]
        refine ⟨⟨by omega, by omega, by omega⟩, ?_⟩
        try simp -dsimp only [↓RE, ↓c_seq, RU, RL, if_true, if_false, forall_const, implies_true, Nat.reduceLeDiff, Nat.reduceLT, pureOp, binPure, intBin, strBin, eqPure, isConstO, unPure, sliceLo, sliceHi, slicePure, lenPure, minPure, maxPure, buildP, resK, endV, yieldE, ↓reduceIte, Nat.reduceEqDiff, reduceCtorEq, Nat.reduceAdd, Nat.reduceMul, Nat.reduceSub, Int.reduceLT, Int.reduceLE, Int.reduceToNat, Int.reduceAdd, Int.reduceSub, Int.reduceMul, ne_eq, decide_true, decide_false, tf58, he0, he1, he5, q1, q2, q3, Int.toNat_natCast, q6]
        refine appK_own (bytes := 1) (by kernel_rfl) (own_nil w1.drew.drew 5 1) hcut (ints_one _ _) (by simp only [maxLen]; omega) (by omega) (fun A' c' w4 hO4 hK4 hF4 => ?_)
        have hO4 : w4.ownsRow 0 5 1 (.slice A' V c') V (((s.xs.drop (s.pos + (m + 1))).take V).map (Value.int .u8)) := by simpa only [Nat.zero_add, List.nil_append] using hO4
        have k4 : Grow w1.drew.drew w4 := hK4.mono (fun i _ hf => absurd hf (fpV_none i))
        have hF4 : ∀ k, fpA A' k → k = w1.heap.size := fun k hk => (hF4 k (by rw [Nat.zero_add, fpV_fpA]; exact hk)).elim (fun h => absurd h (fpV_none k)) id
        have hB4 := hB3.grow k4
        have hy1 : w4.cell? ⟨p, 1, none⟩ = some (.int .i64 s.pos) := hB4.cell 1
        try simp -dsimp only [↓RE, ↓c_seq, RU, RL, if_true, if_false, forall_const, implies_true, Nat.reduceLeDiff, Nat.reduceLT, pureOp, binPure, intBin, strBin, eqPure, isConstO, unPure, sliceLo, sliceHi, slicePure, lenPure, minPure, maxPure, buildP, resK, endV, yieldE, ↓reduceIte, Nat.reduceEqDiff, reduceCtorEq, Nat.reduceAdd, Nat.reduceMul, Nat.reduceSub, Int.reduceLT, Int.reduceLE, Int.reduceToNat, Int.reduceAdd, Int.reduceSub, Int.reduceMul, ne_eq, decide_true, decide_false, tf58, he0, he1, he5, q1, q2, q3]
        refine ⟨⟨hB4.cell 0, hy1⟩, ?_⟩
        try simp -dsimp only [↓RE, ↓c_seq, RU, RL, if_true, if_false, forall_const, implies_true, Nat.reduceLeDiff, Nat.reduceLT, pureOp, binPure, intBin, strBin, eqPure, isConstO, unPure, sliceLo, sliceHi, slicePure, lenPure, minPure, maxPure, buildP, resK, endV, yieldE, ↓reduceIte, Nat.reduceEqDiff, reduceCtorEq, Nat.reduceAdd, Nat.reduceMul, Nat.reduceSub, Int.reduceLT, Int.reduceLE, Int.reduceToNat, Int.reduceAdd, Int.reduceSub, Int.reduceMul, ne_eq, decide_true, decide_false, tf58, he0, he1, he5, q1, q2, q3, q4, q5, hy1]
        refine hB4.st (i := 1) (by simp [BadV.cells]) ?_
        have hB5 := hB4.set 1 (.int .i64 (s.pos + (m + 1) + V : Nat))
        have k5 := Keep.set1 w4 p 1 (.int .i64 (s.pos + (m + 1) + V : Nat))
        try simp -dsimp only [↓RE, ↓c_seq, RU, RL, if_true, if_false, forall_const, implies_true, Nat.reduceLeDiff, Nat.reduceLT, pureOp, binPure, intBin, strBin, eqPure, isConstO, unPure, sliceLo, sliceHi, slicePure, lenPure, minPure, maxPure, buildP, resK, endV, yieldE, ↓reduceIte, Nat.reduceEqDiff, reduceCtorEq, Nat.reduceAdd, Nat.reduceMul, Nat.reduceSub, Int.reduceLT, Int.reduceLE, Int.reduceToNat, Int.reduceAdd, Int.reduceSub, Int.reduceMul, ne_eq, decide_true, decide_false, tf58, he0, he1, he5]
        refine hB5.st (i := 2) (by simp [BadV.cells]) ?_
        have hB6 := hB5.set 2 (.int .i64 0)
        have k6 := k5.trans (Keep.set1 _ p 2 (.int .i64 0)) (H := fun k => k = p) (fun _ _ h => h) (fun _ _ h => h)
        have hpw1 : p < w1.heap.size := hB.lt
        have hO6 := own_keep hO4 k6 (fun k hk e => by rw [fpV_fpA] at hk; have := hF4 k hk; omega)
        have hRd6 := ((hRd3.grow k4).keep0 k6 (fun h0 k hk e => hp h0 (e ▸ hk)))
        try simp -dsimp only [↓RE, ↓c_seq, RU, RL, if_true, if_false, forall_const, implies_true, Nat.reduceLeDiff, Nat.reduceLT, pureOp, binPure, intBin, strBin, eqPure, isConstO, unPure, sliceLo, sliceHi, slicePure, lenPure, minPure, maxPure, buildP, resK, endV, yieldE, ↓reduceIte, Nat.reduceEqDiff, reduceCtorEq, Nat.reduceAdd, Nat.reduceMul, Nat.reduceSub, Int.reduceLT, Int.reduceLE, Int.reduceToNat, Int.reduceAdd, Int.reduceSub, Int.reduceMul, ne_eq, decide_true, decide_false, tf58, he0, he1, he5, Nat.zero_add]
        exact h _ A' c' ⟨A, c, by simpa using hB6, hRd6, hp, hc, hF⟩ (Rd.of_own hO6) (fun k hk => by have := hF4 k hk; have := k1.size; omega) ((((k1.then_grow (Grow.drew w1)).then_grow (Grow.drew _)).then_grow k4).trans k6 (H := fun k => k = p) (fun _ _ h => h) (fun _ _ h => h))

theorem rLoad_len' {m : Int} {s : RS} (ok : RSok s) : (rLoad m s).2.length ≤ s.xs.length := by
  have t : ∀ (n : Nat) (q : RS), (rTake n q).2.length ≤ q.xs.length := fun n q => by
    unfold rTake
    split
    · split
      · simp
      · rw [List.length_take, List.length_drop]; omega
    · simp
  unfold rLoad
  split
  · split
    · simp
    · have := t (rLoadN m s).toNat (rLoadS m s)
      rw [rLoadS_xs] at this
      exact this
  · simp
theorem rrtext_ok {w : World} {F : Nat → Prop} {p : Nat} {s : RS} (hR : RMAt w F p s) (ok : RSok s) (fo : FOk s.fault) {most : Int} (m0 : -9223372036854775808 ≤ most) (m1 : most < 9223372036854775808) {R : VWK}
    (h : ∀ w', RMAt w' F p (rLoad most s).1 → Keep (fun k => k = p) w w' → R (.string (strOfNums (rLoad most s).2)) w') :
    CallsV Tryd.prog 57 [.pointer (some ⟨p, 0, none⟩), .int .i64 most] w R := by
  refine calls_of_wpC mixed Tryd.func57 rfl (by kernel_rfl) ?_
  intro e he
  have he0 := he 0
  have he1 := he 1
  simp only [List.getD_cons_zero, List.getD_cons_succ] at he0 he1
  clear he
  try simp -dsimp only [↓RE, ↓c_seq, RU, RL, if_true, if_false, forall_const, implies_true, Nat.reduceLeDiff, Nat.reduceLT, pureOp, binPure, intBin, strBin, eqPure, isConstO, unPure, sliceLo, sliceHi, slicePure, lenPure, minPure, maxPure, buildP, resK, endV, yieldE, ↓reduceIte, Nat.reduceEqDiff, reduceCtorEq, Nat.reduceAdd, Nat.reduceMul, Nat.reduceSub, Int.reduceLT, Int.reduceLE, Int.reduceToNat, Int.reduceAdd, Int.reduceSub, Int.reduceMul, ne_eq, decide_true, decide_false, tf57, he0, he1]
  refine rraw_ok' hR ok fo m0 m1 (fun w1 A1 c1 hR1 hRd1 _ k1 => ?_)
  try simp -dsimp only [↓RE, ↓c_seq, RU, RL, if_true, if_false, forall_const, implies_true, Nat.reduceLeDiff, Nat.reduceLT, pureOp, binPure, intBin, strBin, eqPure, isConstO, unPure, sliceLo, sliceHi, slicePure, lenPure, minPure, maxPure, buildP, resK, endV, yieldE, ↓reduceIte, Nat.reduceEqDiff, reduceCtorEq, Nat.reduceAdd, Nat.reduceMul, Nat.reduceSub, Int.reduceLT, Int.reduceLE, Int.reduceToNat, Int.reduceAdd, Int.reduceSub, Int.reduceMul, ne_eq, decide_true, decide_false, tf57, he0]
  refine genK_totext rfl Tryd.underlying23 Tryd.underlying5 Tryd.underlying9 (A := A1) (n := (rLoad most s).2.length) (c := c1) (xs := (rLoad most s).2) (by simp -dsimp only [↓RE, ↓c_seq, RU, RL, if_true, if_false, forall_const, implies_true, Nat.reduceLeDiff, Nat.reduceLT, pureOp, binPure, intBin, strBin, eqPure, isConstO, unPure, sliceLo, sliceHi, slicePure, lenPure, minPure, maxPure, buildP, resK, endV, yieldE, ↓reduceIte, Nat.reduceEqDiff, reduceCtorEq, Nat.reduceAdd, Nat.reduceMul, Nat.reduceSub, Int.reduceLT, Int.reduceLE, Int.reduceToNat, Int.reduceAdd, Int.reduceSub, Int.reduceMul, ne_eq, decide_true, decide_false, tf57, he0]) hRd1 ?_
  try simp -dsimp only [↓RE, ↓c_seq, RU, RL, if_true, if_false, forall_const, implies_true, Nat.reduceLeDiff, Nat.reduceLT, pureOp, binPure, intBin, strBin, eqPure, isConstO, unPure, sliceLo, sliceHi, slicePure, lenPure, minPure, maxPure, buildP, resK, endV, yieldE, ↓reduceIte, Nat.reduceEqDiff, reduceCtorEq, Nat.reduceAdd, Nat.reduceMul, Nat.reduceSub, Int.reduceLT, Int.reduceLE, Int.reduceToNat, Int.reduceAdd, Int.reduceSub, Int.reduceMul, ne_eq, decide_true, decide_false, tf57, he0]
  exact h w1 hR1 k1

end Go.Proofs.YtcjlhfmjcioeeaaDoor
