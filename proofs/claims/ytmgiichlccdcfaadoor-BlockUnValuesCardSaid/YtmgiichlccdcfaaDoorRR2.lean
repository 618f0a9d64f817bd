
/- The document's Reader: numbers, bytes, texts. -/
import Derived.Test.YtmgiichlccdcfaaDoorRR
set_option linter.unusedVariables false
set_option linter.unusedSimpArgs false
set_option maxRecDepth 100000
namespace Go.Proofs.YtmgiichlccdcfaaDoor
open Go

/-- a number that is looked at, and how many bytes it has; nothing moves. -/
def rNum2 (most above : Int) (s : RS) : RS × Int × Nat :=
  if (rBegin s).2 then match scan (s.xs.drop s.pos) 0 0 s.pos with
    | .error (i, e) => (rFail s (errAt i e), 0, 0)
    | .ok (v, i) => if most < v then (rFail s (errAt s.pos above), 0, 0) else (s, v, i - s.pos)
  else ((rBegin s).1, 0, 0)
theorem rFail_pos (s : RS) (e : Option (TypeId × Value)) : (rFail s e).pos = s.pos ∧ (rFail s e).bits = s.bits := by unfold rFail; split <;> exact ⟨rfl, rfl⟩
theorem rBegin_pos (s : RS) : (rBegin s).1.pos = s.pos ∧ (rBegin s).1.bits = s.bits := by
  unfold rBegin; split
  · exact ⟨rfl, rfl⟩
  split
  · exact rFail_pos _ _
  · exact ⟨rfl, rfl⟩
theorem rFail_err' (s : RS) (p : Nat) (e : Int) : (rFail s (errAt p e)).fault ≠ none := by
  unfold rFail; split
  · simp [errAt]
  · assumption
theorem rBegin_bad {s : RS} (h : ¬ (rBegin s).2 = true) : (rBegin s).1.fault ≠ none := by
  unfold rBegin at h ⊢
  split
  · assumption
  · rename_i h0
    split
    · exact rFail_err' _ _ _
    · rename_i h1
      rw [if_neg h0, if_neg h1] at h
      exact absurd rfl h
theorem rNum2_spec (most above : Int) (s : RS) :
    (0 < (rNum2 most above s).2.2 → (rBegin s).2 = true ∧ (rNum2 most above s).1 = s ∧ s.fault = none ∧ rNumber most above s = ({ s with pos := s.pos + (rNum2 most above s).2.2, bits := 0 }, (rNum2 most above s).2.1) ∧ s.pos + (rNum2 most above s).2.2 ≤ max s.pos s.xs.length) ∧
    ((rNum2 most above s).2.2 = 0 → rNumber most above s = ((rNum2 most above s).1, 0) ∧ (rNum2 most above s).2.1 = 0 ∧ (rNum2 most above s).1.fault ≠ none ∧ (rNum2 most above s).1.pos = s.pos ∧ (rNum2 most above s).1.bits = s.bits) := by
  unfold rNum2 rNumber
  by_cases hb : (rBegin s).2 = true
  · obtain ⟨_, hf, _⟩ := rBegin_true hb
    rw [if_pos hb, if_pos hb]
    cases hsc : scan (s.xs.drop s.pos) 0 0 s.pos with
    | error x =>
      obtain ⟨i, e⟩ := x
      simp only
      exact ⟨fun h => absurd h (by omega), fun _ => ⟨trivial, trivial, rFail_err' _ _ _, rFail_pos _ _⟩⟩
    | ok x =>
      obtain ⟨v, i⟩ := x
      simp only
      have hp := scan_pos _ _ _ _ hsc
      rw [List.length_drop] at hp
      by_cases hm : most < v
      · rw [if_pos hm, if_pos hm]
        exact ⟨fun h => absurd h (by simp), fun _ => ⟨rfl, rfl, rFail_err' _ _ _, rFail_pos _ _⟩⟩
      · rw [if_neg hm, if_neg hm]
        refine ⟨fun _ => ⟨hb, rfl, hf, ?_, ?_⟩, fun h => absurd h (by simp only; omega)⟩
        · simp only; rw [show s.pos + (i - s.pos) = i by omega]
        · simp only; omega
  · rw [if_neg hb, if_neg hb]
    exact ⟨fun h => absurd h (by simp), fun _ => ⟨rfl, rfl, rBegin_bad hb, rBegin_pos s⟩⟩

set_option maxHeartbeats 400000 in
theorem rrnumber_ok {w : World} {F : Nat → Prop} {p : Nat} {s : RS} (hR : RMAt w F p s) (ok : RSok s) (fo : FOk s.fault) {most above : Int} (m0 : 0 ≤ most) (ha : above ≠ 0) {R : VWK}
    (h : ∀ w', RMAt w' F p (rNum2 most above s).1 → Keep (fun k => k = p) w w' → R (.tuple #[.int .u64 (rNum2 most above s).2.1, .int .i64 (rNum2 most above s).2.2]) w') :
    CallsV Tryd.prog 78 [.pointer (some ⟨p, 0, none⟩), .int .u64 most, .int .i64 above] w R := by
  have hle := ok.le
  have hln := ok.len
  obtain ⟨bb1, bb2⟩ := rBeg_begin s
  refine calls_of_wpC mixed Tryd.func78 rfl (by kernel_rfl) ?_
  intro e he
  have he0 := he 0
  have he1 := he 1
  have he2 := he 2
  simp only [List.getD_cons_zero, List.getD_cons_succ] at he0 he1 he2
  clear he
  try simp -dsimp only [↓RE, ↓c_seq, RU, RL, if_true, if_false, forall_const, implies_true, Nat.reduceLeDiff, Nat.reduceLT, pureOp, binPure, intBin, strBin, eqPure, isConstO, unPure, sliceLo, sliceHi, slicePure, lenPure, minPure, maxPure, buildP, resK, endV, yieldE, ↓reduceIte, Nat.reduceEqDiff, reduceCtorEq, Nat.reduceAdd, Nat.reduceMul, Nat.reduceSub, Int.reduceLT, Int.reduceLE, Int.reduceToNat, Int.reduceAdd, Int.reduceSub, Int.reduceMul, ne_eq, decide_true, decide_false, tf78, he0]
  unfold rNum2 at h
  refine rbegin_ok (n := 0) hR ok fo (by omega) (fun w1 hR1 k1 => ?_)
  by_cases hb : (rBegin s).2 = true
  case neg =>
    rw [if_neg hb] at h
    rw [bb1] at hR1
    have hd : decide ((rBeg 0 s).fault = none) = false := by rw [decide_eq_false_iff_not]; exact fun h => hb (bb2.1 h)
    try simp -dsimp only [↓RE, ↓c_seq, RU, RL, if_true, if_false, forall_const, implies_true, Nat.reduceLeDiff, Nat.reduceLT, pureOp, binPure, intBin, strBin, eqPure, isConstO, unPure, sliceLo, sliceHi, slicePure, lenPure, minPure, maxPure, buildP, resK, endV, yieldE, ↓reduceIte, Nat.reduceEqDiff, reduceCtorEq, Nat.reduceAdd, Nat.reduceMul, Nat.reduceSub, Int.reduceLT, Int.reduceLE, Int.reduceToNat, Int.reduceAdd, Int.reduceSub, Int.reduceMul, ne_eq, decide_true, decide_false, tf78, he0, hd]
    exact h w1 hR1 k1
  case pos =>
    rw [if_pos hb] at h
    obtain ⟨e1, hft, _⟩ := rBegin_true hb
    rw [bb1, e1] at hR1
    have hd : decide ((rBeg 0 s).fault = none) = true := decide_eq_true (bb2.2 hb)
    try simp -dsimp only [↓RE, ↓c_seq, RU, RL, if_true, if_false, forall_const, implies_true, Nat.reduceLeDiff, Nat.reduceLT, pureOp, binPure, intBin, strBin, eqPure, isConstO, unPure, sliceLo, sliceHi, slicePure, lenPure, minPure, maxPure, buildP, resK, endV, yieldE, ↓reduceIte, Nat.reduceEqDiff, reduceCtorEq, Nat.reduceAdd, Nat.reduceMul, Nat.reduceSub, Int.reduceLT, Int.reduceLE, Int.reduceToNat, Int.reduceAdd, Int.reduceSub, Int.reduceMul, ne_eq, decide_true, decide_false, tf78, he0, he1, he2, hd]
    refine wpLoop_intro (fun e' w' => Grow w1 w' ∧ e' 0 = .pointer (some ⟨p, 0, none⟩) ∧ e' 1 = .int .u64 most ∧ e' 2 = .int .i64 above ∧ ∃ (k : Nat) (v : Int), e' 9 = .int .i64 k ∧ e' 8 = .int .u64 v ∧ k ≤ 9 ∧ 0 ≤ v ∧ v < 2 ^ (7 * k) ∧ s.pos + k ≤ s.xs.length ∧
      scan (s.xs.drop (s.pos + k)) k v (s.pos + k) = scan (s.xs.drop s.pos) 0 0 s.pos) (fun e' _ => 10 - (envInt (e' 9)).toNat) ⟨Keep.refl _ _, ?_, ?_, ?_, 0, 0, ?_, ?_, by omega, by omega, by simp, by omega, rfl⟩ ?_
    · simp -dsimp only [↓RE, ↓c_seq, RU, RL, if_true, if_false, forall_const, implies_true, Nat.reduceLeDiff, Nat.reduceLT, pureOp, binPure, intBin, strBin, eqPure, isConstO, unPure, sliceLo, sliceHi, slicePure, lenPure, minPure, maxPure, buildP, resK, endV, yieldE, ↓reduceIte, Nat.reduceEqDiff, reduceCtorEq, Nat.reduceAdd, Nat.reduceMul, Nat.reduceSub, Int.reduceLT, Int.reduceLE, Int.reduceToNat, Int.reduceAdd, Int.reduceSub, Int.reduceMul, ne_eq, decide_true, decide_false, tf78, he0]
    · simp -dsimp only [↓RE, ↓c_seq, RU, RL, if_true, if_false, forall_const, implies_true, Nat.reduceLeDiff, Nat.reduceLT, pureOp, binPure, intBin, strBin, eqPure, isConstO, unPure, sliceLo, sliceHi, slicePure, lenPure, minPure, maxPure, buildP, resK, endV, yieldE, ↓reduceIte, Nat.reduceEqDiff, reduceCtorEq, Nat.reduceAdd, Nat.reduceMul, Nat.reduceSub, Int.reduceLT, Int.reduceLE, Int.reduceToNat, Int.reduceAdd, Int.reduceSub, Int.reduceMul, ne_eq, decide_true, decide_false, tf78, he1]
    · simp -dsimp only [↓RE, ↓c_seq, RU, RL, if_true, if_false, forall_const, implies_true, Nat.reduceLeDiff, Nat.reduceLT, pureOp, binPure, intBin, strBin, eqPure, isConstO, unPure, sliceLo, sliceHi, slicePure, lenPure, minPure, maxPure, buildP, resK, endV, yieldE, ↓reduceIte, Nat.reduceEqDiff, reduceCtorEq, Nat.reduceAdd, Nat.reduceMul, Nat.reduceSub, Int.reduceLT, Int.reduceLE, Int.reduceToNat, Int.reduceAdd, Int.reduceSub, Int.reduceMul, ne_eq, decide_true, decide_false, tf78, he2]
    · simp -dsimp only [↓RE, ↓c_seq, RU, RL, if_true, if_false, forall_const, implies_true, Nat.reduceLeDiff, Nat.reduceLT, pureOp, binPure, intBin, strBin, eqPure, isConstO, unPure, sliceLo, sliceHi, slicePure, lenPure, minPure, maxPure, buildP, resK, endV, yieldE, ↓reduceIte, Nat.reduceEqDiff, reduceCtorEq, Nat.reduceAdd, Nat.reduceMul, Nat.reduceSub, Int.reduceLT, Int.reduceLE, Int.reduceToNat, Int.reduceAdd, Int.reduceSub, Int.reduceMul, ne_eq, decide_true, decide_false, tf78, he0, Int.cast_ofNat_Int]
    · simp -dsimp only [↓RE, ↓c_seq, RU, RL, if_true, if_false, forall_const, implies_true, Nat.reduceLeDiff, Nat.reduceLT, pureOp, binPure, intBin, strBin, eqPure, isConstO, unPure, sliceLo, sliceHi, slicePure, lenPure, minPure, maxPure, buildP, resK, endV, yieldE, ↓reduceIte, Nat.reduceEqDiff, reduceCtorEq, Nat.reduceAdd, Nat.reduceMul, Nat.reduceSub, Int.reduceLT, Int.reduceLE, Int.reduceToNat, Int.reduceAdd, Int.reduceSub, Int.reduceMul, ne_eq, decide_true, decide_false, tf78, he0]
    rintro e' w' ⟨gw, h0, h1, h2, k, v, h9, h8, hk, v0, v1, hi, hsc⟩
    have hR2 := (hR1.grow gw).grow (Grow.drew w')
    have gd := gw.trans (Grow.drew w')
    generalize hwd : w'.drew = wd at hR2 gd
    have hR2' := hR2
    obtain ⟨A, c, hB, hRd, hp, hc, hF⟩ := hR2'
    have hc0 : wd.cell? ⟨p, 0, none⟩ = some (.slice A s.xs.length c) := hB.cell 0
    have hc1 : wd.cell? ⟨p, 1, none⟩ = some (.int .i64 s.pos) := hB.cell 1
    have hwk : IntKind.i64.wrap ((s.pos : Int) + (k : Int)) = ((s.pos + k : Nat) : Int) := by rw [wrap_i64_in (by omega) (by omega)]; omega
    have kk1 : ∀ {w2 : World}, Keep (fun k => k = p) wd w2 → Keep (fun k => k = p) w w2 := fun k2 => (k1.then_grow gd).trans k2 (H := fun k => k = p) (fun _ _ h => h) (fun _ _ h => h)
    try simp -dsimp only [↓RE, ↓c_seq, RU, RL, if_true, if_false, forall_const, implies_true, Nat.reduceLeDiff, Nat.reduceLT, pureOp, binPure, intBin, strBin, eqPure, isConstO, unPure, sliceLo, sliceHi, slicePure, lenPure, minPure, maxPure, buildP, resK, endV, yieldE, ↓reduceIte, Nat.reduceEqDiff, reduceCtorEq, Nat.reduceAdd, Nat.reduceMul, Nat.reduceSub, Int.reduceLT, Int.reduceLE, Int.reduceToNat, Int.reduceAdd, Int.reduceSub, Int.reduceMul, ne_eq, decide_true, decide_false, tf78, h0, h1, h2, h9, h8]
    refine wpDraw_still (by kernel_rfl) ?_
    try simp -dsimp only [↓RE, ↓c_seq, RU, RL, if_true, if_false, forall_const, implies_true, Nat.reduceLeDiff, Nat.reduceLT, pureOp, binPure, intBin, strBin, eqPure, isConstO, unPure, sliceLo, sliceHi, slicePure, lenPure, minPure, maxPure, buildP, resK, endV, yieldE, ↓reduceIte, Nat.reduceEqDiff, reduceCtorEq, Nat.reduceAdd, Nat.reduceMul, Nat.reduceSub, Int.reduceLT, Int.reduceLE, Int.reduceToNat, Int.reduceAdd, Int.reduceSub, Int.reduceMul, ne_eq, decide_true, decide_false, tf78, h0, h1, h2, h9, h8, hwd, hc0, hc1, hwk]
    refine ⟨fun heq => ?_, fun hne => ?_⟩
    · obtain hik : s.pos + k = s.xs.length := by omega
      rw [hik, List.drop_length] at hsc
      rw [← hsc] at h
      try simp -dsimp only [↓RE, ↓c_seq, RU, RL, if_true, if_false, forall_const, implies_true, Nat.reduceLeDiff, Nat.reduceLT, pureOp, binPure, intBin, strBin, eqPure, isConstO, unPure, sliceLo, sliceHi, slicePure, lenPure, minPure, maxPure, buildP, resK, endV, yieldE, ↓reduceIte, Nat.reduceEqDiff, reduceCtorEq, Nat.reduceAdd, Nat.reduceMul, Nat.reduceSub, Int.reduceLT, Int.reduceLE, Int.reduceToNat, Int.reduceAdd, Int.reduceSub, Int.reduceMul, ne_eq, decide_true, decide_false, tf78, h0, hc0]
      refine rat_ok (by decide) (fun w2 g2 => ?_)
      try simp -dsimp only [↓RE, ↓c_seq, RU, RL, if_true, if_false, forall_const, implies_true, Nat.reduceLeDiff, Nat.reduceLT, pureOp, binPure, intBin, strBin, eqPure, isConstO, unPure, sliceLo, sliceHi, slicePure, lenPure, minPure, maxPure, buildP, resK, endV, yieldE, ↓reduceIte, Nat.reduceEqDiff, reduceCtorEq, Nat.reduceAdd, Nat.reduceMul, Nat.reduceSub, Int.reduceLT, Int.reduceLE, Int.reduceToNat, Int.reduceAdd, Int.reduceSub, Int.reduceMul, ne_eq, decide_true, decide_false, tf78, h0]
      refine rrfail_ok (er := errAt s.xs.length 30) (hR2.grow g2) fo (fun w3 hR3 k3 => ?_)
      try simp -dsimp only [↓RE, ↓c_seq, RU, RL, if_true, if_false, forall_const, implies_true, Nat.reduceLeDiff, Nat.reduceLT, pureOp, binPure, intBin, strBin, eqPure, isConstO, unPure, sliceLo, sliceHi, slicePure, lenPure, minPure, maxPure, buildP, resK, endV, yieldE, ↓reduceIte, Nat.reduceEqDiff, reduceCtorEq, Nat.reduceAdd, Nat.reduceMul, Nat.reduceSub, Int.reduceLT, Int.reduceLE, Int.reduceToNat, Int.reduceAdd, Int.reduceSub, Int.reduceMul, ne_eq, decide_true, decide_false, tf78, h0]
      exact h w3 hR3 (kk1 (g2.then k3))
    have hil : s.pos + k < s.xs.length := by omega
    have hR3 := hR2.grow (Grow.drew wd)
    have gd3 := gd.trans (Grow.drew wd)
    try simp -dsimp only [↓RE, ↓c_seq, RU, RL, if_true, if_false, forall_const, implies_true, Nat.reduceLeDiff, Nat.reduceLT, pureOp, binPure, intBin, strBin, eqPure, isConstO, unPure, sliceLo, sliceHi, slicePure, lenPure, minPure, maxPure, buildP, resK, endV, yieldE, ↓reduceIte, Nat.reduceEqDiff, reduceCtorEq, Nat.reduceAdd, Nat.reduceMul, Nat.reduceSub, Int.reduceLT, Int.reduceLE, Int.reduceToNat, Int.reduceAdd, Int.reduceSub, Int.reduceMul, ne_eq, decide_true, decide_false, tf78, h0, h1, h2, h9, h8]
    refine wpDraw_still (by kernel_rfl) ?_
    generalize hwe : wd.drew = we at hR3 gd3
    have hR3' := hR3
    obtain ⟨A, c, hB, hRd, hp, hc, hF⟩ := hR3'
    have hc0 : we.cell? ⟨p, 0, none⟩ = some (.slice A s.xs.length c) := hB.cell 0
    have hc1 : we.cell? ⟨p, 1, none⟩ = some (.int .i64 s.pos) := hB.cell 1
    have kk1 : ∀ {w2 : World}, Keep (fun k => k = p) we w2 → Keep (fun k => k = p) w w2 := fun k2 => (k1.then_grow gd3).trans k2 (H := fun k => k = p) (fun _ _ h => h) (fun _ _ h => h)
    obtain ⟨ad, rfl, hcell⟩ := hRd.int (k := s.pos + k) hil
    have hcr := getD_mem_range ok.bytes (s.pos + k)
    have hdrop : s.xs.drop (s.pos + k) = s.xs.getD (s.pos + k) 0 :: s.xs.drop (s.pos + k + 1) := by
      rw [List.drop_eq_getElem_cons hil, List.getD_eq_getElem?_getD, List.getElem?_eq_getElem hil]; rfl
    rw [hdrop] at hsc
    generalize s.xs.getD (s.pos + k) 0 = b at hcell hcr hsc
    rw [scan_cons] at hsc
    simp -dsimp only [↓RE, RU, RL, if_true, if_false, forall_const, implies_true, Nat.reduceLeDiff, Nat.reduceLT, pureOp, binPure, intBin, strBin, eqPure, isConstO, unPure, sliceLo, sliceHi, slicePure, lenPure, minPure, maxPure, buildP, resK, endV, yieldE, ↓reduceIte, Nat.reduceEqDiff, reduceCtorEq, Nat.reduceAdd, Nat.reduceMul, Nat.reduceSub, Int.reduceLT, Int.reduceLE, Int.reduceToNat, Int.reduceAdd, Int.reduceSub, Int.reduceMul, ne_eq, decide_true, decide_false, tf78, h0, h1, h2, h9, h8, hwd, hwe, hc0, hc1, hwk, Int.toNat_natCast]
    refine ⟨⟨by omega, by omega⟩, ?_⟩
    have bad : ((k = 9 ∧ 1 < b) ∨ (0 < k ∧ b = 0)) → ∀ w2, RMAt w2 F p (rFail s (errAt (s.pos + k) 31)) → Keep (fun k => k = p) we w2 → R (.tuple #[.int .u64 0, .int .i64 0]) w2 := fun hbd w2 hR2 k2 => by
      rw [if_pos hbd] at hsc
      rw [← hsc] at h
      exact h w2 hR2 (kk1 k2)
    have isbad : ((k = 9 ∧ 1 < b) ∨ (0 < k ∧ b = 0)) ∨ ¬ ((k = 9 ∧ 1 < b) ∨ (0 < k ∧ b = 0)) := Classical.em _
    have hks : k = 0 ∨ k = 1 ∨ k = 2 ∨ k = 3 ∨ k = 4 ∨ k = 5 ∨ k = 6 ∨ k = 7 ∨ k = 8 ∨ k = 9 := by omega
    -- what follows where it is good
    have hcv : b.tmod 128 = b % 128 := Int.tmod_eq_emod_of_nonneg hcr.1
    have hmul : IntKind.i64.wrap (7 * (k : Int)) = ((7 * k : Nat) : Int) := by rw [wrap_i64_in (by omega) (by omega)]; omega
    have hw2 : IntKind.i64.wrap ((k : Int) + 1) = ((k + 1 : Nat) : Int) := by rw [wrap_i64_in (by omega) (by omega)]; rfl
    have hconv : IntKind.u64.wrap (b % 128) = b % 128 := by rw [wrap_u64]; omega
    have hgd : ¬ ((k = 9 ∧ 1 < b) ∨ (0 < k ∧ b = 0)) → 0 ≤ b % 128 * 2 ^ (7 * k) ∧ b % 128 * 2 ^ (7 * k) < 18446744073709551616 ∧ v + b % 128 * 2 ^ (7 * k) < 18446744073709551616 ∧ (b < 128 ∨ k ≤ 8) ∧ v + b % 128 * 2 ^ (7 * k) < 2 ^ (7 * (k + 1)) := fun hgood => by
      rcases hks with rfl | rfl | rfl | rfl | rfl | rfl | rfl | rfl | rfl | rfl <;> simp at v1 hgood ⊢ <;> omega
    simp -dsimp only [↓RE, RU, RL, if_true, if_false, forall_const, implies_true, Nat.reduceLeDiff, Nat.reduceLT, pureOp, binPure, intBin, strBin, eqPure, isConstO, unPure, sliceLo, sliceHi, slicePure, lenPure, minPure, maxPure, buildP, resK, endV, yieldE, ↓reduceIte, Nat.reduceEqDiff, reduceCtorEq, Nat.reduceAdd, Nat.reduceMul, Nat.reduceSub, Int.reduceLT, Int.reduceLE, Int.reduceToNat, Int.reduceAdd, Int.reduceSub, Int.reduceMul, ne_eq, decide_true, decide_false, tf78, h0, h1, h2, h9, h8, hwd, hwe, hc0, hc1, hwk, hcell, Int.toNat_natCast]
    refine c_seq_cut (fun e2 w2 => w2 = we ∧ e2 0 = .pointer (some ⟨p, 0, none⟩) ∧ e2 1 = .int .u64 most ∧ e2 2 = .int .i64 above ∧ e2 9 = .int .i64 k ∧ e2 8 = .int .u64 v ∧ e2 10 = .int .u8 b ∧ ¬ ((k = 9 ∧ 1 < b) ∨ (0 < k ∧ b = 0))) ?_ ?_
    · cases c9 : decide ((k : Int) = 9) <;> cases c1 : decide (1 < b) <;> cases c0 : decide (0 < (k : Int)) <;> cases cz : decide (b = 0)
      all_goals (have e9 := c9; have e1 := c1; have e0 := c0; have ez := cz; simp only [decide_eq_true_eq, decide_eq_false_iff_not] at e9 e1 e0 ez)
      all_goals try simp -dsimp only [↓RE, ↓c_seq, RU, RL, if_true, if_false, forall_const, implies_true, Nat.reduceLeDiff, Nat.reduceLT, pureOp, binPure, intBin, strBin, eqPure, isConstO, unPure, sliceLo, sliceHi, slicePure, lenPure, minPure, maxPure, buildP, resK, endV, yieldE, ↓reduceIte, Nat.reduceEqDiff, reduceCtorEq, Nat.reduceAdd, Nat.reduceMul, Nat.reduceSub, Int.reduceLT, Int.reduceLE, Int.reduceToNat, Int.reduceAdd, Int.reduceSub, Int.reduceMul, ne_eq, decide_true, decide_false, tf78, h0, h1, h2, h9, h8, c9, c1, c0, cz, Int.reduceEq, eq_self, undef, hc1, hwk]
      all_goals first
        | (refine hold_intro ⟨rfl, ?_, ?_, ?_, ?_, ?_, ?_, by omega⟩ <;> simp -dsimp only [↓RE, ↓c_seq, RU, RL, if_true, if_false, forall_const, implies_true, Nat.reduceLeDiff, Nat.reduceLT, pureOp, binPure, intBin, strBin, eqPure, isConstO, unPure, sliceLo, sliceHi, slicePure, lenPure, minPure, maxPure, buildP, resK, endV, yieldE, ↓reduceIte, Nat.reduceEqDiff, reduceCtorEq, Nat.reduceAdd, Nat.reduceMul, Nat.reduceSub, Int.reduceLT, Int.reduceLE, Int.reduceToNat, Int.reduceAdd, Int.reduceSub, Int.reduceMul, ne_eq, decide_true, decide_false, tf78, h0, h1, h2, h9, h8])
        | (refine rat_ok (by decide) (fun w2 g2 => ?_)
           try simp -dsimp only [↓RE, ↓c_seq, RU, RL, if_true, if_false, forall_const, implies_true, Nat.reduceLeDiff, Nat.reduceLT, pureOp, binPure, intBin, strBin, eqPure, isConstO, unPure, sliceLo, sliceHi, slicePure, lenPure, minPure, maxPure, buildP, resK, endV, yieldE, ↓reduceIte, Nat.reduceEqDiff, reduceCtorEq, Nat.reduceAdd, Nat.reduceMul, Nat.reduceSub, Int.reduceLT, Int.reduceLE, Int.reduceToNat, Int.reduceAdd, Int.reduceSub, Int.reduceMul, ne_eq, decide_true, decide_false, tf78, h0]
           refine rrfail_ok (er := errAt (s.pos + k) 31) (hR3.grow g2) fo (fun w3 hR4 k3 => ?_)
           try simp -dsimp only [↓RE, ↓c_seq, RU, RL, if_true, if_false, forall_const, implies_true, Nat.reduceLeDiff, Nat.reduceLT, pureOp, binPure, intBin, strBin, eqPure, isConstO, unPure, sliceLo, sliceHi, slicePure, lenPure, minPure, maxPure, buildP, resK, endV, yieldE, ↓reduceIte, Nat.reduceEqDiff, reduceCtorEq, Nat.reduceAdd, Nat.reduceMul, Nat.reduceSub, Int.reduceLT, Int.reduceLE, Int.reduceToNat, Int.reduceAdd, Int.reduceSub, Int.reduceMul, ne_eq, decide_true, decide_false, tf78, h0]
           exact bad (by omega) w3 hR4 (g2.then k3))
    · rintro e2 w2 ⟨rfl, g0, g1, g2, g9, g8, g10, hgood⟩
      rw [if_neg hgood] at hsc
      have hx := hgd hgood
      have hshl : shlOp .u64 (b % 128) ((7 * k : Nat) : Int) = b % 128 * 2 ^ (7 * k) := by
        rw [shl_eq .u64 _ (7 * k) (by simp [IntKind.bits]; omega) _ rfl, wrap_u64]; exact Int.emod_eq_of_lt hx.1 hx.2.1
      have hadd : IntKind.u64.wrap (v + b % 128 * 2 ^ (7 * k)) = v + b % 128 * 2 ^ (7 * k) := by
        rw [wrap_u64]; exact Int.emod_eq_of_lt (by omega) hx.2.2.1
      try simp -dsimp only [↓RE, ↓c_seq, RU, RL, if_true, if_false, forall_const, implies_true, Nat.reduceLeDiff, Nat.reduceLT, pureOp, binPure, intBin, strBin, eqPure, isConstO, unPure, sliceLo, sliceHi, slicePure, lenPure, minPure, maxPure, buildP, resK, endV, yieldE, ↓reduceIte, Nat.reduceEqDiff, reduceCtorEq, Nat.reduceAdd, Nat.reduceMul, Nat.reduceSub, Int.reduceLT, Int.reduceLE, Int.reduceToNat, Int.reduceAdd, Int.reduceSub, Int.reduceMul, ne_eq, decide_true, decide_false, tf78, g0, g1, g2, g9, g8, g10, hcv, hconv, hmul, hshl, hadd, hw2]
      refine ⟨by omega, ?_⟩
      try simp -dsimp only [↓RE, ↓c_seq, RU, RL, if_true, if_false, forall_const, implies_true, Nat.reduceLeDiff, Nat.reduceLT, pureOp, binPure, intBin, strBin, eqPure, isConstO, unPure, sliceLo, sliceHi, slicePure, lenPure, minPure, maxPure, buildP, resK, endV, yieldE, ↓reduceIte, Nat.reduceEqDiff, reduceCtorEq, Nat.reduceAdd, Nat.reduceMul, Nat.reduceSub, Int.reduceLT, Int.reduceLE, Int.reduceToNat, Int.reduceAdd, Int.reduceSub, Int.reduceMul, ne_eq, decide_true, decide_false, tf78, g0, g1, g2, g9, g8, g10, hcv, hconv, hmul, hshl, hadd, hw2]
      refine ⟨by omega, ?_⟩
      generalize hv' : v + b % 128 * 2 ^ (7 * k) = v' at hsc hx hadd
      try simp -dsimp only [↓RE, ↓c_seq, RU, RL, if_true, if_false, forall_const, implies_true, Nat.reduceLeDiff, Nat.reduceLT, pureOp, binPure, intBin, strBin, eqPure, isConstO, unPure, sliceLo, sliceHi, slicePure, lenPure, minPure, maxPure, buildP, resK, endV, yieldE, ↓reduceIte, Nat.reduceEqDiff, reduceCtorEq, Nat.reduceAdd, Nat.reduceMul, Nat.reduceSub, Int.reduceLT, Int.reduceLE, Int.reduceToNat, Int.reduceAdd, Int.reduceSub, Int.reduceMul, ne_eq, decide_true, decide_false, tf78, g0, g1, g2, g9, g8, g10, hcv, hconv, hmul, hshl, hadd, hw2, hv']
      refine ⟨fun hlt => ?_, fun hge => ?_⟩
      · rw [if_pos hlt] at hsc
        rw [← hsc] at h
        simp only at h
        try simp -dsimp only [↓RE, ↓c_seq, RU, RL, if_true, if_false, forall_const, implies_true, Nat.reduceLeDiff, Nat.reduceLT, pureOp, binPure, intBin, strBin, eqPure, isConstO, unPure, sliceLo, sliceHi, slicePure, lenPure, minPure, maxPure, buildP, resK, endV, yieldE, ↓reduceIte, Nat.reduceEqDiff, reduceCtorEq, Nat.reduceAdd, Nat.reduceMul, Nat.reduceSub, Int.reduceLT, Int.reduceLE, Int.reduceToNat, Int.reduceAdd, Int.reduceSub, Int.reduceMul, ne_eq, decide_true, decide_false, tf78, g0, g1, g2, g9, g8, g10, hcv, hconv, hmul, hshl, hadd, hw2, hv']
        refine ⟨fun hgt => ?_, fun hng => ?_⟩
        · rw [if_pos (by omega)] at h
          try simp -dsimp only [↓RE, ↓c_seq, RU, RL, if_true, if_false, forall_const, implies_true, Nat.reduceLeDiff, Nat.reduceLT, pureOp, binPure, intBin, strBin, eqPure, isConstO, unPure, sliceLo, sliceHi, slicePure, lenPure, minPure, maxPure, buildP, resK, endV, yieldE, ↓reduceIte, Nat.reduceEqDiff, reduceCtorEq, Nat.reduceAdd, Nat.reduceMul, Nat.reduceSub, Int.reduceLT, Int.reduceLE, Int.reduceToNat, Int.reduceAdd, Int.reduceSub, Int.reduceMul, ne_eq, decide_true, decide_false, tf78, g0, g1, g2, hc1]
          refine rat_ok ha (fun w3 g3 => ?_)
          try simp -dsimp only [↓RE, ↓c_seq, RU, RL, if_true, if_false, forall_const, implies_true, Nat.reduceLeDiff, Nat.reduceLT, pureOp, binPure, intBin, strBin, eqPure, isConstO, unPure, sliceLo, sliceHi, slicePure, lenPure, minPure, maxPure, buildP, resK, endV, yieldE, ↓reduceIte, Nat.reduceEqDiff, reduceCtorEq, Nat.reduceAdd, Nat.reduceMul, Nat.reduceSub, Int.reduceLT, Int.reduceLE, Int.reduceToNat, Int.reduceAdd, Int.reduceSub, Int.reduceMul, ne_eq, decide_true, decide_false, tf78, g0]
          refine rrfail_ok (er := errAt s.pos above) (hR3.grow g3) fo (fun w4 hR4 k4 => ?_)
          try simp -dsimp only [↓RE, ↓c_seq, RU, RL, if_true, if_false, forall_const, implies_true, Nat.reduceLeDiff, Nat.reduceLT, pureOp, binPure, intBin, strBin, eqPure, isConstO, unPure, sliceLo, sliceHi, slicePure, lenPure, minPure, maxPure, buildP, resK, endV, yieldE, ↓reduceIte, Nat.reduceEqDiff, reduceCtorEq, Nat.reduceAdd, Nat.reduceMul, Nat.reduceSub, Int.reduceLT, Int.reduceLE, Int.reduceToNat, Int.reduceAdd, Int.reduceSub, Int.reduceMul, ne_eq, decide_true, decide_false, tf78, g0]
          exact h w4 hR4 (kk1 (g3.then k4))
        · rw [if_neg (by omega)] at h
          try simp -dsimp only [↓RE, ↓c_seq, RU, RL, if_true, if_false, forall_const, implies_true, Nat.reduceLeDiff, Nat.reduceLT, pureOp, binPure, intBin, strBin, eqPure, isConstO, unPure, sliceLo, sliceHi, slicePure, lenPure, minPure, maxPure, buildP, resK, endV, yieldE, ↓reduceIte, Nat.reduceEqDiff, reduceCtorEq, Nat.reduceAdd, Nat.reduceMul, Nat.reduceSub, Int.reduceLT, Int.reduceLE, Int.reduceToNat, Int.reduceAdd, Int.reduceSub, Int.reduceMul, ne_eq, decide_true, decide_false, tf78, g0, g1, g2, g9, hw2, hv', hadd]
          have := h w2 hR3 (kk1 (Keep.refl _ _))
          rw [show s.pos + k + 1 - s.pos = k + 1 by omega] at this
          exact this
      · rw [if_neg hge] at hsc
        try simp -dsimp only [↓RE, ↓c_seq, RU, RL, if_true, if_false, forall_const, implies_true, Nat.reduceLeDiff, Nat.reduceLT, pureOp, binPure, intBin, strBin, eqPure, isConstO, unPure, sliceLo, sliceHi, slicePure, lenPure, minPure, maxPure, buildP, resK, endV, yieldE, ↓reduceIte, Nat.reduceEqDiff, reduceCtorEq, Nat.reduceAdd, Nat.reduceMul, Nat.reduceSub, Int.reduceLT, Int.reduceLE, Int.reduceToNat, Int.reduceAdd, Int.reduceSub, Int.reduceMul, ne_eq, decide_true, decide_false, tf78, g0, g1, g2, g9, g8, g10]
        refine hold_intro ⟨⟨gd3, ?_, ?_, ?_, k + 1, v', ?_, ?_, by omega, by omega, hx.2.2.2.2, by omega, by rw [← Nat.add_assoc]; exact hsc⟩, ?_⟩
        · simp -dsimp only [↓RE, ↓c_seq, RU, RL, if_true, if_false, forall_const, implies_true, Nat.reduceLeDiff, Nat.reduceLT, pureOp, binPure, intBin, strBin, eqPure, isConstO, unPure, sliceLo, sliceHi, slicePure, lenPure, minPure, maxPure, buildP, resK, endV, yieldE, ↓reduceIte, Nat.reduceEqDiff, reduceCtorEq, Nat.reduceAdd, Nat.reduceMul, Nat.reduceSub, Int.reduceLT, Int.reduceLE, Int.reduceToNat, Int.reduceAdd, Int.reduceSub, Int.reduceMul, ne_eq, decide_true, decide_false, tf78, g0]
        · simp -dsimp only [↓RE, ↓c_seq, RU, RL, if_true, if_false, forall_const, implies_true, Nat.reduceLeDiff, Nat.reduceLT, pureOp, binPure, intBin, strBin, eqPure, isConstO, unPure, sliceLo, sliceHi, slicePure, lenPure, minPure, maxPure, buildP, resK, endV, yieldE, ↓reduceIte, Nat.reduceEqDiff, reduceCtorEq, Nat.reduceAdd, Nat.reduceMul, Nat.reduceSub, Int.reduceLT, Int.reduceLE, Int.reduceToNat, Int.reduceAdd, Int.reduceSub, Int.reduceMul, ne_eq, decide_true, decide_false, tf78, g1]
        · simp -dsimp only [↓RE, ↓c_seq, RU, RL, if_true, if_false, forall_const, implies_true, Nat.reduceLeDiff, Nat.reduceLT, pureOp, binPure, intBin, strBin, eqPure, isConstO, unPure, sliceLo, sliceHi, slicePure, lenPure, minPure, maxPure, buildP, resK, endV, yieldE, ↓reduceIte, Nat.reduceEqDiff, reduceCtorEq, Nat.reduceAdd, Nat.reduceMul, Nat.reduceSub, Int.reduceLT, Int.reduceLE, Int.reduceToNat, Int.reduceAdd, Int.reduceSub, Int.reduceMul, ne_eq, decide_true, decide_false, tf78, g2]
        · simp -dsimp only [↓RE, ↓c_seq, RU, RL, if_true, if_false, forall_const, implies_true, Nat.reduceLeDiff, Nat.reduceLT, pureOp, binPure, intBin, strBin, eqPure, isConstO, unPure, sliceLo, sliceHi, slicePure, lenPure, minPure, maxPure, buildP, resK, endV, yieldE, ↓reduceIte, Nat.reduceEqDiff, reduceCtorEq, Nat.reduceAdd, Nat.reduceMul, Nat.reduceSub, Int.reduceLT, Int.reduceLE, Int.reduceToNat, Int.reduceAdd, Int.reduceSub, Int.reduceMul, ne_eq, decide_true, decide_false, tf78, g9, hw2]
        · simp -dsimp only [↓RE, ↓c_seq, RU, RL, if_true, if_false, forall_const, implies_true, Nat.reduceLeDiff, Nat.reduceLT, pureOp, binPure, intBin, strBin, eqPure, isConstO, unPure, sliceLo, sliceHi, slicePure, lenPure, minPure, maxPure, buildP, resK, endV, yieldE, ↓reduceIte, Nat.reduceEqDiff, reduceCtorEq, Nat.reduceAdd, Nat.reduceMul, Nat.reduceSub, Int.reduceLT, Int.reduceLE, Int.reduceToNat, Int.reduceAdd, Int.reduceSub, Int.reduceMul, ne_eq, decide_true, decide_false, tf78, g8, g9, g10, hcv, hconv, hmul, hshl, hadd, hv']
        · simp -dsimp only [↓RE, ↓c_seq, RU, RL, if_true, if_false, forall_const, implies_true, Nat.reduceLeDiff, Nat.reduceLT, pureOp, binPure, intBin, strBin, eqPure, isConstO, unPure, sliceLo, sliceHi, slicePure, lenPure, minPure, maxPure, buildP, resK, endV, yieldE, ↓reduceIte, Nat.reduceEqDiff, reduceCtorEq, Nat.reduceAdd, Nat.reduceMul, Nat.reduceSub, Int.reduceLT, Int.reduceLE, Int.reduceToNat, Int.reduceAdd, Int.reduceSub, Int.reduceMul, ne_eq, decide_true, decide_false, tf78, g9, h9, hw2]
          rw [envInt_int, envInt_int]; omega

theorem rruint_ok {w : World} {F : Nat → Prop} {p : Nat} {s : RS} (hR : RMAt w F p s) (ok : RSok s) (fo : FOk s.fault) {most : Int} (m0 : 0 ≤ most) {R : VWK}
    (h : ∀ w', RMAt w' F p (rNumber most 2 s).1 → Keep (fun k => k = p) w w' → R (.int .u64 (rNumber most 2 s).2) w') :
    CallsV Tryd.prog 54 [.pointer (some ⟨p, 0, none⟩), .int .u64 most] w R := by
  have hl := ok.len
  obtain ⟨sp, sz⟩ := rNum2_spec most 2 s
  refine calls_of_wpC mixed Tryd.func54 rfl (by kernel_rfl) ?_
  intro e he
  have he0 := he 0
  have he1 := he 1
  simp only [List.getD_cons_zero, List.getD_cons_succ] at he0 he1
  clear he
  try simp -dsimp only [↓RE, ↓c_seq, RU, RL, if_true, if_false, forall_const, implies_true, Nat.reduceLeDiff, Nat.reduceLT, pureOp, binPure, intBin, strBin, eqPure, isConstO, unPure, sliceLo, sliceHi, slicePure, lenPure, minPure, maxPure, buildP, resK, endV, yieldE, ↓reduceIte, Nat.reduceEqDiff, reduceCtorEq, Nat.reduceAdd, Nat.reduceMul, Nat.reduceSub, Int.reduceLT, Int.reduceLE, Int.reduceToNat, Int.reduceAdd, Int.reduceSub, Int.reduceMul, ne_eq, decide_true, decide_false, tf54, he0, he1]
  refine rrnumber_ok hR ok fo m0 (by decide) (fun w1 hR1 k1 => ?_)
  generalize hq : rNum2 most 2 s = q at hR1 sp sz
  obtain ⟨q1, v, n⟩ := q
  simp only at hR1 sp sz
  try simp -dsimp only [↓RE, ↓c_seq, RU, RL, if_true, if_false, forall_const, implies_true, Nat.reduceLeDiff, Nat.reduceLT, pureOp, binPure, intBin, strBin, eqPure, isConstO, unPure, sliceLo, sliceHi, slicePure, lenPure, minPure, maxPure, buildP, resK, endV, yieldE, ↓reduceIte, Nat.reduceEqDiff, reduceCtorEq, Nat.reduceAdd, Nat.reduceMul, Nat.reduceSub, Int.reduceLT, Int.reduceLE, Int.reduceToNat, Int.reduceAdd, Int.reduceSub, Int.reduceMul, ne_eq, decide_true, decide_false, tf54, he0, he1]
  refine ⟨fun hpos => ?_, fun hzero => ?_⟩
  · obtain ⟨_, rfl, hf, hN, hle⟩ := sp (by omega)
    rw [hN] at h
    obtain ⟨A, c, hB, hRd, hp, hc, hF⟩ := hR1
    have hle2 := ok.le
    have hc1 : w1.cell? ⟨p, 1, none⟩ = some (.int .i64 q1.pos) := hB.cell 1
    have hw : IntKind.i64.wrap ((q1.pos : Int) + (n : Int)) = ((q1.pos + n : Nat) : Int) := by rw [wrap_i64_in (by omega) (by omega)]; omega
    try simp -dsimp only [↓RE, ↓c_seq, RU, RL, if_true, if_false, forall_const, implies_true, Nat.reduceLeDiff, Nat.reduceLT, pureOp, binPure, intBin, strBin, eqPure, isConstO, unPure, sliceLo, sliceHi, slicePure, lenPure, minPure, maxPure, buildP, resK, endV, yieldE, ↓reduceIte, Nat.reduceEqDiff, reduceCtorEq, Nat.reduceAdd, Nat.reduceMul, Nat.reduceSub, Int.reduceLT, Int.reduceLE, Int.reduceToNat, Int.reduceAdd, Int.reduceSub, Int.reduceMul, ne_eq, decide_true, decide_false, tf54, he0, he1, hc1, hw]
    refine hB.st (i := 1) (by simp [BadV.cells]) ?_
    have hB1 := hB.set 1 (.int .i64 (q1.pos + n : Nat))
    have k2 := Keep.set1 w1 p 1 (.int .i64 (q1.pos + n : Nat))
    try simp -dsimp only [↓RE, ↓c_seq, RU, RL, if_true, if_false, forall_const, implies_true, Nat.reduceLeDiff, Nat.reduceLT, pureOp, binPure, intBin, strBin, eqPure, isConstO, unPure, sliceLo, sliceHi, slicePure, lenPure, minPure, maxPure, buildP, resK, endV, yieldE, ↓reduceIte, Nat.reduceEqDiff, reduceCtorEq, Nat.reduceAdd, Nat.reduceMul, Nat.reduceSub, Int.reduceLT, Int.reduceLE, Int.reduceToNat, Int.reduceAdd, Int.reduceSub, Int.reduceMul, ne_eq, decide_true, decide_false, tf54, he0, he1]
    refine hB1.st (i := 2) (by simp [BadV.cells]) ?_
    have hB2 := hB1.set 2 (.int .i64 0)
    have k3 := k2.trans (Keep.set1 _ p 2 (.int .i64 0)) (H := fun k => k = p) (fun _ _ h => h) (fun _ _ h => h)
    have hRd2 := hRd.keep0 k3 (fun h0 k hk e => hp h0 (e ▸ hk))
    try simp -dsimp only [↓RE, ↓c_seq, RU, RL, if_true, if_false, forall_const, implies_true, Nat.reduceLeDiff, Nat.reduceLT, pureOp, binPure, intBin, strBin, eqPure, isConstO, unPure, sliceLo, sliceHi, slicePure, lenPure, minPure, maxPure, buildP, resK, endV, yieldE, ↓reduceIte, Nat.reduceEqDiff, reduceCtorEq, Nat.reduceAdd, Nat.reduceMul, Nat.reduceSub, Int.reduceLT, Int.reduceLE, Int.reduceToNat, Int.reduceAdd, Int.reduceSub, Int.reduceMul, ne_eq, decide_true, decide_false, tf54, he0, he1]
    exact h _ ⟨A, c, by simpa using hB2, hRd2, hp, hc, hF⟩ (k1.trans k3 (H := fun k => k = p) (fun _ _ h => h) (fun _ _ h => h))
  · obtain ⟨hN, rfl, hf, _, _⟩ := sz (by omega)
    rw [hN] at h
    try simp -dsimp only [↓RE, ↓c_seq, RU, RL, if_true, if_false, forall_const, implies_true, Nat.reduceLeDiff, Nat.reduceLT, pureOp, binPure, intBin, strBin, eqPure, isConstO, unPure, sliceLo, sliceHi, slicePure, lenPure, minPure, maxPure, buildP, resK, endV, yieldE, ↓reduceIte, Nat.reduceEqDiff, reduceCtorEq, Nat.reduceAdd, Nat.reduceMul, Nat.reduceSub, Int.reduceLT, Int.reduceLE, Int.reduceToNat, Int.reduceAdd, Int.reduceSub, Int.reduceMul, ne_eq, decide_true, decide_false, tf54, he0, he1]
    exact h w1 hR1 k1

theorem unfold_ok {w : World} {v : Int} (h0 : 0 ≤ v) (h1 : v < 18446744073709551616) {R : VWK} (h : R (.int .i64 (unfoldI v)) w) : CallsV Tryd.prog 57 [.int .u64 v] w R := by
  have hm : v.tmod 2 = v % 2 := Int.tmod_eq_emod_of_nonneg h0
  have hd : v.tdiv 2 = v / 2 := Int.tdiv_eq_ediv_of_nonneg h0
  have hwu : IntKind.u64.wrap (v / 2) = v / 2 := by rw [wrap_u64]; omega
  have hw : IntKind.i64.wrap (v / 2) = v / 2 := wrap_i64_in (by omega) (by omega)
  have hn : IntKind.i64.wrap (0 - v / 2) = -(v / 2) := by rw [wrap_i64_in (by omega) (by omega)]; omega
  have hs : IntKind.i64.wrap (-(v / 2) - 1) = -(v / 2) - 1 := wrap_i64_in (by omega) (by omega)
  refine calls_of_wpC mixed Tryd.func57 rfl (by kernel_rfl) ?_
  intro e he
  have he0 := he 0
  simp only [List.getD_cons_zero, List.getD_cons_succ] at he0
  clear he
  try simp -dsimp only [↓RE, ↓c_seq, RU, RL, if_true, if_false, forall_const, implies_true, Nat.reduceLeDiff, Nat.reduceLT, pureOp, binPure, intBin, strBin, eqPure, isConstO, unPure, sliceLo, sliceHi, slicePure, lenPure, minPure, maxPure, buildP, resK, endV, yieldE, ↓reduceIte, Nat.reduceEqDiff, reduceCtorEq, Nat.reduceAdd, Nat.reduceMul, Nat.reduceSub, Int.reduceLT, Int.reduceLE, Int.reduceToNat, Int.reduceAdd, Int.reduceSub, Int.reduceMul, ne_eq, decide_true, decide_false, tf57, he0, hm, hd]
  refine ⟨by omega, ?_⟩
  try simp -dsimp only [↓RE, ↓c_seq, RU, RL, if_true, if_false, forall_const, implies_true, Nat.reduceLeDiff, Nat.reduceLT, pureOp, binPure, intBin, strBin, eqPure, isConstO, unPure, sliceLo, sliceHi, slicePure, lenPure, minPure, maxPure, buildP, resK, endV, yieldE, ↓reduceIte, Nat.reduceEqDiff, reduceCtorEq, Nat.reduceAdd, Nat.reduceMul, Nat.reduceSub, Int.reduceLT, Int.reduceLE, Int.reduceToNat, Int.reduceAdd, Int.reduceSub, Int.reduceMul, ne_eq, decide_true, decide_false, tf57, he0, hm, hd]
  refine ⟨fun hz => ?_, fun hz => ?_⟩
  · have e : unfoldI v = v / 2 := by unfold unfoldI; rw [if_pos hz]
    rw [e] at h
    try simp -dsimp only [↓RE, ↓c_seq, RU, RL, if_true, if_false, forall_const, implies_true, Nat.reduceLeDiff, Nat.reduceLT, pureOp, binPure, intBin, strBin, eqPure, isConstO, unPure, sliceLo, sliceHi, slicePure, lenPure, minPure, maxPure, buildP, resK, endV, yieldE, ↓reduceIte, Nat.reduceEqDiff, reduceCtorEq, Nat.reduceAdd, Nat.reduceMul, Nat.reduceSub, Int.reduceLT, Int.reduceLE, Int.reduceToNat, Int.reduceAdd, Int.reduceSub, Int.reduceMul, ne_eq, decide_true, decide_false, tf57, he0, hm, hd]
    refine ⟨by omega, ?_⟩
    try simp -dsimp only [↓RE, ↓c_seq, RU, RL, if_true, if_false, forall_const, implies_true, Nat.reduceLeDiff, Nat.reduceLT, pureOp, binPure, intBin, strBin, eqPure, isConstO, unPure, sliceLo, sliceHi, slicePure, lenPure, minPure, maxPure, buildP, resK, endV, yieldE, ↓reduceIte, Nat.reduceEqDiff, reduceCtorEq, Nat.reduceAdd, Nat.reduceMul, Nat.reduceSub, Int.reduceLT, Int.reduceLE, Int.reduceToNat, Int.reduceAdd, Int.reduceSub, Int.reduceMul, ne_eq, decide_true, decide_false, tf57, he0, hm, hd, hwu, hw]
    exact h
  · have e : unfoldI v = -(v / 2) - 1 := by unfold unfoldI; rw [if_neg hz]
    rw [e] at h
    try simp -dsimp only [↓RE, ↓c_seq, RU, RL, if_true, if_false, forall_const, implies_true, Nat.reduceLeDiff, Nat.reduceLT, pureOp, binPure, intBin, strBin, eqPure, isConstO, unPure, sliceLo, sliceHi, slicePure, lenPure, minPure, maxPure, buildP, resK, endV, yieldE, ↓reduceIte, Nat.reduceEqDiff, reduceCtorEq, Nat.reduceAdd, Nat.reduceMul, Nat.reduceSub, Int.reduceLT, Int.reduceLE, Int.reduceToNat, Int.reduceAdd, Int.reduceSub, Int.reduceMul, ne_eq, decide_true, decide_false, tf57, he0, hm, hd]
    refine ⟨by omega, ?_⟩
    try simp -dsimp only [↓RE, ↓c_seq, RU, RL, if_true, if_false, forall_const, implies_true, Nat.reduceLeDiff, Nat.reduceLT, pureOp, binPure, intBin, strBin, eqPure, isConstO, unPure, sliceLo, sliceHi, slicePure, lenPure, minPure, maxPure, buildP, resK, endV, yieldE, ↓reduceIte, Nat.reduceEqDiff, reduceCtorEq, Nat.reduceAdd, Nat.reduceMul, Nat.reduceSub, Int.reduceLT, Int.reduceLE, Int.reduceToNat, Int.reduceAdd, Int.reduceSub, Int.reduceMul, ne_eq, decide_true, decide_false, tf57, he0, hm, hd, hwu, hw, hn, hs]
    exact h

theorem rrint_ok {w : World} {F : Nat → Prop} {p : Nat} {s : RS} (hR : RMAt w F p s) (ok : RSok s) (fo : FOk s.fault) {R : VWK}
    (h : ∀ w', RMAt w' F p (rNumber 18446744073709551615 2 s).1 → Keep (fun k => k = p) w w' → R (.int .i64 (unfoldI (rNumber 18446744073709551615 2 s).2)) w') :
    CallsV Tryd.prog 62 [.pointer (some ⟨p, 0, none⟩)] w R := by
  have hr := rNumber_range ok 18446744073709551615 2
  refine calls_of_wpC mixed Tryd.func62 rfl (by kernel_rfl) ?_
  intro e he
  have he0 := he 0
  simp only [List.getD_cons_zero, List.getD_cons_succ] at he0
  clear he
  try simp -dsimp only [↓RE, ↓c_seq, RU, RL, if_true, if_false, forall_const, implies_true, Nat.reduceLeDiff, Nat.reduceLT, pureOp, binPure, intBin, strBin, eqPure, isConstO, unPure, sliceLo, sliceHi, slicePure, lenPure, minPure, maxPure, buildP, resK, endV, yieldE, ↓reduceIte, Nat.reduceEqDiff, reduceCtorEq, Nat.reduceAdd, Nat.reduceMul, Nat.reduceSub, Int.reduceLT, Int.reduceLE, Int.reduceToNat, Int.reduceAdd, Int.reduceSub, Int.reduceMul, ne_eq, decide_true, decide_false, tf62, he0]
  refine rruint_ok hR ok fo (by omega) (fun w1 hR1 k1 => ?_)
  try simp -dsimp only [↓RE, ↓c_seq, RU, RL, if_true, if_false, forall_const, implies_true, Nat.reduceLeDiff, Nat.reduceLT, pureOp, binPure, intBin, strBin, eqPure, isConstO, unPure, sliceLo, sliceHi, slicePure, lenPure, minPure, maxPure, buildP, resK, endV, yieldE, ↓reduceIte, Nat.reduceEqDiff, reduceCtorEq, Nat.reduceAdd, Nat.reduceMul, Nat.reduceSub, Int.reduceLT, Int.reduceLE, Int.reduceToNat, Int.reduceAdd, Int.reduceSub, Int.reduceMul, ne_eq, decide_true, decide_false, tf62, he0]
  refine unfold_ok hr.1 hr.2 ?_
  try simp -dsimp only [↓RE, ↓c_seq, RU, RL, if_true, if_false, forall_const, implies_true, Nat.reduceLeDiff, Nat.reduceLT, pureOp, binPure, intBin, strBin, eqPure, isConstO, unPure, sliceLo, sliceHi, slicePure, lenPure, minPure, maxPure, buildP, resK, endV, yieldE, ↓reduceIte, Nat.reduceEqDiff, reduceCtorEq, Nat.reduceAdd, Nat.reduceMul, Nat.reduceSub, Int.reduceLT, Int.reduceLE, Int.reduceToNat, Int.reduceAdd, Int.reduceSub, Int.reduceMul, ne_eq, decide_true, decide_false, tf62, he0]
  exact h w1 hR1 k1

end Go.Proofs.YtmgiichlccdcfaaDoor
