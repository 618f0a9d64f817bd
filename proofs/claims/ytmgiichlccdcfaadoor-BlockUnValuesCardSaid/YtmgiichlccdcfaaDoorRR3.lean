
/- The document's Reader: bytes, texts, where it stands, its fault. -/
import Derived.Test.YtmgiichlccdcfaaDoorRR2
set_option linter.unusedVariables false
set_option linter.unusedSimpArgs false
set_option maxRecDepth 100000
namespace Go.Proofs.YtmgiichlccdcfaaDoor
open Go

theorem scan_err : ∀ {l : List Int} {k : Nat} {v : Int} {i j : Nat} {e : Int}, scan l k v i = .error (j, e) → e ≠ 0
  | [], k, v, i, j, e, h => by
    simp only [scan, Except.error.injEq, Prod.mk.injEq] at h
    omega
  | c :: r, k, v, i, j, e, h => by
    rw [scan_cons] at h
    split at h
    · simp only [Except.error.injEq, Prod.mk.injEq] at h
      omega
    split at h
    · cases h
    · exact scan_err h
theorem rBegin_fok {s : RS} (h : FOk s.fault) : FOk (rBegin s).1.fault := by
  unfold rBegin; split
  · exact h
  split
  · exact h.fail (FOk.err (by decide))
  · exact h
theorem rFail_set {s : RS} {e : Option (TypeId × Value)} (h : s.fault = none) : rFail s e = { s with fault := e } := by unfold rFail; rw [if_pos h]

/-- what a row of bytes that is read comes to, by the number ahead of it. -/
theorem rLoad_none {most : Int} {s : RS} (h : (rNum2 (rLim most) 6 s).2.2 = 0) : rLoad most s = ((rNum2 (rLim most) 6 s).1, []) := by
  obtain ⟨_, sz⟩ := rNum2_spec (rLim most) 6 s
  obtain ⟨hN, _, hf, hp, hb⟩ := sz h
  have hS : rLoadS most s = (rNum2 (rLim most) 6 s).1 := by
    unfold rLoadS rLong
    rw [hN]
    simp only
    rw [if_neg (fun h => hf h.1)]
    unfold rShort
    rw [if_neg (fun h => hf h.1)]
  unfold rLoad
  by_cases hbg : (rBegin s).2 = true
  · rw [if_pos hbg, hS, if_pos hf]
    unfold rBack
    rw [← hp, ← hb]
  · rw [if_neg hbg]
    unfold rNum2
    rw [if_neg hbg]
theorem rLoad_some {most : Int} {s : RS} {n : Nat} {v : Int} (hq : rNum2 (rLim most) 6 s = (s, v, n)) (hn : 0 < n) :
    rLoad most s = if most < 0 then (rFail s (errAt s.pos 6), []) else if ((s.xs.length - (s.pos + n) : Nat) : Int) < v then (rFail s (errAt s.xs.length 30), []) else
      ({ s with pos := s.pos + n + v.toNat, bits := 0 }, (s.xs.drop (s.pos + n)).take v.toNat) := by
  obtain ⟨sp, _⟩ := rNum2_spec (rLim most) 6 s
  rw [hq] at sp
  obtain ⟨hb, _, hf, hN, hle⟩ := sp hn
  simp only at hN hle
  have hnn : rLoadN most s = v := by unfold rLoadN; rw [hN]
  have hS : rLoadS most s = rShort v (rLong most s { s with pos := s.pos + n, bits := 0 }) := by unfold rLoadS; rw [hN, hnn]
  unfold rLoad
  rw [if_pos hb, hS, hnn]
  by_cases hm : most < 0
  · rw [if_pos hm]
    have hL : rLong most s { s with pos := s.pos + n, bits := 0 } = { s with pos := s.pos + n, bits := 0, fault := errAt s.pos 6 } := by
      unfold rLong rFail
      simp [hf, hm]
    have hSh : rShort v { s with pos := s.pos + n, bits := 0, fault := errAt s.pos 6 } = { s with pos := s.pos + n, bits := 0, fault := errAt s.pos 6 } := by
      unfold rShort; rw [if_neg (by simp [errAt])]
    rw [hL, hSh, if_pos (by simp [errAt])]
    unfold rBack rFail
    simp [hf]
  · rw [if_neg hm]
    have hL : rLong most s { s with pos := s.pos + n, bits := 0 } = { s with pos := s.pos + n, bits := 0 } := by
      unfold rLong; rw [if_neg (fun h => hm h.2)]
    rw [hL]
    by_cases hv : ((s.xs.length - (s.pos + n) : Nat) : Int) < v
    · rw [if_pos hv]
      have hSh : rShort v { s with pos := s.pos + n, bits := 0 } = { s with pos := s.pos + n, bits := 0, fault := errAt s.xs.length 30 } := by
        unfold rShort rFail
        simp only
        rw [if_pos ⟨hf, hv⟩, if_pos hf]
      rw [hSh, if_pos (by simp [errAt])]
      unfold rBack rFail
      simp [hf]
    · rw [if_neg hv]
      have hSh : rShort v { s with pos := s.pos + n, bits := 0 } = { s with pos := s.pos + n, bits := 0 } := by
        unfold rShort; rw [if_neg (fun h => hv h.2)]
      rw [hSh, if_neg (by simp [hf])]
      unfold rTake
      rw [rBegin_ok (s := { s with pos := s.pos + n, bits := 0 }) hf rfl, if_pos rfl, if_neg (by simp only; omega)]

set_option maxHeartbeats 800000 in
theorem rLoad_len' {m : Int} {s : RS} (ok : RSok s) : (rLoad m s).2.length ≤ s.xs.length := by
  have t : ∀ (n : Nat) (q : RS), (rTake n q).2.length ≤ q.xs.length := fun n q => by
    unfold rTake
    split
    · split
      · simp
      · rw [List.length_take, List.length_drop]; omega
    · simp
  unfold rLoad
  split
  · split
    · simp
    · have := t (rLoadN m s).toNat (rLoadS m s)
      rw [rLoadS_xs] at this
      exact this
  · simp
end Go.Proofs.YtmgiichlccdcfaaDoor
