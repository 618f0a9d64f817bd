
/- Bytes read with their length by wire.Reader: load, Raw, Text. -/
import Derived.Test.YtmgiichlccdcfaaDoorRmore
set_option linter.unusedVariables false
set_option linter.unusedSimpArgs false
set_option maxRecDepth 100000
namespace Go.Proofs.YtmgiichlccdcfaaDoor
open Go

def rLong (most : Int) (s q : RS) : RS := if q.fault = none ∧ most < 0 then rFail q (errAt s.pos 6) else q
def rShort (n : Int) (q : RS) : RS := if q.fault = none ∧ ((q.xs.length - q.pos : Nat) : Int) < n then rFail q (errAt q.xs.length 30) else q
def rBack (s q : RS) : RS := { q with pos := s.pos, bits := s.bits }
def rLim (most : Int) : Int := if most > 0 then most else 0
def rLoadN (most : Int) (s : RS) : Int := (rNumber (rLim most) 6 s).2
def rLoadS (most : Int) (s : RS) : RS := rShort (rLoadN most s) (rLong most s (rNumber (rLim most) 6 s).1)
def rLoad (most : Int) (s : RS) : RS × List Int :=
  if (rBegin s).2 then
    if (rLoadS most s).fault ≠ none then (rBack s (rLoadS most s), [])
    else rTake (rLoadN most s).toNat (rLoadS most s)
  else ((rBegin s).1, [])
theorem rFail_xs (s : RS) (e : Option (TypeId × Value)) : (rFail s e).xs = s.xs := by unfold rFail; split <;> rfl
theorem rBegin_xs (s : RS) : (rBegin s).1.xs = s.xs := by unfold rBegin; split; rfl; split; exact rFail_xs _ _; rfl
theorem rNumber_xs (m a : Int) (s : RS) : (rNumber m a s).1.xs = s.xs := by
  unfold rNumber
  split
  · split
    · exact rFail_xs _ _
    · split
      · exact rFail_xs _ _
      · rfl
  · exact rBegin_xs s
theorem rLong_xs (m : Int) (s q : RS) : (rLong m s q).xs = q.xs := by unfold rLong; split; exact rFail_xs _ _; rfl
theorem rShort_xs (n : Int) (q : RS) : (rShort n q).xs = q.xs := by unfold rShort; split; exact rFail_xs _ _; rfl
theorem RSok.long {q : RS} (h : RSok q) (m : Int) (s : RS) : RSok (rLong m s q) := by unfold rLong; split; exact h.fail _; exact h
theorem RSok.short {q : RS} (h : RSok q) (n : Int) : RSok (rShort n q) := by unfold rShort; split; exact h.fail _; exact h
theorem RSok.back {s q : RS} (h : RSok q) (hs : RSok s) (hx : q.xs = s.xs) : RSok (rBack s q) := ⟨by simp only [rBack, hx]; exact hs.le, hs.b8, hs.b1, h.len, h.bytes⟩
theorem RSok.loadS {s : RS} (h : RSok s) (most : Int) : RSok (rLoadS most s) := ((h.number _ _).long _ _).short _
theorem rLoadS_xs (most : Int) (s : RS) : (rLoadS most s).xs = s.xs := by rw [rLoadS, rShort_xs, rLong_xs, rNumber_xs]
theorem RSok.load {s : RS} (h : RSok s) (most : Int) : RSok (rLoad most s).1 := by
  unfold rLoad
  split
  · split
    · exact (h.loadS most).back h (rLoadS_xs most s)
    · exact (h.loadS most).take _
  · exact h.begin

end Go.Proofs.YtmgiichlccdcfaaDoor
