/- A Reader in plain terms: the bytes, where it stands, the bits read of the byte ahead, the fault; what each read makes of it. -/
import Derived.Test.YtcjlhfmjcioeeaaWspec
set_option linter.unusedVariables false
set_option linter.unusedSimpArgs false
namespace Go.Proofs.Ytcjlhfmjcioeeaa
open Go

structure RS where
  xs : List Int
  pos : Nat
  bits : Nat
  fault : Option (TypeId × Value)
def errV : Option (TypeId × Value) → Value
  | none => .nilIface
  | some (t, v) => .iface t v
structure RSok (s : RS) : Prop where
  le : s.pos ≤ s.xs.length
  b8 : s.bits < 8
  b1 : 0 < s.bits → 0 < s.pos
  len : s.xs.length ≤ 140737488355328
  bytes : ∀ z ∈ s.xs, 0 ≤ z ∧ z < 256

def rRest (s : RS) : Bool := decide (0 < s.bits) && !decide (s.xs.getD (s.pos - 1) 0 * 2 ^ s.bits % 256 = 0)
def rFail (s : RS) (e : Option (TypeId × Value)) : RS := if s.fault = none then { s with fault := e } else s
/-- the parts of an error with a place: by the seat's type numbers. -/
def errAt (pos : Nat) (e : Int) : Option (TypeId × Value) := some (198, .agg #[.int .i64 pos, .iface 105 (.int .i64 e)])
def rBegin (s : RS) : RS × Bool :=
  if s.fault ≠ none then (s, false)
  else if rRest s then (rFail s (errAt (s.pos - 1) 31), false)
  else (s, true)
/-- the next n bytes. -/
def rTake (n : Nat) (s : RS) : RS × List Int :=
  if (rBegin s).2 then
    if s.xs.length - s.pos < n then (rFail s (errAt s.xs.length 30), [])
    else ({ s with pos := s.pos + n, bits := 0 }, (s.xs.drop s.pos).take n)
  else ((rBegin s).1, [])

theorem RSok.fail {s : RS} (h : RSok s) (e : Option (TypeId × Value)) : RSok (rFail s e) := by
  unfold rFail; split
  · exact ⟨h.le, h.b8, h.b1, h.len, h.bytes⟩
  · exact h
theorem RSok.begin {s : RS} (h : RSok s) : RSok (rBegin s).1 := by
  unfold rBegin; split
  · exact h
  split
  · exact h.fail _
  · exact h
theorem RSok.take {s : RS} (h : RSok s) (n : Nat) : RSok (rTake n s).1 := by
  unfold rTake; split
  · split
    · exact h.fail _
    · have := h.le
      exact ⟨by simp only; omega, by simp, by simp, h.len, h.bytes⟩
  · exact h.begin
theorem rBegin_true {s : RS} (h : (rBegin s).2 = true) : (rBegin s).1 = s ∧ s.fault = none ∧ rRest s = false := by
  unfold rBegin at h ⊢
  split at h
  · cases h
  · rename_i h0
    split at h
    · cases h
    · rename_i h1
      exact ⟨by rw [if_neg h0, if_neg h1], by simpa using h0, by simpa using h1⟩
theorem rBegin_ok {s : RS} (h0 : s.fault = none) (h1 : s.bits = 0) : rBegin s = (s, true) := by
  unfold rBegin rRest
  simp [h0, h1]
theorem rTake_ok {s : RS} {n : Nat} (h0 : s.fault = none) (h1 : s.bits = 0) (h2 : s.pos + n ≤ s.xs.length) : rTake n s = ({ s with pos := s.pos + n, bits := 0 }, (s.xs.drop s.pos).take n) := by
  unfold rTake
  rw [rBegin_ok h0 h1, if_pos rfl, if_neg (by omega)]
theorem rTake_len {s : RS} {n : Nat} : (rTake n s).2.length = 0 ∨ (rTake n s).2.length = n := by
  unfold rTake
  split
  · split
    · left; rfl
    · right; rw [List.length_take, List.length_drop]; omega
  · left; rfl
/-- bytes read as one number, the highest first. -/
def beNat (l : List Int) : Int := l.foldl (fun v c => v * 256 + c) 0

end Go.Proofs.Ytcjlhfmjcioeeaa
