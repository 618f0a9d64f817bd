/- Samples in plain terms. -/
import Derived.Test.YtcnebgokbjpjnaaGreatDen
set_option linter.unusedVariables false
set_option linter.unusedSimpArgs false
set_option maxRecDepth 100000
namespace Go.Proofs.YtcnebgokbjpjnaaGreat
open Go

/-- what a value may be: as the program's type holds it. -/
def VOk (v : Int × Int) : Prop := (0 ≤ v.1 ∧ v.1 < 256) ∧ -9223372036854775808 ≤ v.2 ∧ v.2 < 9223372036854775808
/-- a sample: its time, and its value's kind and number. -/
def scells (s : Int × Int × Int) : List Value := [.int .i64 s.1, .int .u8 s.2.1, .int .i64 s.2.2]
def vcells (v : Int × Int) : List Value := [.int .u8 v.1, .int .i64 v.2]
theorem scells_len (s : Int × Int × Int) : (scells s).length = 3 := rfl
def SOk (s : Int × Int × Int) : Prop := (-9223372036854775808 ≤ s.1 ∧ s.1 < 9223372036854775808) ∧ VOk s.2
theorem sok_get {l : List (Int × Int × Int)} (h0 : ∀ v ∈ l, SOk v) (i : Nat) : SOk (l.getD i (0, 0, 0)) := by
  rw [List.getD_eq_getElem?_getD]
  cases hh : l[i]? with
  | none => simp [SOk, VOk]
  | some z => exact h0 z (List.mem_of_getElem? hh)
theorem take_snoc {α : Type} {l : List α} {k : Nat} (d : α) (h : k < l.length) : l.take (k + 1) = l.take k ++ [l.getD k d] := by
  rw [List.take_succ_eq_append_getElem h, List.getD_eq_getElem?_getD, List.getElem?_eq_getElem h]; rfl

end Go.Proofs.YtcnebgokbjpjnaaGreat
