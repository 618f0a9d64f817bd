/- The document's series: New, ahead, Get, at, Len, First, Last, Before, Behind, and the program's. -/
import Derived.Test.YtpocfghkolppmaaSdl
set_option linter.unusedVariables false
set_option linter.unusedSimpArgs false
set_option maxRecDepth 100000
namespace Go.Proofs.Ytpocfghkolppmaa
open Go

/-- how many lie ahead of a time. -/
def aheadN (l : List Smp) (t : Int) : Nat := (l.filter (fun s => decide (s.1 < t))).length
theorem Stand.ahead {l : List Smp} {t : Int} {i : Nat} (h : Stand l t i) : aheadN l t = i := by
  rw [aheadN, h.take, List.length_take]; have := h.le; omega
abbrev cS (s : Smp) : Value := .agg #[.int .i64 s.1, .int .u8 s.2.1, .int .i64 s.2.2]
/-- the sample of a number. -/
def nthV (l : List Smp) (z : Int) : Smp × Bool := if 0 ≤ z ∧ z < l.length then (l.getD z.toNat (0, 0, 0), true) else ((0, 0, 0), false)
end Go.Proofs.Ytpocfghkolppmaa
