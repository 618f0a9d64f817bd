
/- What reading leaves as an error is one with a place. -/
import Derived.Test.YtmgiichlccdcfaaDoorRR4
set_option linter.unusedVariables false
set_option linter.unusedSimpArgs false
set_option maxRecDepth 100000
namespace Go.Proofs.YtmgiichlccdcfaaDoor
open Go

theorem rTake_fok {n : Nat} {s : RS} (h : FOk s.fault) : FOk (rTake n s).1.fault := by
  unfold rTake; split
  · split
    · exact h.fail (FOk.err (by decide))
    · exact h
  · exact rBegin_fok h
theorem rNumber_fok {m a : Int} (ha : a ≠ 0) {s : RS} (h : FOk s.fault) : FOk (rNumber m a s).1.fault := by
  unfold rNumber; split
  · split
    · rename_i i e hsc; exact h.fail (FOk.err (scan_err hsc))
    · split
      · exact h.fail (FOk.err ha)
      · exact h
  · exact rBegin_fok h
theorem rLoad_fok {m : Int} {s : RS} (h : FOk s.fault) : FOk (rLoad m s).1.fault := by
  have h1 : FOk (rLoadS m s).fault := by
    unfold rLoadS rShort rLong
    have h0 := rNumber_fok (m := rLim m) (a := 6) (by decide) h
    split
    · split
      · exact (h0.fail (FOk.err (by decide))).fail (FOk.err (by decide))
      · exact h0.fail (FOk.err (by decide))
    · split
      · exact h0.fail (FOk.err (by decide))
      · exact h0
  unfold rLoad; split
  · split
    · exact h1
    · exact rTake_fok h1
  · exact rBegin_fok h
theorem rBits_fok {n : Int} {s : RS} (h : FOk s.fault) : FOk (rBits n s).1.fault := by
  have hx : ∀ (k : Nat) (s : RS) (v : Int), (rBitsN k s v).1.fault = s.fault := fun k => by
    induction k with
    | zero => intros; rfl
    | succ k ih => intro s v; rw [rBitsN, ih]; rfl
  unfold rBits; split
  · exact h
  split
  · exact h.fail (FOk.err (by decide))
  · rw [hx]; exact h

end Go.Proofs.YtmgiichlccdcfaaDoor
