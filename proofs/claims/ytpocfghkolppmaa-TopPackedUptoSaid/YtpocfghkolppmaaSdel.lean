/- slices.Delete of one sample. -/
import Derived.Test.YtpocfghkolppmaaSer
set_option linter.unusedVariables false
set_option linter.unusedSimpArgs false
set_option maxRecDepth 100000
namespace Go.Proofs.Ytpocfghkolppmaa
open Go

/-- the zero of an element is of cells. -/
def zeroOneB (P : Program) (e : TypeId) : Bool := match P.info? e with
  | some i => (match i.zero with | some z => z.cells.toList.all (·.oneCell') | none => false)
  | none => false
theorem zero_one {P : Program} {t e : TypeId} {size bytes : Nat} (h : zeroOneB P e = true) : ∀ z, elemFacts P t e size bytes z → ∀ u ∈ z.cells.toList, u.oneCell' = true := by
  rintro z ⟨_, ⟨i, hi, hz, _, _⟩, _, _⟩ u hu
  simp only [zeroOneB, hi, hz, List.all_eq_true] at h
  exact h u hu
theorem del_cells {l : List Smp} {i : Nat} (hi : i < l.length) {cur zs : List Value} (hct : cur.take (l.length * 3) = l.flatMap scells) {c1 : List Value} {m : Nat} (hm : m = l.length - (i + 1)) {o : Nat} (ho : o = (l.length - 1) * 3)
    (h1 : c1 = cur.take (i * 3) ++ (l.drop (i + 1)).flatMap scells ++ cur.drop (i * 3 + ((l.drop (i + 1)).flatMap scells).length)) (r : List Value) :
    (c1.take o ++ zs ++ r).take ((l.take i ++ l.drop (i + 1)).length * 3) = (l.take i ++ l.drop (i + 1)).flatMap scells := by
  have hA : ((l.take i).flatMap scells).length = i * 3 := by rw [flat_length, List.length_take]; omega
  have hD : ((l.drop (i + 1)).flatMap scells).length = (l.length - (i + 1)) * 3 := by rw [flat_length, List.length_drop]
  have hn : (l.take i ++ l.drop (i + 1)).length = l.length - 1 := by rw [List.length_append, List.length_take, List.length_drop]; omega
  have e1 : cur.take (i * 3) = (l.take i).flatMap scells := by
    rw [flat_take, ← hct, List.take_take, Nat.min_eq_left (show i * 3 ≤ l.length * 3 by omega)]
  rw [e1] at h1
  have e2 : c1.take o = (l.take i).flatMap scells ++ (l.drop (i + 1)).flatMap scells := by
    rw [h1]; exact List.take_left' (by rw [List.length_append, hA, hD]; omega)
  rw [e2, List.append_assoc _ zs, List.flatMap_append, hn]
  exact List.take_left' (by rw [List.length_append, hA, hD]; omega)
end Go.Proofs.Ytpocfghkolppmaa
