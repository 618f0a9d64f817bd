/- weirmem.SameDeltas, of like lists. -/
import Derived.Test.YtpocfghkolppmaaHandS
set_option linter.unusedVariables false
set_option linter.unusedSimpArgs false
set_option maxRecDepth 100000
namespace Go.Proofs.Ytpocfghkolppmaa
open Go

/-- what became of a time, of no series. -/
structure Dlt where
  t : Int
  had : Bool
  old : Int × Int
  new : Int × Int
def dlt0 : Dlt := ⟨0, false, (0, 0), (0, 0)⟩
def dcells (d : Dlt) : List Value := [.string ⟨#[]⟩, .slice none 0 0, .string ⟨#[]⟩, .int .i64 d.t, .bool d.had, .bool true, .int .u8 d.old.1, .int .i64 d.old.2, .int .u8 d.new.1, .int .i64 d.new.2]
abbrev serV : Value := .agg #[.string ⟨#[]⟩, .slice none 0 0, .string ⟨#[]⟩]
theorem Rd.dlts_len {w : World} {A : Option Addr} {n : Nat} {D : List Dlt} (h : Rd w A n 10 (D.flatMap dcells)) : D.length = n := by
  have h1 := h.1
  rw [flat_len dcells (size := 10) D (fun _ _ => rfl)] at h1
  omega
theorem Rd.dlt {w : World} {ad : Addr} {n : Nat} {D : List Dlt} (h : Rd w (some ad) n 10 (D.flatMap dcells)) {k : Nat} (hk : k < n) :
    ∀ j v, (dcells (D.getD k dlt0))[j]? = some v → w.cell? ((ad.add (k * 10)).add j) = some v := by
  have hl := h.dlts_len
  have hg : D[k]? = some (D.getD k dlt0) := by rw [List.getD_eq_getElem?_getD, List.getElem?_eq_getElem (by omega)]; rfl
  obtain ⟨_, ad', hA, hc⟩ := h.flat (size := 10) (fun _ _ => rfl) hg (by omega)
  injection hA with hA
  subst hA
  exact hc
end Go.Proofs.Ytpocfghkolppmaa
