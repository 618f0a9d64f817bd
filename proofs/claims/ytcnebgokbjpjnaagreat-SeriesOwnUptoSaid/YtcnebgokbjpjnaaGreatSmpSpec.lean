/- Samples in memory. -/
import Derived.Test.YtcnebgokbjpjnaaGreatMem
import Derived.Test.YtcnebgokbjpjnaaGreatSmpDef
import Derived.Test.YtcnebgokbjpjnaaGreatArith
set_option linter.unusedVariables false
set_option linter.unusedSimpArgs false
set_option maxRecDepth 100000
namespace Go.Proofs.YtcnebgokbjpjnaaGreat
open Go

theorem Rd.flat3 {w : World} {A : Option Addr} {n : Nat} {l : List (Int × Int × Int)} (h : Rd w A n 3 (l.flatMap scells)) : l.length = n := by
  have h1 := h.1
  rw [flat_len scells (size := 3) l (fun _ _ => rfl)] at h1
  omega
theorem Rd.smp {w : World} {A : Option Addr} {n : Nat} {l : List (Int × Int × Int)} (h : Rd w A n 3 (l.flatMap scells)) {k : Nat} (hk : k < n) :
    ∃ ad, A = some ad ∧ w.cell? (ad.add (k * 3)) = some (.int .i64 (l.getD k (0, 0, 0)).1) ∧
      (∀ {K : VK} {tk : Tok K}, K (.agg #[.int .u8 (l.getD k (0, 0, 0)).2.1, .int .i64 (l.getD k (0, 0, 0)).2.2]) → aggK w ((ad.add (k * 3)).add 1) (some 2) K tk) ∧
      (∀ {K : VK} {tk : Tok K}, K (.agg #[.int .i64 (l.getD k (0, 0, 0)).1, .int .u8 (l.getD k (0, 0, 0)).2.1, .int .i64 (l.getD k (0, 0, 0)).2.2]) → aggK w (ad.add (k * 3)) (some 3) K tk) := by
  have hl := h.flat3
  have hg : l[k]? = some (l.getD k (0, 0, 0)) := by rw [List.getD_eq_getElem?_getD, List.getElem?_eq_getElem (by omega)]; rfl
  obtain ⟨_, ad, hA, hc⟩ := h.flat (size := 3) (fun _ _ => rfl) hg (by omega)
  refine ⟨ad, hA, ?_, fun hK => ⟨[.int .u8 (l.getD k (0, 0, 0)).2.1, .int .i64 (l.getD k (0, 0, 0)).2.2], rfl, fun j v hv => ?_, hK⟩, fun hK => ⟨scells (l.getD k (0, 0, 0)), rfl, fun j v hv => hc j v hv, hK⟩⟩
  · have := hc 0 _ rfl
    rwa [add_zero'] at this
  · rw [add_add', Nat.add_comm 1 j, ← add_add', add_add']
    have := hc (j + 1) v (by simpa [scells] using hv)
    exact this
theorem scells_one : ∀ (l : List (Int × Int × Int)), ∀ u ∈ l.flatMap scells, u.oneCell' = true := by
  intro l u hu
  obtain ⟨v, _, hv⟩ := List.mem_flatMap.1 hu
  simp only [scells, List.mem_cons, List.not_mem_nil, or_false] at hv
  rcases hv with rfl | rfl | rfl <;> rfl

end Go.Proofs.YtcnebgokbjpjnaaGreat
