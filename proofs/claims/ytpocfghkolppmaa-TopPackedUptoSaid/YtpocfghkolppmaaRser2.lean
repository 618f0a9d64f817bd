/- The document's series: Put, Cut. -/
import Derived.Test.YtpocfghkolppmaaRser
import Derived.Test.YtpocfghkolppmaaLive8
set_option linter.unusedVariables false
set_option linter.unusedSimpArgs false
set_option maxRecDepth 100000
namespace Go.Proofs.Ytpocfghkolppmaa
open Go

theorem Stand.has {l : List Smp} (hr : Rise l) {t : Int} {i : Nat} (h : Stand l t i) : sHas l t = isAt l t i := by
  rw [sHas, h.get hr]
  cases isAt l t i <;> rfl
/-- what stands from a place on. -/
theorem LRow.cut {w : World} {A : Option Addr} {c n : Nat} {l : List Smp} (h : LRow w 37 3 (.slice A n c) l.length (l.flatMap scells)) {i : Nat} (hi : i ≤ l.length) (hn : n = l.length) :
    ∃ A', (if c = i then A else Option.map (fun x => x.add (i * 3)) A) = A' ∧ Rd w A' (n - i) 3 ((l.drop i).flatMap scells) := by
  subst hn
  obtain ⟨A', c', he, hnc, hA⟩ := h.form
  injection he with h1 _ h2
  subst h1 h2
  have := (h.rd).cut (k := i) (m := l.length) (cap := c) hi (Nat.le_refl _) hnc
  refine ⟨_, rfl, ?_⟩
  rw [flat_drop]
  have e : (l.flatMap scells).length = l.length * 3 := flat_length l
  rw [List.take_of_length_le (by rw [List.length_drop, e, Nat.sub_mul]; omega)] at this
  exact this
theorem app_smp {w : World} {v : Value} {xs ys : List Smp} (h : SRow w v xs) {A : Option Addr} {m c : Nat} (hr : Rd w A m 3 (ys.flatMap scells)) (hb : xs.length + ys.length ≤ 5864062014634) {K : VWK} {tk : Tok K} {ty : TypeId}
    (hK : ∀ A' c' w', SRow w' (.slice A' (xs.length + ys.length) c') (xs ++ ys) → Keep (fpV v) w w' → (∀ k, fpV (.slice A' (xs.length + ys.length) c') k → fpV v k ∨ k = w.heap.size) → K (.slice A' (xs.length + ys.length) c') w') :
    appK Try.prog [22, 22] ty [v, .slice A m c] w K tk := by
  have hm := hr.flat3
  subst hm
  refine appK_l (bytes := 24) (by kernel_rfl) h hr (fun u hu => scells_one _ u hu) (by simp only [maxLen]; omega) (by omega) (fun A' c' w' hL k1 f1 _ => hK A' c' w' ?_ k1 f1)
  unfold SRow
  rw [List.length_append, List.flatMap_append]
  exact hL
theorem Stand.ex {l : List Smp} (hr : Rise l) (t : Int) : ∃ i, Stand l t i := by
  induction l with
  | nil => exact ⟨0, Nat.le_refl _, fun j hj => by omega, fun j _ hj => by simp at hj⟩
  | cons a l ih =>
    obtain ⟨h1, h2⟩ := List.pairwise_cons.1 hr
    by_cases ha : a.1 < t
    · obtain ⟨i, hi⟩ := ih h2
      refine ⟨i + 1, by have := hi.le; simp; omega, fun j hj => ?_, fun j hj hjl => ?_⟩
      · cases j with
        | zero => exact ha
        | succ j => exact hi.lo j (by omega)
      · cases j with
        | zero => omega
        | succ j => exact hi.hi j (by omega) (by simpa using hjl)
    · refine ⟨0, Nat.zero_le _, fun j hj => by omega, fun j _ hjl => ?_⟩
      cases j with
      | zero => show t ≤ a.1; omega
      | succ j =>
        have hjl' : j < l.length := by simpa using hjl
        have := h1 l[j] (List.getElem_mem hjl')
        show t ≤ (l.getD j (0, 0, 0)).1
        rw [getD_lt hjl']; omega
theorem SRow_len {w w' : World} {v : Value} {l : List Smp} {n : Nat} (h : SRow w v l) (hn : l.length = n) (g : Grow w w') : SRow w' v l := h.grow g
end Go.Proofs.Ytpocfghkolppmaa
