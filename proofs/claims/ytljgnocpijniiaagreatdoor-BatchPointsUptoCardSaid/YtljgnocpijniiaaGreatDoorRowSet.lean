/- Rows of structs: one element written over; two elements exchanged. -/
import Derived.Test.YtljgnocpijniiaaGreatDoorRow
set_option linter.unusedVariables false
set_option linter.unusedSimpArgs false
set_option maxRecDepth 100000
namespace Go.Proofs.YtljgnocpijniiaaGreatDoor
open Go

theorem flatMap_set {α : Type} {f : α → List Value} {size : Nat} (hf : ∀ a, (f a).length = size) : ∀ (l : List α) (k : Nat) (x : α), k < l.length →
    (l.set k x).flatMap f = (l.flatMap f).take (k * size) ++ f x ++ (l.flatMap f).drop (k * size + size)
  | [], k, x, h => by simp at h
  | a :: l, 0, x, _ => by
    simp only [List.set_cons_zero, List.flatMap_cons, Nat.zero_mul, List.take_zero, List.nil_append, Nat.zero_add]
    rw [← hf a, List.drop_left]
  | a :: l, k + 1, x, h => by
    have ih := flatMap_set hf l k x (by simpa using h)
    simp only [List.set_cons_succ, List.flatMap_cons]
    rw [ih, show (k + 1) * size = (f a).length + k * size by rw [hf a, Nat.add_mul, Nat.one_mul, Nat.add_comm], Nat.add_assoc, List.take_length_add_append, List.drop_length_add_append]
    simp [List.append_assoc]
theorem LRow.stElem {P : Program} {w : World} {e : TypeId} {size n c : Nat} {ad : Addr} {α : Type} {f : α → List Value} {l : List α} (hf : ∀ a, (f a).length = size) (h1 : ∀ a, ∀ u ∈ f a, u.oneCell' = true)
    (h : LRow w e size (.slice (some ad) n c) n (l.flatMap f)) (hl : l.length = n) {k : Nat} (hk : k < n) (x : α) {K : WK} {tk : Tok K}
    (hK : ∀ w', LRow w' e size (.slice (some ad) n c) n ((l.set k x).flatMap f) → Keep (fun q => q = ad.block) w w' → K w') : aggSt P w (ad.add (k * size)) (f x) K tk := by
  rcases h.2 with ⟨h0, _⟩ | ⟨g, cap, cur, hv, hg, h2, h3, h4, h5⟩
  · cases h0
  injection hv with hA _ hc
  injection hA with hA
  subst hA
  subst hc
  rw [add_lit', Nat.zero_add]
  have hks : k * size + size ≤ n * size := by
    have := Nat.mul_le_mul_right size (show k + 1 ≤ n from hk)
    rwa [Nat.add_mul, Nat.one_mul] at this
  have hns : n * size ≤ c * size := Nat.mul_le_mul_right _ h2
  refine hg.stAgg (by rw [hf]; omega) (h1 x) (fun w' hB hk' => hK w' ⟨?_, .inr ⟨g, c, _, rfl, hB, h2, h3, ?_, ?_⟩⟩ hk')
  · rw [flat_len f (size := size) _ (fun a _ => hf a), List.length_set, hl]
  · simp only [List.length_append, List.length_take, List.length_drop, hf]
    omega
  · rw [flatMap_set hf l k x (by omega), ← h5, hf, List.take_take, Nat.min_eq_left (by omega)]
    have e1 : (cur.take (k * size) ++ f x).length = k * size + size := by simp only [List.length_append, List.length_take, hf]; omega
    rw [List.take_append, e1, List.take_of_length_le (by omega), List.drop_take]
theorem LRow.elem {w : World} {e : TypeId} {size n c : Nat} {ad : Addr} {α : Type} {f : α → List Value} {l : List α} (hf : ∀ a, (f a).length = size) (h0 : 0 < size)
    (h : LRow w e size (.slice (some ad) n c) n (l.flatMap f)) {k : Nat} {x : α} (hk : l[k]? = some x) {K : VK} {tk : Tok K} (hK : K (.agg (f x).toArray)) : aggK w (ad.add (k * size)) (some size) K tk := by
  obtain ⟨_, ad', hA, hc⟩ := h.rd.flat (size := size) (fun a _ => hf a) hk h0
  injection hA with hA
  subst hA
  exact ⟨f x, by rw [hf], hc, hK⟩
theorem flatMap_set_cell {α : Type} {f : α → List Value} {size : Nat} (hf : ∀ a, (f a).length = size) {o : Nat} (ho : o < size) {u : Value} : ∀ (l : List α) (k : Nat) (x x' : α), l[k]? = some x → f x' = (f x).set o u →
    (l.flatMap f).set (k * size + o) u = (l.set k x').flatMap f
  | [], k, x, x', h, _ => by simp at h
  | a :: l, 0, x, x', h, hx => by
    have h : a = x := by simpa using h
    subst h
    simp only [List.flatMap_cons, List.set_cons_zero, Nat.zero_mul, Nat.zero_add]
    rw [List.set_append_left _ _ (by rw [hf]; exact ho), hx]
  | a :: l, k + 1, x, x', h, hx => by
    have ih := flatMap_set_cell hf ho l k x x' (by simpa using h) hx
    simp only [List.flatMap_cons, List.set_cons_succ]
    rw [List.set_append_right _ _ (by rw [hf, Nat.add_mul]; omega), hf, show (k + 1) * size + o - size = k * size + o by rw [Nat.add_mul]; omega, ih]
theorem LRow.stCell {w : World} {e : TypeId} {size n c : Nat} {ad : Addr} {α : Type} {f : α → List Value} {l : List α} (hf : ∀ a, (f a).length = size)
    (h : LRow w e size (.slice (some ad) n c) n (l.flatMap f)) (hl : l.length = n) {k : Nat} (hk : k < n) {x x' : α} (hx : l[k]? = some x) {o : Nat} (ho : o < size) {u : Value} (hx' : f x' = (f x).set o u) {K : WK} {tk : Tok K}
    (hK : ∀ w', LRow w' e size (.slice (some ad) n c) n ((l.set k x').flatMap f) → Keep (fun q => q = ad.block) w w' → K w') : cellSt w ((ad.add (k * size)).add o) u K tk := by
  rcases h.2 with ⟨h0, _⟩ | ⟨g, cap, cur, hv, hg, h2, h3, h4, h5⟩
  · cases h0
  injection hv with hA _ hc
  injection hA with hA
  subst hA
  subst hc
  rw [add_lit', add_lit', Nat.zero_add]
  have hks : k * size + size ≤ n * size := by
    have := Nat.mul_le_mul_right size (show k + 1 ≤ n from hk)
    rwa [Nat.add_mul, Nat.one_mul] at this
  have hns : n * size ≤ c * size := Nat.mul_le_mul_right _ h2
  refine hg.st (by omega) (hK _ ⟨?_, .inr ⟨g, c, _, rfl, hg.set _ _, h2, h3, by rw [List.length_set]; exact h4, ?_⟩⟩ (Keep.set1 w g _ u))
  · rw [flat_len f (size := size) _ (fun a _ => hf a), List.length_set, hl]
  · rw [← flatMap_set_cell hf ho l k x x' hx hx', ← h5, List.take_set]
/-- two elements of a row, exchanged. -/
theorem swap_at {α : Type} (pre mid suf : List α) (x y : α) :
    (pre ++ x :: (mid ++ y :: suf))[pre.length]? = some x ∧ (pre ++ x :: (mid ++ y :: suf))[pre.length + 1 + mid.length]? = some y ∧
      ((pre ++ x :: (mid ++ y :: suf)).set pre.length y).set (pre.length + 1 + mid.length) x = pre ++ y :: (mid ++ x :: suf) ∧
      ((pre ++ x :: (mid ++ y :: suf)).set (pre.length + 1 + mid.length) x).set pre.length y = pre ++ y :: (mid ++ x :: suf) := by
  have e : pre.length + 1 + mid.length - pre.length = mid.length + 1 := by omega
  refine ⟨by simp, ?_, ?_, ?_⟩
  · rw [List.getElem?_append_right (by omega), e, List.getElem?_cons_succ, List.getElem?_append_right (by omega)]; simp
  · rw [List.set_append_right _ _ (Nat.le_refl _), Nat.sub_self, List.set_cons_zero, List.set_append_right _ _ (by omega), e, List.set_cons_succ, List.set_append_right _ _ (by omega)]; simp
  · rw [List.set_append_right _ _ (by omega), e, List.set_cons_succ, List.set_append_right _ _ (by omega), List.set_append_right _ _ (Nat.le_refl _)]; simp

end Go.Proofs.YtljgnocpijniiaaGreatDoor
