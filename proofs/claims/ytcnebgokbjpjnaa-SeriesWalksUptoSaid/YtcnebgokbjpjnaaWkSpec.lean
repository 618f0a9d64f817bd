/- SeriesWalks in plain terms. -/
import Derived.Test.YtcnebgokbjpjnaaPlays8
set_option linter.unusedVariables false
set_option linter.unusedSimpArgs false
set_option maxRecDepth 100000
namespace Go.Proofs.Ytcnebgokbjpjnaa
open Go

theorem flat_map1 {α β : Type} (f : α → List β) (g : α → β) : ∀ l : List α, (∀ x ∈ l, f x = [g x]) → l.flatMap f = l.map g
  | [], _ => rfl
  | x :: l, h => by
    rw [List.flatMap_cons, h x (List.mem_cons_self), flat_map1 f g l (fun y hy => h y (List.mem_cons_of_mem _ hy))]
    rfl
def freshD (s : Smp) : Dlt := ⟨s.1, false, (0, 0), s.2⟩
theorem loadD_map (xs : List Smp) : loadD [] xs = (sLoad [] xs).map freshD := by
  rw [← loadD_eq Rise.nil xs]
  have hr := Rise.nil.load xs
  refine flat_map1 _ _ _ (fun s hs => ?_)
  have h1 : sGet (sLoad [] xs) s.1 = some s.2 := (get_some hr).2 hs
  have h2 := (oldHas h1).1
  have h3 : sHas [] s.1 = false := rfl
  have h4 : sOld [] s.1 = (0, 0) := rfl
  rw [dOf, h3, h4, h2, if_pos (.inl rfl)]
  rfl
theorem sload_in : ∀ (xs : List Smp) {l m : List Smp}, Rise l → Rise m → ∀ {t : Int}, t ∈ xs.map (·.1) → sGet (sLoad l xs) t = sGet (sLoad m xs) t
  | [], _, _, _, _, _, h => by simp at h
  | x :: xs, l, m, hl, hm, t, h => by
    have e1 : sLoad l (x :: xs) = sLoad (sPut l x.1 x.2) xs := rfl
    have e2 : sLoad m (x :: xs) = sLoad (sPut m x.1 x.2) xs := rfl
    rw [e1, e2]
    by_cases ht : t ∈ xs.map (·.1)
    · exact sload_in xs (hl.put _ _) (hm.put _ _) ht
    · have hx : t = x.1 := by
        simp only [List.map_cons, List.mem_cons] at h
        exact h.resolve_right ht
      rw [sload_get xs (hl.put _ _) ht, sload_get xs (hm.put _ _) ht, get_put hl, get_put hm, if_pos hx, if_pos hx]
theorem load_again (xs : List Smp) : loadD (sLoad [] xs) xs = [] := by
  have hr := Rise.nil.load xs
  rw [loadD, List.flatMap_eq_nil_iff]
  intro t ht
  have hm := loadT_mem.1 ht
  obtain ⟨v, hv⟩ := sload_mem xs Rise.nil hm
  have h2 := sload_in xs hr Rise.nil hm
  rw [hv] at h2
  obtain ⟨a1, a2⟩ := oldHas hv
  obtain ⟨b1, b2⟩ := oldHas h2
  rw [dOf, a1, a2, b1, if_neg (by simp)]
theorem sload_sub : ∀ (xs : List Smp) {l : List Smp} {s : Smp}, s ∈ sLoad l xs → s ∈ l ∨ s ∈ xs
  | [], _, _, h => .inl h
  | x :: xs, l, s, h => by
    have e1 : sLoad l (x :: xs) = sLoad (sPut l x.1 x.2) xs := rfl
    rw [e1] at h
    rcases sload_sub xs h with h | h
    · rcases mem_put.1 h with h | h
      · exact .inr (h ▸ List.mem_cons_self)
      · exact .inl h.1
    · exact .inr (List.mem_cons_of_mem _ h)
section
variable {S : List Smp} (hr : Rise S) {n : Nat} (hn : n < S.length)
include hr hn
theorem stand_at : Stand S (S.getD n (0, 0, 0)).1 n :=
  ⟨by omega, fun j hj => hr.at j n hj hn, fun j h1 h2 => by
    rcases Nat.lt_or_ge n j with h | h
    · exact Int.le_of_lt (hr.at n j h h2)
    · obtain rfl : j = n := by omega
      exact Int.le_refl _⟩
theorem ahead_at : aheadN S (S.getD n (0, 0, 0)).1 = n := (stand_at hr hn).ahead
theorem ahead_past : aheadN S ((S.getD n (0, 0, 0)).1 + 1) = n + 1 :=
  Stand.ahead ⟨by omega, fun j hj => by
    rcases Nat.lt_or_ge j n with h | h
    · have := hr.at j n h hn; omega
    · obtain rfl : j = n := by omega
      omega, fun j h1 h2 => by have := hr.at n j h1 h2; omega⟩
theorem put_walk : sPut (S.take n) (S.getD n (0, 0, 0)).1 (S.getD n (0, 0, 0)).2 = S.take (n + 1) := by
  have hl : (S.take n).length = n := by rw [List.length_take]; omega
  have hrt : Rise (S.take n) := List.Pairwise.sublist (List.take_sublist n S) hr
  have hg : ∀ j, j < n → (S.take n).getD j (0, 0, 0) = S.getD j (0, 0, 0) := fun j hj => by
    rw [List.getD_eq_getElem?_getD, List.getD_eq_getElem?_getD, List.getElem?_take, if_pos hj]
  have hs : Stand (S.take n) (S.getD n (0, 0, 0)).1 n := ⟨by omega, fun j hj => by rw [hg j hj]; exact hr.at j n hj hn, fun j h1 h2 => by omega⟩
  rw [hs.put hrt, List.drop_of_length_le (by split <;> omega), List.take_take, Nat.min_self, take_snoc (0, 0, 0) hn]
theorem last_max (hb : ∀ s ∈ S, s.1 < 9223372036854775808) (he : (S.getD n (0, 0, 0)).1 = 9223372036854775807) : n + 1 = S.length := by
  rcases Nat.lt_or_ge (n + 1) S.length with h | h
  · have h1 := hr.at n (n + 1) (by omega) h
    have h2 := hb _ (List.getElem_mem h)
    rw [getD_lt h] at h1
    omega
  · omega
end
theorem nthV_lt {S : List Smp} {n : Nat} (h : n < S.length) : nthV S (n : Int) = (S.getD n (0, 0, 0), true) := by
  rw [nthV, if_pos (by omega), Int.toNat_natCast]
theorem nthV_ge {S : List Smp} {n : Nat} (h : S.length ≤ n) : nthV S (n : Int) = ((0, 0, 0), false) := by
  rw [nthV, if_neg (by omega)]
theorem nthV_pred {S : List Smp} {n : Nat} (h : n < S.length) : nthV S (((n + 1 : Nat) : Int) - 1) = (S.getD n (0, 0, 0), true) := by
  rw [show ((n + 1 : Nat) : Int) - 1 = (n : Int) by omega]; exact nthV_lt h
theorem nthV_pred0 (S : List Smp) : nthV S (((0 : Nat) : Int) - 1) = ((0, 0, 0), false) := by
  rw [nthV, if_neg (by omega)]
theorem fresh_getD {S : List Smp} {n : Nat} (h : n < S.length) : (S.map freshD).getD n dlt0 = freshD (S.getD n (0, 0, 0)) := by
  rw [List.getD_eq_getElem?_getD, List.getElem?_map, List.getElem?_eq_getElem h, getD_lt h]; rfl

end Go.Proofs.Ytcnebgokbjpjnaa
