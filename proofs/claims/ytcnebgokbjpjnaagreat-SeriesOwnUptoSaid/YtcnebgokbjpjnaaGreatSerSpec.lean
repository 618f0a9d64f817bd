/- A series in plain terms: samples by rising times; put, cut, delete, range, get. -/
import Derived.Test.YtcnebgokbjpjnaaGreatSmpSpec
set_option linter.unusedVariables false
set_option linter.unusedSimpArgs false
set_option maxRecDepth 100000
namespace Go.Proofs.YtcnebgokbjpjnaaGreat
open Go

abbrev Smp := Int × Int × Int
/-- by rising times. -/
def Rise (l : List Smp) : Prop := l.Pairwise (fun a b => a.1 < b.1)
def sPut (l : List Smp) (t : Int) (v : Int × Int) : List Smp := l.filter (fun s => decide (s.1 < t)) ++ (t, v) :: l.filter (fun s => decide (t < s.1))
def sCut (l : List Smp) (t : Int) : List Smp := l.filter (fun s => decide (s.1 ≠ t))
def inR (a b : Int) (s : Smp) : Bool := decide (a ≤ s.1) && decide (s.1 < b)
def sDel (l : List Smp) (a b : Int) : List Smp := l.filter (fun s => !inR a b s)
def sRange (l : List Smp) (a b : Int) : List Smp := l.filter (inR a b)
def sGet (l : List Smp) (t : Int) : Option (Int × Int) := (l.find? (fun s => decide (s.1 = t))).map (·.2)

theorem Rise.nil : Rise [] := List.Pairwise.nil
theorem getD_lt {l : List Smp} {i : Nat} (h : i < l.length) : l.getD i (0, 0, 0) = l[i] := by rw [List.getD_eq_getElem?_getD, List.getElem?_eq_getElem h]; rfl
theorem Rise.at {l : List Smp} (h : Rise l) (i j : Nat) (hij : i < j) (hj : j < l.length) : (l.getD i (0, 0, 0)).1 < (l.getD j (0, 0, 0)).1 := by
  rw [getD_lt (by omega), getD_lt hj]
  exact List.pairwise_iff_getElem.1 h i j (by omega) hj hij
theorem Rise.filter {l : List Smp} (h : Rise l) (p : Smp → Bool) : Rise (l.filter p) := List.Pairwise.filter p h
theorem Rise.cut {l : List Smp} (h : Rise l) (t : Int) : Rise (sCut l t) := h.filter _
theorem Rise.del {l : List Smp} (h : Rise l) (a b : Int) : Rise (sDel l a b) := h.filter _
theorem Rise.range {l : List Smp} (h : Rise l) (a b : Int) : Rise (sRange l a b) := h.filter _
theorem Rise.put {l : List Smp} (h : Rise l) (t : Int) (v : Int × Int) : Rise (sPut l t v) := by
  refine List.pairwise_append.2 ⟨h.filter _, List.pairwise_cons.2 ⟨fun x hx => ?_, h.filter _⟩, fun x hx y hy => ?_⟩
  · simpa using (List.mem_filter.1 hx).2
  · have h1 : x.1 < t := by simpa using (List.mem_filter.1 hx).2
    rcases List.mem_cons.1 hy with rfl | hy
    · exact h1
    · have h2 : t < y.1 := by simpa using (List.mem_filter.1 hy).2
      omega
theorem mem_put {l : List Smp} {t : Int} {v : Int × Int} {x : Smp} : x ∈ sPut l t v ↔ x = (t, v) ∨ (x ∈ l ∧ x.1 ≠ t) := by
  simp only [sPut, List.mem_append, List.mem_filter, List.mem_cons, decide_eq_true_eq]
  constructor
  · rintro (⟨h1, h2⟩ | h1 | ⟨h1, h2⟩)
    · exact .inr ⟨h1, by omega⟩
    · exact .inl h1
    · exact .inr ⟨h1, by omega⟩
  · rintro (h1 | ⟨h1, h2⟩)
    · exact .inr (.inl h1)
    · rcases Int.lt_or_gt_of_ne h2 with h3 | h3
      · exact .inl ⟨h1, h3⟩
      · exact .inr (.inr ⟨h1, h3⟩)
theorem mem_cut {l : List Smp} {t : Int} {x : Smp} : x ∈ sCut l t ↔ x ∈ l ∧ x.1 ≠ t := by simp [sCut]
theorem mem_del {l : List Smp} {a b : Int} {x : Smp} : x ∈ sDel l a b ↔ x ∈ l ∧ ¬ (a ≤ x.1 ∧ x.1 < b) := by
  simp only [sDel, inR, List.mem_filter, Bool.not_eq_true', Bool.and_eq_false_iff, decide_eq_false_iff_not]
  constructor <;> rintro ⟨h1, h2⟩ <;> exact ⟨h1, by omega⟩
theorem mem_range {l : List Smp} {a b : Int} {x : Smp} : x ∈ sRange l a b ↔ x ∈ l ∧ a ≤ x.1 ∧ x.1 < b := by simp [sRange, inR]
theorem Rise.uniq {l : List Smp} (h : Rise l) {x y : Smp} (hx : x ∈ l) (hy : y ∈ l) (he : x.1 = y.1) : x = y := by
  obtain ⟨i, hi, rfl⟩ := List.getElem_of_mem hx
  obtain ⟨j, hj, rfl⟩ := List.getElem_of_mem hy
  rcases Nat.lt_trichotomy i j with h1 | h1 | h1
  · exact absurd (List.pairwise_iff_getElem.1 h i j hi hj h1) (by omega)
  · subst h1; rfl
  · exact absurd (List.pairwise_iff_getElem.1 h j i hj hi h1) (by omega)
theorem get_some {l : List Smp} (h : Rise l) {t : Int} {v : Int × Int} : sGet l t = some v ↔ (t, v) ∈ l := by
  unfold sGet
  constructor
  · intro he
    cases hf : l.find? (fun s => decide (s.1 = t)) with
    | none => rw [hf] at he; cases he
    | some x =>
      rw [hf] at he
      injection he with he
      have h1 := List.mem_of_find?_eq_some hf
      have h2 : x.1 = t := by simpa using List.find?_some hf
      rw [← h2, ← he]
      exact h1
  · intro hm
    cases hf : l.find? (fun s => decide (s.1 = t)) with
    | none => exact absurd (List.find?_eq_none.1 hf _ hm) (by simp)
    | some x =>
      have h1 := List.mem_of_find?_eq_some hf
      have h2 : x.1 = t := by simpa using List.find?_some hf
      rw [h.uniq h1 hm h2]
      rfl
theorem get_none {l : List Smp} {t : Int} : sGet l t = none ↔ ∀ x ∈ l, x.1 ≠ t := by
  unfold sGet
  rw [Option.map_eq_none_iff, List.find?_eq_none]
  simp
theorem get_put {l : List Smp} (h : Rise l) (t : Int) (v : Int × Int) (u : Int) : sGet (sPut l t v) u = if u = t then some v else sGet l u := by
  split
  · rename_i he
    subst he
    rw [get_some (h.put _ _), mem_put]; exact .inl rfl
  · rename_i he
    cases hg : sGet l u with
    | none =>
      rw [get_none] at hg ⊢
      intro x hx
      rcases mem_put.1 hx with rfl | ⟨h1, _⟩
      · exact fun h => he h.symm
      · exact hg x h1
    | some y => rw [get_some (h.put _ _), mem_put]; exact .inr ⟨(get_some h).1 hg, he⟩
theorem get_cut {l : List Smp} (h : Rise l) (t u : Int) : sGet (sCut l t) u = if u = t then none else sGet l u := by
  split
  · rename_i he
    subst he
    rw [get_none]; exact fun x hx => (mem_cut.1 hx).2
  · rename_i he
    cases hg : sGet l u with
    | none => rw [get_none] at hg ⊢; exact fun x hx => hg x (mem_cut.1 hx).1
    | some y => rw [get_some (h.cut _), mem_cut]; exact ⟨(get_some h).1 hg, he⟩
theorem get_del {l : List Smp} (h : Rise l) (a b u : Int) : sGet (sDel l a b) u = if a ≤ u ∧ u < b then none else sGet l u := by
  split
  · rename_i he
    rw [get_none]; intro x hx hh; exact (mem_del.1 hx).2 (by omega)
  · rename_i he
    cases hg : sGet l u with
    | none => rw [get_none] at hg ⊢; exact fun x hx => hg x (mem_del.1 hx).1
    | some y => rw [get_some (h.del _ _), mem_del]; exact ⟨(get_some h).1 hg, he⟩
/-- where a time stands. -/
structure Stand (l : List Smp) (t : Int) (i : Nat) : Prop where
  le : i ≤ l.length
  lo : ∀ j, j < i → (l.getD j (0, 0, 0)).1 < t
  hi : ∀ j, i ≤ j → j < l.length → t ≤ (l.getD j (0, 0, 0)).1
theorem Stand.front {l : List Smp} {t : Int} {i : Nat} (h : Stand l t i) : ∀ x ∈ l.take i, x.1 < t := by
  intro x hx
  obtain ⟨j, hj, rfl⟩ := List.getElem_of_mem hx
  rw [List.length_take] at hj
  have := h.lo j (by omega)
  rw [getD_lt (by omega)] at this
  rw [List.getElem_take]; exact this
theorem Stand.back {l : List Smp} {t : Int} {i : Nat} (h : Stand l t i) : ∀ x ∈ l.drop i, t ≤ x.1 := by
  intro x hx
  obtain ⟨j, hj, rfl⟩ := List.getElem_of_mem hx
  rw [List.length_drop] at hj
  have := h.hi (i + j) (by omega) (by omega)
  rw [getD_lt (by omega)] at this
  rw [List.getElem_drop]; exact this
theorem filt_all {l : List Smp} {p : Smp → Bool} (h : ∀ x ∈ l, p x = true) : l.filter p = l := List.filter_eq_self.2 h
theorem filt_none {l : List Smp} {p : Smp → Bool} (h : ∀ x ∈ l, p x = false) : l.filter p = [] := List.filter_eq_nil_iff.2 (fun x hx => by simp [h x hx])
theorem filt_split (l : List Smp) (i : Nat) (p : Smp → Bool) : l.filter p = (l.take i).filter p ++ (l.drop i).filter p := by rw [← List.filter_append, List.take_append_drop]
theorem Stand.take {l : List Smp} {t : Int} {i : Nat} (h : Stand l t i) : l.filter (fun s => decide (s.1 < t)) = l.take i := by
  rw [filt_split l i, filt_all (fun x hx => by simpa using h.front x hx), filt_none (fun x hx => by simpa using h.back x hx), List.append_nil]
theorem Stand.drop {l : List Smp} {t : Int} {i : Nat} (h : Stand l t i) : l.filter (fun s => decide (t ≤ s.1)) = l.drop i := by
  rw [filt_split l i, filt_none (fun x hx => by simpa using h.front x hx), filt_all (fun x hx => by simpa using h.back x hx), List.nil_append]
/-- is it at that time. -/
def isAt (l : List Smp) (t : Int) (i : Nat) : Bool := decide (i < l.length ∧ (l.getD i (0, 0, 0)).1 = t)
theorem Stand.miss {l : List Smp} (hr : Rise l) {t : Int} {i : Nat} (h : Stand l t i) (hn : isAt l t i = false) : ∀ x ∈ l.drop i, t < x.1 := by
  intro x hx
  have h1 := h.back x hx
  obtain ⟨j, hj, rfl⟩ := List.getElem_of_mem hx
  rw [List.length_drop] at hj
  rw [List.getElem_drop] at h1 ⊢
  simp only [isAt, decide_eq_false_iff_not, not_and] at hn
  have hi := hn (by omega)
  rw [getD_lt (by omega)] at hi
  have h2 := h.hi i (Nat.le_refl _) (by omega)
  rw [getD_lt (by omega)] at h2
  rcases Nat.eq_zero_or_pos j with rfl | hj0
  · simp only [Nat.add_zero] at h1 ⊢; omega
  · have := List.pairwise_iff_getElem.1 hr i (i + j) (by omega) (by omega) (by omega)
    omega
theorem Stand.hit {l : List Smp} (hr : Rise l) {t : Int} {i : Nat} (h : Stand l t i) (hy : isAt l t i = true) : i < l.length ∧ (l.getD i (0, 0, 0)).1 = t ∧ l.drop i = l.getD i (0, 0, 0) :: l.drop (i + 1) ∧ ∀ x ∈ l.drop (i + 1), t < x.1 := by
  simp only [isAt, decide_eq_true_eq] at hy
  obtain ⟨h1, h2⟩ := hy
  refine ⟨h1, h2, by rw [getD_lt h1]; exact List.drop_eq_getElem_cons h1, fun x hx => ?_⟩
  obtain ⟨j, hj, rfl⟩ := List.getElem_of_mem hx
  rw [List.length_drop] at hj
  rw [List.getElem_drop]
  have := List.pairwise_iff_getElem.1 hr i (i + 1 + j) (by omega) (by omega) (by omega)
  rw [getD_lt h1] at h2
  omega
theorem Stand.get {l : List Smp} (hr : Rise l) {t : Int} {i : Nat} (h : Stand l t i) : sGet l t = if isAt l t i then some (l.getD i (0, 0, 0)).2 else none := by
  cases hy : isAt l t i with
  | true =>
    obtain ⟨h1, h2, _⟩ := h.hit hr hy
    rw [if_pos rfl, get_some hr, ← h2, getD_lt h1]
    exact List.getElem_mem _
  | false =>
    rw [if_neg (by simp), get_none]
    intro x hx
    rw [← List.take_append_drop i l] at hx
    rcases List.mem_append.1 hx with hx | hx
    · have := h.front x hx; omega
    · have := h.miss hr hy x hx; omega
theorem Stand.put {l : List Smp} (hr : Rise l) {t : Int} {i : Nat} (h : Stand l t i) (v : Int × Int) : sPut l t v = l.take i ++ (t, v) :: l.drop (if isAt l t i then i + 1 else i) := by
  rw [sPut, h.take]
  congr 2
  rw [filt_split l i, filt_none (l := l.take i) (fun x hx => by have := h.front x hx; simp; omega), List.nil_append]
  cases hy : isAt l t i with
  | true =>
    obtain ⟨h1, h2, h3, h4⟩ := h.hit hr hy
    rw [if_pos rfl, h3, List.filter_cons_of_neg (by rw [h2]; simp), filt_all (fun x hx => by simpa using h4 x hx)]
  | false => rw [if_neg (by simp), filt_all (fun x hx => by simpa using h.miss hr hy x hx)]
theorem Stand.cut {l : List Smp} (hr : Rise l) {t : Int} {i : Nat} (h : Stand l t i) : sCut l t = if isAt l t i then l.take i ++ l.drop (i + 1) else l := by
  rw [sCut]
  cases hy : isAt l t i with
  | true =>
    obtain ⟨h1, h2, h3, h4⟩ := h.hit hr hy
    rw [if_pos rfl]
    rw [filt_split l i, filt_all (fun x hx => by have := h.front x hx; simp; omega), h3, List.filter_cons_of_neg (by simpa using h2), filt_all (fun x hx => by have := h4 x hx; simp; omega)]
  | false =>
    rw [if_neg (by simp)]
    refine filt_all (fun x hx => ?_)
    rw [← List.take_append_drop i l] at hx
    rcases List.mem_append.1 hx with hx | hx
    · have := h.front x hx; simp; omega
    · have := h.miss hr hy x hx; simp; omega
theorem Stand.mono {l : List Smp} {a b : Int} {i k : Nat} (h : Stand l a i) (h' : Stand l b k) (hab : a < b) : i ≤ k := by
  rcases Nat.lt_or_ge k i with hk | hk
  · have h1 := h.lo k hk
    have h2 := h'.hi k (Nat.le_refl _) (Nat.lt_of_lt_of_le hk h.le)
    omega
  · exact hk
theorem Stand.cutAt {l : List Smp} {a b : Int} {i k : Nat} (h : Stand l a i) (h' : Stand l b k) (hab : a < b) : l = l.take i ++ ((l.drop i).take (k - i) ++ l.drop k) := by
  have hik := h.mono h' hab
  rw [show l.drop k = (l.drop i).drop (k - i) by rw [List.drop_drop]; congr 1; omega, List.take_append_drop, List.take_append_drop]
theorem Stand.mid {l : List Smp} {a b : Int} {i k : Nat} (h : Stand l a i) (h' : Stand l b k) : ∀ x ∈ (l.drop i).take (k - i), a ≤ x.1 ∧ x.1 < b := by
  intro x hx
  refine ⟨h.back x (List.mem_of_mem_take hx), ?_⟩
  rcases Nat.lt_or_ge k i with hk | hk
  · rw [show k - i = 0 by omega] at hx; simp at hx
  rw [← List.drop_take] at hx
  exact h'.front x (List.mem_of_mem_drop hx)
theorem Stand.range {l : List Smp} {a b : Int} {i k : Nat} (h : Stand l a i) (h' : Stand l b k) (hab : a < b) : sRange l a b = (l.drop i).take (k - i) := by
  rw [sRange]
  rw [congrArg (List.filter _) (h.cutAt h' hab), List.filter_append, List.filter_append, filt_none (l := l.take i) (fun x hx => by have := h.front x hx; simp [inR]; omega), filt_all (fun x hx => by have := h.mid h' x hx; simp [inR]; omega),
    filt_none (l := l.drop k) (fun x hx => by have := h'.back x hx; simp [inR]; omega), List.nil_append, List.append_nil]
theorem Stand.del {l : List Smp} {a b : Int} {i k : Nat} (h : Stand l a i) (h' : Stand l b k) (hab : a < b) : sDel l a b = l.take i ++ l.drop k := by
  rw [sDel]
  rw [congrArg (List.filter _) (h.cutAt h' hab), List.filter_append, List.filter_append, filt_all (l := l.take i) (fun x hx => by have := h.front x hx; simp [inR]; omega), filt_none (fun x hx => by have := h.mid h' x hx; simp [inR]; omega),
    filt_all (l := l.drop k) (fun x hx => by have := h'.back x hx; simp [inR]; omega), List.nil_append]
theorem range_empty {l : List Smp} {a b : Int} (hab : b ≤ a) : sRange l a b = [] := filt_none (fun x _ => by simp [inR]; omega)
theorem del_empty {l : List Smp} {a b : Int} (hab : b ≤ a) : sDel l a b = l := filt_all (fun x _ => by simp [inR]; omega)
/-- two of the same members. -/
theorem Rise.ext : ∀ {l m : List Smp}, Rise l → Rise m → (∀ x, x ∈ l ↔ x ∈ m) → l = m
  | [], [], _, _, _ => rfl
  | [], y :: m, _, _, h => absurd ((h y).2 (by simp)) (by simp)
  | x :: l, [], _, _, h => absurd ((h x).1 (by simp)) (by simp)
  | x :: l, y :: m, hl, hm, h => by
    obtain ⟨hl1, hl2⟩ := List.pairwise_cons.1 hl
    obtain ⟨hm1, hm2⟩ := List.pairwise_cons.1 hm
    have hxy : x = y := by
      rcases List.mem_cons.1 ((h x).1 (by simp)) with h1 | h1
      · exact h1
      · rcases List.mem_cons.1 ((h y).2 (by simp)) with h2 | h2
        · exact h2.symm
        · have := hm1 x h1; have := hl1 y h2; omega
    subst hxy
    congr 1
    refine Rise.ext hl2 hm2 (fun z => ⟨fun hz => ?_, fun hz => ?_⟩)
    · rcases List.mem_cons.1 ((h z).1 (List.mem_cons_of_mem _ hz)) with h1 | h1
      · subst h1; have := hl1 z hz; omega
      · exact h1
    · rcases List.mem_cons.1 ((h z).2 (List.mem_cons_of_mem _ hz)) with h1 | h1
      · subst h1; have := hm1 z hz; omega
      · exact h1
theorem put_len {l : List Smp} (hr : Rise l) (t : Int) (v : Int × Int) {i : Nat} (h : Stand l t i) : (sPut l t v).length = if isAt l t i then l.length else l.length + 1 := by
  rw [h.put hr v, List.length_append, List.length_cons, List.length_take, List.length_drop]
  have := h.le
  cases hy : isAt l t i with
  | true =>
    obtain ⟨h1, _⟩ := h.hit hr hy
    simp only [if_true]; omega
  | false => simp only [Bool.false_eq_true, if_false]; omega
theorem put_len_le {l : List Smp} (t : Int) (v : Int × Int) (hr : Rise l) : (sPut l t v).length ≤ l.length + 1 := by
  rw [sPut, List.length_append, List.length_cons]
  have h1 : ∀ (l : List Smp), (l.filter (fun s => decide (s.1 < t))).length + (l.filter (fun s => decide (t < s.1))).length ≤ l.length := by
    intro l
    induction l with
    | nil => simp
    | cons x l ih =>
      simp only [List.filter_cons, List.length_cons]
      by_cases h1 : x.1 < t
      · have h2 : ¬ t < x.1 := by omega
        simp only [h1, h2, decide_true, decide_false, if_true, Bool.false_eq_true, if_false, List.length_cons]; omega
      · simp only [h1, decide_false, Bool.false_eq_true, if_false]
        split <;> (try simp only [List.length_cons]) <;> omega
  exact Nat.succ_le_succ (h1 l)

end Go.Proofs.YtcnebgokbjpjnaaGreat
