/- Samples in plain terms. -/
/- Samples in memory. -/
/- A series in plain terms: samples by rising times; put, cut, delete, range, get. -/
/- The law SeriesLast in plain terms: of the puts of each time the last one lies there. -/
import Derived.Test.YtljgnocpijniiaaGreatDoorDen
import Derived.Test.YtljgnocpijniiaaGreatDoorMem
import Derived.Test.YtljgnocpijniiaaGreatDoorArith
set_option linter.unusedVariables false
set_option linter.unusedSimpArgs false
set_option maxRecDepth 100000
namespace Go.Proofs.YtljgnocpijniiaaGreatDoor
open Go

/-- what a value may be: as the program's type holds it. -/
def VOk (v : Int × Int) : Prop := (0 ≤ v.1 ∧ v.1 < 256) ∧ -9223372036854775808 ≤ v.2 ∧ v.2 < 9223372036854775808
/-- a sample: its time, and its value's kind and number. -/
def scells (s : Int × Int × Int) : List Value := [.int .i64 s.1, .int .u8 s.2.1, .int .i64 s.2.2]
def vcells (v : Int × Int) : List Value := [.int .u8 v.1, .int .i64 v.2]
theorem scells_len (s : Int × Int × Int) : (scells s).length = 3 := rfl
def SOk (s : Int × Int × Int) : Prop := (-9223372036854775808 ≤ s.1 ∧ s.1 < 9223372036854775808) ∧ VOk s.2
theorem sok_get {l : List (Int × Int × Int)} (h0 : ∀ v ∈ l, SOk v) (i : Nat) : SOk (l.getD i (0, 0, 0)) := by
  rw [List.getD_eq_getElem?_getD]
  cases hh : l[i]? with
  | none => simp [SOk, VOk]
  | some z => exact h0 z (List.mem_of_getElem? hh)
theorem take_snoc {α : Type} {l : List α} {k : Nat} (d : α) (h : k < l.length) : l.take (k + 1) = l.take k ++ [l.getD k d] := by
  rw [List.take_succ_eq_append_getElem h, List.getD_eq_getElem?_getD, List.getElem?_eq_getElem h]; rfl

end Go.Proofs.YtljgnocpijniiaaGreatDoor

namespace Go.Proofs.YtljgnocpijniiaaGreatDoor
open Go

theorem Rd.flat3 {w : World} {A : Option Addr} {n : Nat} {l : List (Int × Int × Int)} (h : Rd w A n 3 (l.flatMap scells)) : l.length = n := by
  have h1 := h.1
  rw [flat_len scells (size := 3) l (fun _ _ => rfl)] at h1
  omega
theorem Rd.smp {w : World} {A : Option Addr} {n : Nat} {l : List (Int × Int × Int)} (h : Rd w A n 3 (l.flatMap scells)) {k : Nat} (hk : k < n) :
    ∃ ad, A = some ad ∧ w.cell? (ad.add (k * 3)) = some (.int .i64 (l.getD k (0, 0, 0)).1) ∧
      (∀ {K : VK} {tk : Tok K}, K (.agg #[.int .u8 (l.getD k (0, 0, 0)).2.1, .int .i64 (l.getD k (0, 0, 0)).2.2]) → aggK w ((ad.add (k * 3)).add 1) (some 2) K tk) ∧
      (∀ {K : VK} {tk : Tok K}, K (.agg #[.int .i64 (l.getD k (0, 0, 0)).1, .int .u8 (l.getD k (0, 0, 0)).2.1, .int .i64 (l.getD k (0, 0, 0)).2.2]) → aggK w (ad.add (k * 3)) (some 3) K tk) := by
  have hl := h.flat3
  have hg : l[k]? = some (l.getD k (0, 0, 0)) := by rw [List.getD_eq_getElem?_getD, List.getElem?_eq_getElem (by omega)]; rfl
  obtain ⟨_, ad, hA, hc⟩ := h.flat (size := 3) (fun _ _ => rfl) hg (by omega)
  refine ⟨ad, hA, ?_, fun hK => ⟨[.int .u8 (l.getD k (0, 0, 0)).2.1, .int .i64 (l.getD k (0, 0, 0)).2.2], rfl, fun j v hv => ?_, hK⟩, fun hK => ⟨scells (l.getD k (0, 0, 0)), rfl, fun j v hv => hc j v hv, hK⟩⟩
  · have := hc 0 _ rfl
    rwa [add_zero'] at this
  · rw [add_add', Nat.add_comm 1 j, ← add_add', add_add']
    have := hc (j + 1) v (by simpa [scells] using hv)
    exact this
theorem scells_one : ∀ (l : List (Int × Int × Int)), ∀ u ∈ l.flatMap scells, u.oneCell' = true := by
  intro l u hu
  obtain ⟨v, _, hv⟩ := List.mem_flatMap.1 hu
  simp only [scells, List.mem_cons, List.not_mem_nil, or_false] at hv
  rcases hv with rfl | rfl | rfl <;> rfl

end Go.Proofs.YtljgnocpijniiaaGreatDoor

namespace Go.Proofs.YtljgnocpijniiaaGreatDoor
open Go

abbrev Smp := Int × Int × Int
/-- by rising times. -/
def Rise (l : List Smp) : Prop := l.Pairwise (fun a b => a.1 < b.1)
def sPut (l : List Smp) (t : Int) (v : Int × Int) : List Smp := l.filter (fun s => decide (s.1 < t)) ++ (t, v) :: l.filter (fun s => decide (t < s.1))
def sCut (l : List Smp) (t : Int) : List Smp := l.filter (fun s => decide (s.1 ≠ t))
def inR (a b : Int) (s : Smp) : Bool := decide (a ≤ s.1) && decide (s.1 < b)
def sDel (l : List Smp) (a b : Int) : List Smp := l.filter (fun s => !inR a b s)
def sRange (l : List Smp) (a b : Int) : List Smp := l.filter (inR a b)
def sGet (l : List Smp) (t : Int) : Option (Int × Int) := (l.find? (fun s => decide (s.1 = t))).map (·.2)

theorem Rise.nil : Rise [] := List.Pairwise.nil
theorem getD_lt {l : List Smp} {i : Nat} (h : i < l.length) : l.getD i (0, 0, 0) = l[i] := by rw [List.getD_eq_getElem?_getD, List.getElem?_eq_getElem h]; rfl
theorem Rise.at {l : List Smp} (h : Rise l) (i j : Nat) (hij : i < j) (hj : j < l.length) : (l.getD i (0, 0, 0)).1 < (l.getD j (0, 0, 0)).1 := by
  rw [getD_lt (by omega), getD_lt hj]
  exact List.pairwise_iff_getElem.1 h i j (by omega) hj hij
theorem Rise.filter {l : List Smp} (h : Rise l) (p : Smp → Bool) : Rise (l.filter p) := List.Pairwise.filter p h
theorem Rise.cut {l : List Smp} (h : Rise l) (t : Int) : Rise (sCut l t) := h.filter _
theorem Rise.del {l : List Smp} (h : Rise l) (a b : Int) : Rise (sDel l a b) := h.filter _
theorem Rise.range {l : List Smp} (h : Rise l) (a b : Int) : Rise (sRange l a b) := h.filter _
theorem Rise.put {l : List Smp} (h : Rise l) (t : Int) (v : Int × Int) : Rise (sPut l t v) := by
  refine List.pairwise_append.2 ⟨h.filter _, List.pairwise_cons.2 ⟨fun x hx => ?_, h.filter _⟩, fun x hx y hy => ?_⟩
  · simpa using (List.mem_filter.1 hx).2
  · have h1 : x.1 < t := by simpa using (List.mem_filter.1 hx).2
    rcases List.mem_cons.1 hy with rfl | hy
    · exact h1
    · have h2 : t < y.1 := by simpa using (List.mem_filter.1 hy).2
      omega
theorem mem_put {l : List Smp} {t : Int} {v : Int × Int} {x : Smp} : x ∈ sPut l t v ↔ x = (t, v) ∨ (x ∈ l ∧ x.1 ≠ t) := by
  simp only [sPut, List.mem_append, List.mem_filter, List.mem_cons, decide_eq_true_eq]
  constructor
  · rintro (⟨h1, h2⟩ | h1 | ⟨h1, h2⟩)
    · exact .inr ⟨h1, by omega⟩
    · exact .inl h1
    · exact .inr ⟨h1, by omega⟩
  · rintro (h1 | ⟨h1, h2⟩)
    · exact .inr (.inl h1)
    · rcases Int.lt_or_gt_of_ne h2 with h3 | h3
      · exact .inl ⟨h1, h3⟩
      · exact .inr (.inr ⟨h1, h3⟩)
theorem mem_cut {l : List Smp} {t : Int} {x : Smp} : x ∈ sCut l t ↔ x ∈ l ∧ x.1 ≠ t := by simp [sCut]
theorem mem_del {l : List Smp} {a b : Int} {x : Smp} : x ∈ sDel l a b ↔ x ∈ l ∧ ¬ (a ≤ x.1 ∧ x.1 < b) := by
  simp only [sDel, inR, List.mem_filter, Bool.not_eq_true', Bool.and_eq_false_iff, decide_eq_false_iff_not]
  constructor <;> rintro ⟨h1, h2⟩ <;> exact ⟨h1, by omega⟩
theorem mem_range {l : List Smp} {a b : Int} {x : Smp} : x ∈ sRange l a b ↔ x ∈ l ∧ a ≤ x.1 ∧ x.1 < b := by simp [sRange, inR]
theorem Rise.uniq {l : List Smp} (h : Rise l) {x y : Smp} (hx : x ∈ l) (hy : y ∈ l) (he : x.1 = y.1) : x = y := by
  obtain ⟨i, hi, rfl⟩ := List.getElem_of_mem hx
  obtain ⟨j, hj, rfl⟩ := List.getElem_of_mem hy
  rcases Nat.lt_trichotomy i j with h1 | h1 | h1
  · exact absurd (List.pairwise_iff_getElem.1 h i j hi hj h1) (by omega)
  · subst h1; rfl
  · exact absurd (List.pairwise_iff_getElem.1 h j i hj hi h1) (by omega)
theorem get_some {l : List Smp} (h : Rise l) {t : Int} {v : Int × Int} : sGet l t = some v ↔ (t, v) ∈ l := by
  unfold sGet
  constructor
  · intro he
    cases hf : l.find? (fun s => decide (s.1 = t)) with
    | none => rw [hf] at he; cases he
    | some x =>
      rw [hf] at he
      injection he with he
      have h1 := List.mem_of_find?_eq_some hf
      have h2 : x.1 = t := by simpa using List.find?_some hf
      rw [← h2, ← he]
      exact h1
  · intro hm
    cases hf : l.find? (fun s => decide (s.1 = t)) with
    | none => exact absurd (List.find?_eq_none.1 hf _ hm) (by simp)
    | some x =>
      have h1 := List.mem_of_find?_eq_some hf
      have h2 : x.1 = t := by simpa using List.find?_some hf
      rw [h.uniq h1 hm h2]
      rfl
theorem get_none {l : List Smp} {t : Int} : sGet l t = none ↔ ∀ x ∈ l, x.1 ≠ t := by
  unfold sGet
  rw [Option.map_eq_none_iff, List.find?_eq_none]
  simp
theorem get_put {l : List Smp} (h : Rise l) (t : Int) (v : Int × Int) (u : Int) : sGet (sPut l t v) u = if u = t then some v else sGet l u := by
  split
  · rename_i he
    subst he
    rw [get_some (h.put _ _), mem_put]; exact .inl rfl
  · rename_i he
    cases hg : sGet l u with
    | none =>
      rw [get_none] at hg ⊢
      intro x hx
      rcases mem_put.1 hx with rfl | ⟨h1, _⟩
      · exact fun h => he h.symm
      · exact hg x h1
    | some y => rw [get_some (h.put _ _), mem_put]; exact .inr ⟨(get_some h).1 hg, he⟩
theorem get_cut {l : List Smp} (h : Rise l) (t u : Int) : sGet (sCut l t) u = if u = t then none else sGet l u := by
  split
  · rename_i he
    subst he
    rw [get_none]; exact fun x hx => (mem_cut.1 hx).2
  · rename_i he
    cases hg : sGet l u with
    | none => rw [get_none] at hg ⊢; exact fun x hx => hg x (mem_cut.1 hx).1
    | some y => rw [get_some (h.cut _), mem_cut]; exact ⟨(get_some h).1 hg, he⟩
theorem get_del {l : List Smp} (h : Rise l) (a b u : Int) : sGet (sDel l a b) u = if a ≤ u ∧ u < b then none else sGet l u := by
  split
  · rename_i he
    rw [get_none]; intro x hx hh; exact (mem_del.1 hx).2 (by omega)
  · rename_i he
    cases hg : sGet l u with
    | none => rw [get_none] at hg ⊢; exact fun x hx => hg x (mem_del.1 hx).1
    | some y => rw [get_some (h.del _ _), mem_del]; exact ⟨(get_some h).1 hg, he⟩
/-- where a time stands. -/
structure Stand (l : List Smp) (t : Int) (i : Nat) : Prop where
  le : i ≤ l.length
  lo : ∀ j, j < i → (l.getD j (0, 0, 0)).1 < t
  hi : ∀ j, i ≤ j → j < l.length → t ≤ (l.getD j (0, 0, 0)).1
theorem Stand.front {l : List Smp} {t : Int} {i : Nat} (h : Stand l t i) : ∀ x ∈ l.take i, x.1 < t := by
  intro x hx
  obtain ⟨j, hj, rfl⟩ := List.getElem_of_mem hx
  rw [List.length_take] at hj
  have := h.lo j (by omega)
  rw [getD_lt (by omega)] at this
  rw [List.getElem_take]; exact this
theorem Stand.back {l : List Smp} {t : Int} {i : Nat} (h : Stand l t i) : ∀ x ∈ l.drop i, t ≤ x.1 := by
  intro x hx
  obtain ⟨j, hj, rfl⟩ := List.getElem_of_mem hx
  rw [List.length_drop] at hj
  have := h.hi (i + j) (by omega) (by omega)
  rw [getD_lt (by omega)] at this
  rw [List.getElem_drop]; exact this
theorem filt_all {l : List Smp} {p : Smp → Bool} (h : ∀ x ∈ l, p x = true) : l.filter p = l := List.filter_eq_self.2 h
theorem filt_none {l : List Smp} {p : Smp → Bool} (h : ∀ x ∈ l, p x = false) : l.filter p = [] := List.filter_eq_nil_iff.2 (fun x hx => by simp [h x hx])
theorem filt_split (l : List Smp) (i : Nat) (p : Smp → Bool) : l.filter p = (l.take i).filter p ++ (l.drop i).filter p := by rw [← List.filter_append, List.take_append_drop]
theorem Stand.take {l : List Smp} {t : Int} {i : Nat} (h : Stand l t i) : l.filter (fun s => decide (s.1 < t)) = l.take i := by
  rw [filt_split l i, filt_all (fun x hx => by simpa using h.front x hx), filt_none (fun x hx => by simpa using h.back x hx), List.append_nil]
theorem Stand.drop {l : List Smp} {t : Int} {i : Nat} (h : Stand l t i) : l.filter (fun s => decide (t ≤ s.1)) = l.drop i := by
  rw [filt_split l i, filt_none (fun x hx => by simpa using h.front x hx), filt_all (fun x hx => by simpa using h.back x hx), List.nil_append]
/-- is it at that time. -/
def isAt (l : List Smp) (t : Int) (i : Nat) : Bool := decide (i < l.length ∧ (l.getD i (0, 0, 0)).1 = t)
theorem Stand.miss {l : List Smp} (hr : Rise l) {t : Int} {i : Nat} (h : Stand l t i) (hn : isAt l t i = false) : ∀ x ∈ l.drop i, t < x.1 := by
  intro x hx
  have h1 := h.back x hx
  obtain ⟨j, hj, rfl⟩ := List.getElem_of_mem hx
  rw [List.length_drop] at hj
  rw [List.getElem_drop] at h1 ⊢
  simp only [isAt, decide_eq_false_iff_not, not_and] at hn
  have hi := hn (by omega)
  rw [getD_lt (by omega)] at hi
  have h2 := h.hi i (Nat.le_refl _) (by omega)
  rw [getD_lt (by omega)] at h2
  rcases Nat.eq_zero_or_pos j with rfl | hj0
  · simp only [Nat.add_zero] at h1 ⊢; omega
  · have := List.pairwise_iff_getElem.1 hr i (i + j) (by omega) (by omega) (by omega)
    omega
theorem Stand.hit {l : List Smp} (hr : Rise l) {t : Int} {i : Nat} (h : Stand l t i) (hy : isAt l t i = true) : i < l.length ∧ (l.getD i (0, 0, 0)).1 = t ∧ l.drop i = l.getD i (0, 0, 0) :: l.drop (i + 1) ∧ ∀ x ∈ l.drop (i + 1), t < x.1 := by
  simp only [isAt, decide_eq_true_eq] at hy
  obtain ⟨h1, h2⟩ := hy
  refine ⟨h1, h2, by rw [getD_lt h1]; exact List.drop_eq_getElem_cons h1, fun x hx => ?_⟩
  obtain ⟨j, hj, rfl⟩ := List.getElem_of_mem hx
  rw [List.length_drop] at hj
  rw [List.getElem_drop]
  have := List.pairwise_iff_getElem.1 hr i (i + 1 + j) (by omega) (by omega) (by omega)
  rw [getD_lt h1] at h2
  omega
theorem Stand.get {l : List Smp} (hr : Rise l) {t : Int} {i : Nat} (h : Stand l t i) : sGet l t = if isAt l t i then some (l.getD i (0, 0, 0)).2 else none := by
  cases hy : isAt l t i with
  | true =>
    obtain ⟨h1, h2, _⟩ := h.hit hr hy
    rw [if_pos rfl, get_some hr, ← h2, getD_lt h1]
    exact List.getElem_mem _
  | false =>
    rw [if_neg (by simp), get_none]
    intro x hx
    rw [← List.take_append_drop i l] at hx
    rcases List.mem_append.1 hx with hx | hx
    · have := h.front x hx; omega
    · have := h.miss hr hy x hx; omega
theorem Stand.put {l : List Smp} (hr : Rise l) {t : Int} {i : Nat} (h : Stand l t i) (v : Int × Int) : sPut l t v = l.take i ++ (t, v) :: l.drop (if isAt l t i then i + 1 else i) := by
  rw [sPut, h.take]
  congr 2
  rw [filt_split l i, filt_none (l := l.take i) (fun x hx => by have := h.front x hx; simp; omega), List.nil_append]
  cases hy : isAt l t i with
  | true =>
    obtain ⟨h1, h2, h3, h4⟩ := h.hit hr hy
    rw [if_pos rfl, h3, List.filter_cons_of_neg (by rw [h2]; simp), filt_all (fun x hx => by simpa using h4 x hx)]
  | false => rw [if_neg (by simp), filt_all (fun x hx => by simpa using h.miss hr hy x hx)]
theorem Stand.cut {l : List Smp} (hr : Rise l) {t : Int} {i : Nat} (h : Stand l t i) : sCut l t = if isAt l t i then l.take i ++ l.drop (i + 1) else l := by
  rw [sCut]
  cases hy : isAt l t i with
  | true =>
    obtain ⟨h1, h2, h3, h4⟩ := h.hit hr hy
    rw [if_pos rfl]
    rw [filt_split l i, filt_all (fun x hx => by have := h.front x hx; simp; omega), h3, List.filter_cons_of_neg (by simpa using h2), filt_all (fun x hx => by have := h4 x hx; simp; omega)]
  | false =>
    rw [if_neg (by simp)]
    refine filt_all (fun x hx => ?_)
    rw [← List.take_append_drop i l] at hx
    rcases List.mem_append.1 hx with hx | hx
    · have := h.front x hx; simp; omega
    · have := h.miss hr hy x hx; simp; omega
theorem Stand.mono {l : List Smp} {a b : Int} {i k : Nat} (h : Stand l a i) (h' : Stand l b k) (hab : a < b) : i ≤ k := by
  rcases Nat.lt_or_ge k i with hk | hk
  · have h1 := h.lo k hk
    have h2 := h'.hi k (Nat.le_refl _) (Nat.lt_of_lt_of_le hk h.le)
    omega
  · exact hk
theorem Stand.cutAt {l : List Smp} {a b : Int} {i k : Nat} (h : Stand l a i) (h' : Stand l b k) (hab : a < b) : l = l.take i ++ ((l.drop i).take (k - i) ++ l.drop k) := by
  have hik := h.mono h' hab
  rw [show l.drop k = (l.drop i).drop (k - i) by rw [List.drop_drop]; congr 1; omega, List.take_append_drop, List.take_append_drop]
theorem Stand.mid {l : List Smp} {a b : Int} {i k : Nat} (h : Stand l a i) (h' : Stand l b k) : ∀ x ∈ (l.drop i).take (k - i), a ≤ x.1 ∧ x.1 < b := by
  intro x hx
  refine ⟨h.back x (List.mem_of_mem_take hx), ?_⟩
  rcases Nat.lt_or_ge k i with hk | hk
  · rw [show k - i = 0 by omega] at hx; simp at hx
  rw [← List.drop_take] at hx
  exact h'.front x (List.mem_of_mem_drop hx)
theorem Stand.range {l : List Smp} {a b : Int} {i k : Nat} (h : Stand l a i) (h' : Stand l b k) (hab : a < b) : sRange l a b = (l.drop i).take (k - i) := by
  rw [sRange]
  rw [congrArg (List.filter _) (h.cutAt h' hab), List.filter_append, List.filter_append, filt_none (l := l.take i) (fun x hx => by have := h.front x hx; simp [inR]; omega), filt_all (fun x hx => by have := h.mid h' x hx; simp [inR]; omega),
    filt_none (l := l.drop k) (fun x hx => by have := h'.back x hx; simp [inR]; omega), List.nil_append, List.append_nil]
theorem Stand.del {l : List Smp} {a b : Int} {i k : Nat} (h : Stand l a i) (h' : Stand l b k) (hab : a < b) : sDel l a b = l.take i ++ l.drop k := by
  rw [sDel]
  rw [congrArg (List.filter _) (h.cutAt h' hab), List.filter_append, List.filter_append, filt_all (l := l.take i) (fun x hx => by have := h.front x hx; simp [inR]; omega), filt_none (fun x hx => by have := h.mid h' x hx; simp [inR]; omega),
    filt_all (l := l.drop k) (fun x hx => by have := h'.back x hx; simp [inR]; omega), List.nil_append]
theorem range_empty {l : List Smp} {a b : Int} (hab : b ≤ a) : sRange l a b = [] := filt_none (fun x _ => by simp [inR]; omega)
theorem del_empty {l : List Smp} {a b : Int} (hab : b ≤ a) : sDel l a b = l := filt_all (fun x _ => by simp [inR]; omega)
/-- two of the same members. -/
theorem Rise.ext : ∀ {l m : List Smp}, Rise l → Rise m → (∀ x, x ∈ l ↔ x ∈ m) → l = m
  | [], [], _, _, _ => rfl
  | [], y :: m, _, _, h => absurd ((h y).2 (by simp)) (by simp)
  | x :: l, [], _, _, h => absurd ((h x).1 (by simp)) (by simp)
  | x :: l, y :: m, hl, hm, h => by
    obtain ⟨hl1, hl2⟩ := List.pairwise_cons.1 hl
    obtain ⟨hm1, hm2⟩ := List.pairwise_cons.1 hm
    have hxy : x = y := by
      rcases List.mem_cons.1 ((h x).1 (by simp)) with h1 | h1
      · exact h1
      · rcases List.mem_cons.1 ((h y).2 (by simp)) with h2 | h2
        · exact h2.symm
        · have := hm1 x h1; have := hl1 y h2; omega
    subst hxy
    congr 1
    refine Rise.ext hl2 hm2 (fun z => ⟨fun hz => ?_, fun hz => ?_⟩)
    · rcases List.mem_cons.1 ((h z).1 (List.mem_cons_of_mem _ hz)) with h1 | h1
      · subst h1; have := hl1 z hz; omega
      · exact h1
    · rcases List.mem_cons.1 ((h z).2 (List.mem_cons_of_mem _ hz)) with h1 | h1
      · subst h1; have := hm1 z hz; omega
      · exact h1
theorem put_len {l : List Smp} (hr : Rise l) (t : Int) (v : Int × Int) {i : Nat} (h : Stand l t i) : (sPut l t v).length = if isAt l t i then l.length else l.length + 1 := by
  rw [h.put hr v, List.length_append, List.length_cons, List.length_take, List.length_drop]
  have := h.le
  cases hy : isAt l t i with
  | true =>
    obtain ⟨h1, _⟩ := h.hit hr hy
    simp only [if_true]; omega
  | false => simp only [Bool.false_eq_true, if_false]; omega
theorem put_len_le {l : List Smp} (t : Int) (v : Int × Int) (hr : Rise l) : (sPut l t v).length ≤ l.length + 1 := by
  rw [sPut, List.length_append, List.length_cons]
  have h1 : ∀ (l : List Smp), (l.filter (fun s => decide (s.1 < t))).length + (l.filter (fun s => decide (t < s.1))).length ≤ l.length := by
    intro l
    induction l with
    | nil => simp
    | cons x l ih =>
      simp only [List.filter_cons, List.length_cons]
      by_cases h1 : x.1 < t
      · have h2 : ¬ t < x.1 := by omega
        simp only [h1, h2, decide_true, decide_false, if_true, Bool.false_eq_true, if_false, List.length_cons]; omega
      · simp only [h1, decide_false, Bool.false_eq_true, if_false]
        split <;> (try simp only [List.length_cons]) <;> omega
  exact Nat.succ_le_succ (h1 l)

end Go.Proofs.YtljgnocpijniiaaGreatDoor

namespace Go.Proofs.YtljgnocpijniiaaGreatDoor
open Go

/-- one weirlaw08.Step, as a walk reads it. -/
structure StepV where
  k : Int
  t : Int
  u : Int
  v : Int × Int
  A : Option Addr
  m : Nat
  c : Nat
  l : List Smp
def StepV.cells (o : StepV) : List Value := [.int .i64 o.k, .int .i64 o.t, .int .i64 o.u, .int .u8 o.v.1, .int .i64 o.v.2, .slice o.A o.m o.c]
structure StepV.Ok (w : World) (o : StepV) : Prop where
  t0 : -9223372036854775808 ≤ o.t ∧ o.t < 9223372036854775808
  u0 : -9223372036854775808 ≤ o.u ∧ o.u < 9223372036854775808
  v0 : VOk o.v
  rd : Rd w o.A o.m 3 (o.l.flatMap scells)
  smp : ∀ s ∈ o.l, SOk s
def step0 : StepV := ⟨3, 0, 0, (0, 0), none, 0, 0, []⟩
/-- what a step leaves, loads left out. -/
def sStep (l : List Smp) (o : StepV) : List Smp := if o.k = 0 then sPut l o.t o.v else if o.k = 1 then sCut l o.t else if o.k = 2 then sDel l o.t o.u else l
theorem Rise.step {l : List Smp} (h : Rise l) (o : StepV) : Rise (sStep l o) := by
  unfold sStep
  split
  · exact h.put _ _
  split
  · exact h.cut _
  split
  · exact h.del _ _
  exact h
theorem Rise.run : ∀ (ops : List StepV) {l : List Smp}, Rise l → Rise (ops.foldl sStep l)
  | [], _, h => h
  | o :: ops, _, h => Rise.run ops (h.step o)
theorem step_len (l : List Smp) (hr : Rise l) (o : StepV) : (sStep l o).length ≤ l.length + 1 := by
  unfold sStep
  split
  · exact put_len_le _ _ hr
  split
  · exact Nat.le_succ_of_le (List.length_filter_le _ _)
  split
  · exact Nat.le_succ_of_le (List.length_filter_le _ _)
  exact Nat.le_succ _
theorem run_len : ∀ (ops : List StepV) {l : List Smp}, Rise l → (ops.foldl sStep l).length ≤ l.length + ops.length
  | [], _, _ => Nat.le_refl _
  | o :: ops, l, h => by
    have h1 := run_len ops (h.step o)
    have h2 := step_len l h o
    simp only [List.foldl_cons, List.length_cons] at h1 ⊢
    omega
def isPut (t : Int) (o : StepV) : Bool := decide (o.k = 0) && decide (o.t = t)
def isGone (t : Int) (o : StepV) : Bool := (decide (o.k = 1) && decide (o.t = t)) || (decide (o.k = 2) && (decide (o.t ≤ t) && decide (t < o.u)))
theorem get_step {l : List Smp} (h : Rise l) {t : Int} {o : StepV} (hp : isPut t o = false) : sGet (sStep l o) t = if isGone t o then none else sGet l t := by
  simp only [isPut, Bool.and_eq_false_iff, decide_eq_false_iff_not] at hp
  unfold sStep isGone
  by_cases h0 : o.k = 0
  · have ht : ¬ t = o.t := by
      rcases hp with hp | hp
      · exact absurd h0 hp
      · exact fun e => hp e.symm
    rw [if_pos h0, get_put h, if_neg ht]
    simp [h0]
  · by_cases h1 : o.k = 1
    · rw [if_neg h0, if_pos h1, get_cut h]
      have h2 : ¬ o.k = 2 := by omega
      by_cases ht : t = o.t
      · subst ht; simp [h1]
      · have ht' : ¬ o.t = t := fun e => ht e.symm
        simp [h1, ht, ht']
    · by_cases h2 : o.k = 2
      · rw [if_neg h0, if_neg h1, if_pos h2, get_del h]
        by_cases ht : o.t ≤ t ∧ t < o.u
        · rw [if_pos ht]; simp [h2, ht.1, ht.2]
        · rw [if_neg ht]
          have : (decide (o.t ≤ t) && decide (t < o.u)) = false := by
            rw [Bool.and_eq_false_iff, decide_eq_false_iff_not, decide_eq_false_iff_not]; omega
          simp [h2, this]
      · rw [if_neg h0, if_neg h1, if_neg h2]
        simp [h1, h2]
theorem get_run : ∀ (ops : List StepV) {l : List Smp}, Rise l → ∀ {t : Int}, ops.any (isPut t) = false → sGet (ops.foldl sStep l) t = if ops.any (isGone t) then none else sGet l t
  | [], _, _, _, _ => by simp
  | o :: ops, l, h, t, hp => by
    simp only [List.any_cons, Bool.or_eq_false_iff] at hp
    rw [List.foldl_cons, get_run ops (h.step o) hp.2, get_step h hp.1, List.any_cons]
    cases ops.any (isGone t) <;> cases isGone t o <;> simp
theorem any_last : ∀ (ops : List StepV) {t : Int}, ops.any (isPut t) = true → ∃ i, i < ops.length ∧ isPut t (ops.getD i step0) = true ∧ (ops.drop (i + 1)).any (isPut t) = false
  | [], _, h => by simp at h
  | o :: ops, t, h => by
    cases hr : ops.any (isPut t) with
    | true =>
      obtain ⟨i, h1, h2, h3⟩ := any_last ops hr
      exact ⟨i + 1, by simpa using h1, by simpa using h2, by simpa using h3⟩
    | false =>
      rw [List.any_cons, hr, Bool.or_false] at h
      exact ⟨0, by simp, by simpa using h, by simpa using hr⟩
/-- of the puts the last one of its time, that is not gone. -/
def stays (ops : List StepV) (i : Nat) : Bool := decide ((ops.getD i step0).k = 0) && (!(ops.drop (i + 1)).any (isPut (ops.getD i step0).t) && !(ops.drop (i + 1)).any (isGone (ops.getD i step0).t))
theorem stepD_lt {ops : List StepV} {i : Nat} (h : i < ops.length) : ops.getD i step0 = ops[i] := by rw [List.getD_eq_getElem?_getD, List.getElem?_eq_getElem h]; rfl
theorem get_at {ops : List StepV} {i : Nat} (hi : i < ops.length) (hk : (ops.getD i step0).k = 0) (hl : (ops.drop (i + 1)).any (isPut (ops.getD i step0).t) = false) :
    sGet (ops.foldl sStep []) (ops.getD i step0).t = if (ops.drop (i + 1)).any (isGone (ops.getD i step0).t) then none else some (ops.getD i step0).v := by
  have hsp : ops = ops.take i ++ ops.getD i step0 :: ops.drop (i + 1) := by
    rw [stepD_lt hi, ← List.drop_eq_getElem_cons hi, List.take_append_drop]
  have hr : Rise ((ops.take i).foldl sStep []) := Rise.run _ Rise.nil
  conv => lhs; rw [hsp]
  have h1 : sStep ((ops.take i).foldl sStep []) (ops.getD i step0) = sPut ((ops.take i).foldl sStep []) (ops.getD i step0).t (ops.getD i step0).v := by rw [sStep, if_pos hk]
  rw [List.foldl_append, List.foldl_cons, ← hsp, get_run _ (hr.step _) hl, h1, get_put hr, if_pos rfl]
theorem nodup_le {α : Type} [BEq α] [LawfulBEq α] : ∀ {l m : List α}, l.Nodup → (∀ x ∈ l, x ∈ m) → l.length ≤ m.length
  | [], _, _, _ => Nat.zero_le _
  | x :: l, m, hn, hs => by
    obtain ⟨h1, h2⟩ := List.nodup_cons.1 hn
    have hx : x ∈ m := hs x (by simp)
    have := nodup_le (l := l) (m := m.erase x) h2 (fun y hy => (List.mem_erase_of_ne (fun e : y = x => h1 (by rw [← e]; exact hy))).2 (hs y (List.mem_cons_of_mem _ hy)))
    rw [List.length_erase_of_mem hx] at this
    have hm : 0 < m.length := List.length_pos_of_mem hx
    rw [List.length_cons]; omega
/-- as many stay as lie there. -/
theorem stays_len (ops : List StepV) : ((List.range ops.length).filter (stays ops)).length = (ops.foldl sStep []).length := by
  have hr : Rise (ops.foldl sStep []) := Rise.run _ Rise.nil
  have spec : ∀ i ∈ (List.range ops.length).filter (stays ops), i < ops.length ∧ (ops.getD i step0).k = 0 ∧ (ops.drop (i + 1)).any (isPut (ops.getD i step0).t) = false ∧ (ops.drop (i + 1)).any (isGone (ops.getD i step0).t) = false := by
    intro i hi
    simp only [List.mem_filter, List.mem_range, stays, Bool.and_eq_true, decide_eq_true_eq, Bool.not_eq_true'] at hi
    exact ⟨hi.1, hi.2.1, hi.2.2.1, hi.2.2.2⟩
  have n1 : (((List.range ops.length).filter (stays ops)).map (fun i => (ops.getD i step0).t)).Nodup := by
    refine List.pairwise_map.2 ?_
    refine List.Pairwise.imp_of_mem ?_ (List.Pairwise.filter _ List.pairwise_lt_range)
    intro i j hi hj hij he
    obtain ⟨i1, i2, i3, i4⟩ := spec i hi
    obtain ⟨j1, j2, j3, j4⟩ := spec j hj
    have := List.any_eq_false.1 i3 (ops.getD j step0) (by
      rw [stepD_lt j1]
      refine List.mem_of_getElem? (i := j - (i + 1)) ?_
      rw [List.getElem?_drop, show i + 1 + (j - (i + 1)) = j by omega, List.getElem?_eq_getElem j1])
    simp only [isPut, Bool.and_eq_true, decide_eq_true_eq, not_and] at this
    exact this j2 he.symm
  have n2 : ((ops.foldl sStep []).map (·.1)).Nodup := by
    refine List.pairwise_map.2 (List.Pairwise.imp ?_ hr)
    intro a b h; omega
  have s1 : ∀ x ∈ ((List.range ops.length).filter (stays ops)).map (fun i => (ops.getD i step0).t), x ∈ (ops.foldl sStep []).map (·.1) := by
    intro x hx
    obtain ⟨i, hi, rfl⟩ := List.mem_map.1 hx
    obtain ⟨i1, i2, i3, i4⟩ := spec i hi
    have h := get_at i1 i2 i3
    rw [i4, if_neg (by simp), get_some hr] at h
    exact List.mem_map.2 ⟨_, h, rfl⟩
  have s2 : ∀ x ∈ (ops.foldl sStep []).map (·.1), x ∈ ((List.range ops.length).filter (stays ops)).map (fun i => (ops.getD i step0).t) := by
    intro x hx
    obtain ⟨⟨t, v⟩, hm, rfl⟩ := List.mem_map.1 hx
    have hg := (get_some hr).2 hm
    cases ha : ops.any (isPut t) with
    | false =>
      rw [get_run ops Rise.nil ha] at hg
      split at hg <;> cases hg
    | true =>
      obtain ⟨i, i1, i2, i3⟩ := any_last ops ha
      simp only [isPut, Bool.and_eq_true, decide_eq_true_eq] at i2
      obtain ⟨k0, t0⟩ := i2
      rw [← t0] at i3 hg
      have h := get_at i1 k0 i3
      rw [hg] at h
      refine List.mem_map.2 ⟨i, ?_, t0⟩
      simp only [List.mem_filter, List.mem_range, stays, Bool.and_eq_true, decide_eq_true_eq, Bool.not_eq_true']
      refine ⟨i1, k0, i3, ?_⟩
      cases hgo : (ops.drop (i + 1)).any (isGone (ops.getD i step0).t) with
      | false => rfl
      | true => rw [hgo, if_pos rfl] at h; cases h
  have a := nodup_le n1 s1
  have b := nodup_le n2 s2
  simp only [List.length_map] at a b
  omega

end Go.Proofs.YtljgnocpijniiaaGreatDoor
