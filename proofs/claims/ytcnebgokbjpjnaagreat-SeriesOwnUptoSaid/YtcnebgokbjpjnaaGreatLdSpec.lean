/- Load in plain terms: what becomes of each time; by the times, and by the samples, it is the same. -/
import Derived.Test.YtcnebgokbjpjnaaGreatCompI
import Derived.Test.YtcnebgokbjpjnaaGreatDlt
import Derived.Test.YtcnebgokbjpjnaaGreatRser2
set_option linter.unusedVariables false
set_option linter.unusedSimpArgs false
set_option maxRecDepth 100000
namespace Go.Proofs.YtcnebgokbjpjnaaGreat
open Go

def sLoad (l xs : List Smp) : List Smp := xs.foldl (fun l x => sPut l x.1 x.2) l
/-- what became of a time. -/
def dOf (was now : List Smp) (t : Int) : List Dlt := if sHas was t = false ∨ sOld was t ≠ sOld now t then [⟨t, sHas was t, sOld was t, sOld now t⟩] else []
def loadT (xs : List Smp) : List Int := cpt (sortI (xs.map (·.1)))
def loadD (l xs : List Smp) : List Dlt := (loadT xs).flatMap (dOf l (sLoad l xs))
theorem Rise.load : ∀ (xs : List Smp) {l : List Smp}, Rise l → Rise (sLoad l xs)
  | [], _, h => h
  | x :: xs, _, h => Rise.load xs (h.put x.1 x.2)
theorem sload_len : ∀ (xs : List Smp) {l : List Smp}, Rise l → (sLoad l xs).length ≤ l.length + xs.length
  | [], _, _ => Nat.le_refl _
  | x :: xs, l, h => by
    have h1 := sload_len xs (h.put x.1 x.2)
    have h2 := put_len_le x.1 x.2 h
    have e : sLoad l (x :: xs) = sLoad (sPut l x.1 x.2) xs := rfl
    rw [e, List.length_cons]
    omega
theorem sload_get : ∀ (xs : List Smp) {l : List Smp}, Rise l → ∀ {t : Int}, t ∉ xs.map (·.1) → sGet (sLoad l xs) t = sGet l t
  | [], _, _, _, _ => rfl
  | x :: xs, l, h, t, ht => by
    simp only [List.map_cons, List.mem_cons, not_or] at ht
    have e : sLoad l (x :: xs) = sLoad (sPut l x.1 x.2) xs := rfl
    rw [e, sload_get xs (h.put _ _) ht.2, get_put h, if_neg ht.1]
theorem sload_mem : ∀ (xs : List Smp) {l : List Smp}, Rise l → ∀ {t : Int}, t ∈ xs.map (·.1) → ∃ v, sGet (sLoad l xs) t = some v
  | [], _, _, _, ht => by simp at ht
  | x :: xs, l, h, t, ht => by
    have e : sLoad l (x :: xs) = sLoad (sPut l x.1 x.2) xs := rfl
    by_cases hr : t ∈ xs.map (·.1)
    · rw [e]; exact sload_mem xs (h.put _ _) hr
    · have : t = x.1 := by
        simp only [List.map_cons, List.mem_cons] at ht
        exact ht.resolve_right hr
      rw [e, sload_get xs (h.put _ _) hr, get_put h, if_pos this]
      exact ⟨_, rfl⟩
theorem sortI_mem {l : List Int} {x : Int} : x ∈ sortI l ↔ x ∈ l := List.mem_mergeSort
theorem sortI_pair (l : List Int) : (sortI l).Pairwise (· ≤ ·) := by
  have := List.pairwise_mergeSort (le := fun x y : Int => decide (x ≤ y)) (fun a b c h1 h2 => by simp only [decide_eq_true_eq] at *; omega) (fun a b => by simp only [Bool.or_eq_true, decide_eq_true_eq]; omega) l
  exact this.imp (fun h => of_decide_eq_true h)
theorem cpt_mem (l : List Int) (x : Int) : x ∈ cpt l ↔ x ∈ l := by
  refine snoc_ind (p := fun l => x ∈ cpt l ↔ x ∈ l) Iff.rfl (fun l y ih => ?_) l
  rw [cpt_snoc, cptS]
  split
  · rename_i h
    rw [ih, List.mem_append, List.mem_singleton]
    refine ⟨.inl, fun h' => h'.elim id (fun e => ?_)⟩
    rw [cpt_last] at h
    rw [e]; exact List.mem_of_getLast? h
  · rw [List.mem_append, List.mem_append, ih]
theorem cpt_rise (l : List Int) (hs : l.Pairwise (· ≤ ·)) : (cpt l).Pairwise (· < ·) := by
  revert hs
  refine snoc_ind (p := fun l => l.Pairwise (· ≤ ·) → (cpt l).Pairwise (· < ·)) (fun _ => List.Pairwise.nil) (fun l y ih hs => ?_) l
  obtain ⟨h1, _, h3⟩ := List.pairwise_append.1 hs
  rw [cpt_snoc, cptS]
  split
  · exact ih h1
  · rename_i hne
    refine List.pairwise_append.2 ⟨ih h1, List.pairwise_singleton _ _, fun a ha b hb => ?_⟩
    rw [List.mem_singleton] at hb
    subst hb
    have hle := h3 a ((cpt_mem l a).1 ha) b (by simp)
    rcases Int.lt_or_eq_of_le hle with h | h
    · exact h
    · exfalso
      subst h
      apply hne
      obtain ⟨z, hz⟩ : ∃ z, (cpt l).getLast? = some z := by
        cases hl : (cpt l).getLast? with
        | none => rw [List.getLast?_eq_none_iff] at hl; rw [hl] at ha; simp at ha
        | some z => exact ⟨z, rfl⟩
      have hzl : z ∈ l := (cpt_mem l z).1 (List.mem_of_getLast? hz)
      have hza := h3 z hzl a (by simp)
      have haz : a ≤ z := by
        rw [List.getLast?_eq_some_iff] at hz
        obtain ⟨ys, hz⟩ := hz
        have hp := ih h1
        rw [hz] at hp ha
        rcases List.mem_append.1 ha with h | h
        · exact Int.le_of_lt ((List.pairwise_append.1 hp).2.2 a h z (by simp))
        · rw [List.mem_singleton] at h; omega
      rw [hz, show z = a by omega]
theorem loadT_mem {xs : List Smp} {t : Int} : t ∈ loadT xs ↔ t ∈ xs.map (·.1) := by rw [loadT, cpt_mem, sortI_mem]
theorem loadT_rise (xs : List Smp) : (loadT xs).Pairwise (· < ·) := cpt_rise _ (sortI_pair _)
theorem loadT_len (xs : List Smp) : (loadT xs).length ≤ xs.length := by
  have := cpt_len (sortI (xs.map (·.1)))
  rw [sortI_len, List.length_map] at this
  exact this
theorem lt_ext : ∀ {l m : List Int}, l.Pairwise (· < ·) → m.Pairwise (· < ·) → (∀ x, x ∈ l ↔ x ∈ m) → l = m
  | [], [], _, _, _ => rfl
  | [], y :: m, _, _, h => absurd ((h y).2 (by simp)) (by simp)
  | x :: l, [], _, _, h => absurd ((h x).1 (by simp)) (by simp)
  | x :: l, y :: m, hl, hm, h => by
    obtain ⟨hl1, hl2⟩ := List.pairwise_cons.1 hl
    obtain ⟨hm1, hm2⟩ := List.pairwise_cons.1 hm
    have hxy : x = y := by
      rcases List.mem_cons.1 ((h x).1 (by simp)) with h1 | h1
      · exact h1
      · rcases List.mem_cons.1 ((h y).2 (by simp)) with h2 | h2
        · exact h2.symm
        · have := hm1 x h1; have := hl1 y h2; omega
    subst hxy
    congr 1
    refine lt_ext hl2 hm2 (fun z => ⟨fun hz => ?_, fun hz => ?_⟩)
    · rcases List.mem_cons.1 ((h z).1 (List.mem_cons_of_mem _ hz)) with h1 | h1
      · subst h1; have := hl1 z hz; omega
      · exact h1
    · rcases List.mem_cons.1 ((h z).2 (List.mem_cons_of_mem _ hz)) with h1 | h1
      · subst h1; have := hm1 z hz; omega
      · exact h1
theorem flat_filter {α β : Type} (p : α → Bool) (f : α → List β) : ∀ (l : List α), (∀ x ∈ l, p x = false → f x = []) → (l.filter p).flatMap f = l.flatMap f
  | [], _ => rfl
  | x :: l, h => by
    have ih := flat_filter p f l (fun y hy => h y (List.mem_cons_of_mem _ hy))
    rw [List.filter_cons, List.flatMap_cons]
    split
    · rw [List.flatMap_cons, ih]
    · rename_i hp
      rw [h x (by simp) (by simpa using hp), ih, List.nil_append]
theorem oldHas {l : List Smp} {t : Int} {v : Int × Int} (h : sGet l t = some v) : sOld l t = v ∧ sHas l t = true := by rw [sOld, sHas, h]; exact ⟨rfl, rfl⟩
theorem loadD_eq {l : List Smp} (hr : Rise l) (xs : List Smp) : (sLoad l xs).flatMap (fun s => dOf l (sLoad l xs) s.1) = loadD l xs := by
  have hR := Rise.load xs hr
  have e1 : (sLoad l xs).flatMap (fun s => dOf l (sLoad l xs) s.1) = ((sLoad l xs).map (·.1)).flatMap (dOf l (sLoad l xs)) := by rw [List.flatMap_map]
  rw [e1, loadD, ← flat_filter (fun t => decide (t ∈ xs.map (·.1))) (dOf l (sLoad l xs)) ((sLoad l xs).map (·.1))]
  · congr 1
    refine lt_ext ?_ (loadT_rise xs) (fun t => ?_)
    · exact (List.pairwise_map.2 (hR.imp (fun h => h))).filter _
    · rw [List.mem_filter, decide_eq_true_iff, loadT_mem]
      refine ⟨fun h => h.2, fun h => ⟨?_, h⟩⟩
      obtain ⟨v, hv⟩ := sload_mem xs hr h
      exact List.mem_map.2 ⟨_, (get_some hR).1 hv, rfl⟩
  · intro t ht hp
    obtain ⟨⟨t', v⟩, hs, rfl⟩ := List.mem_map.1 ht
    have hn := sload_get xs hr (of_decide_eq_false hp)
    have hg := (get_some hR).2 hs
    obtain ⟨h1, h2⟩ := oldHas hg
    rw [hn] at hg
    obtain ⟨h3, h4⟩ := oldHas hg
    rw [dOf, if_neg (by rw [h1, h3, h4]; simp)]

theorem sload_sub : ∀ (xs : List Smp) {l : List Smp} {s : Smp}, s ∈ sLoad l xs → s ∈ l ∨ s ∈ xs
  | [], _, _, h => .inl h
  | x :: xs, l, s, h => by
    have e1 : sLoad l (x :: xs) = sLoad (sPut l x.1 x.2) xs := rfl
    rw [e1] at h
    rcases sload_sub xs h with h | h
    · rcases mem_put.1 h with h | h
      · exact .inr (h ▸ List.mem_cons_self)
      · exact .inl h.1
    · exact .inr (List.mem_cons_of_mem _ h)
end Go.Proofs.YtcnebgokbjpjnaaGreat
