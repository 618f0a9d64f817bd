/- Rows whose block may be longer than the slice says: append, copy, clear, cuts with three bounds. -/
import Derived.Test.YtcnebgokbjpjnaaGreatMem
import Derived.Lib.AppendZerosOnto
import Derived.Lib.Overlaps
set_option linter.unusedVariables false
set_option linter.unusedSimpArgs false
namespace Go.Proofs.YtcnebgokbjpjnaaGreat
open Go

/-- a row of one's own; its block may be longer than its capacity. -/
def LRow (w : World) (e : TypeId) (size : Nat) (v : Value) (n : Nat) (xs : List Value) : Prop :=
  xs.length = n * size ∧ ((v = .slice none 0 0 ∧ n = 0) ∨ ∃ g c cur, v = .slice (some ⟨g, 0, none⟩) n c ∧ Blk w g e cur ∧ n ≤ c ∧ c ≤ maxLen ∧ c * size ≤ cur.length ∧ cur.take (n * size) = xs)
section
variable {w w' : World} {e : TypeId} {size : Nat} {v : Value} {n : Nat} {xs : List Value}
theorem LRow.of_own (h : w.ownsRow 0 e size v n xs) : LRow w e size v n xs := by
  refine ⟨h.1, ?_⟩
  rcases h.2 with hn | ⟨g, cap, cur, rfl, _, hg, h1, h2, h3, h4⟩
  · exact .inl hn
  · exact .inr ⟨g, cap, cur.toList, rfl, by unfold Blk; simpa using hg, h1, h2, by simpa using Nat.le_of_eq h3.symm, h4⟩
theorem LRow.nil (w : World) (e : TypeId) (size : Nat) : LRow w e size (.slice none 0 0) 0 [] := ⟨by simp, .inl ⟨rfl, rfl⟩⟩
theorem LRow.keep {F : Nat → Prop} (h : LRow w e size v n xs) (hk : Keep F w w') (hF : ∀ k, fpV v k → ¬ F k) : LRow w' e size v n xs := by
  refine ⟨h.1, ?_⟩
  rcases h.2 with hn | ⟨g, cap, cur, rfl, hg, rest⟩
  · exact .inl hn
  · exact .inr ⟨g, cap, cur, rfl, hg.keep hk (hF g rfl), rest⟩
theorem LRow.grow (h : LRow w e size v n xs) (hk : Grow w w') : LRow w' e size v n xs := h.keep hk (fun _ _ h => h)
theorem LRow.lt (h : LRow w e size v n xs) : ∀ k, fpV v k → k < w.heap.size := by
  intro k hk
  rcases h.2 with ⟨rfl, _⟩ | ⟨g, c, cur, rfl, hg, _⟩
  · exact absurd hk (fpV_none _)
  · rw [fpV_some] at hk; subst hk; exact hg.lt
theorem LRow.form (h : LRow w e size v n xs) : ∃ A c, v = .slice A n c ∧ n ≤ c ∧ (A = none → n = 0) := by
  rcases h.2 with ⟨rfl, rfl⟩ | ⟨g, c, cur, rfl, _, hc, _⟩
  · exact ⟨none, 0, rfl, Nat.le_refl _, fun _ => rfl⟩
  · exact ⟨_, c, rfl, hc, fun h => by cases h⟩
theorem LRow.rd {A : Option Addr} {c : Nat} (h : LRow w e size (.slice A n c) n xs) : Rd w A n size xs := by
  refine ⟨h.1, fun hn => ?_⟩
  rcases h.2 with ⟨h1, h2⟩ | ⟨g, cap, cur, hv, hg, h1, h2, h3, h4⟩
  · omega
  · injection hv with hA
    subst hA
    refine ⟨_, rfl, fun j u hu => ?_⟩
    rw [add_lit', hg.cell, Nat.zero_add]
    rw [← h4, List.getElem?_take] at hu
    split at hu
    · exact hu
    · cases hu
theorem LRow.pre {A : Option Addr} {c k : Nat} (h : LRow w e size (.slice A n c) n xs) (hk : k ≤ n) : LRow w e size (.slice A k c) k (xs.take (k * size)) := by
  refine ⟨by rw [List.length_take, h.1]; exact Nat.min_eq_left (Nat.mul_le_mul_right _ hk), ?_⟩
  rcases h.2 with ⟨h1, h2⟩ | ⟨g, cap, cur, hv, hg, h1, h2, h3, h4⟩
  · injection h1 with ha hb hc
    subst ha hc
    exact .inl ⟨by rw [show k = 0 by omega], by omega⟩
  · injection hv with ha hb hc
    subst ha hc
    exact .inr ⟨g, c, cur, rfl, hg, by omega, h2, h3, by rw [← h4, List.take_take, Nat.min_eq_left (Nat.mul_le_mul_right _ hk)]⟩
theorem LRow.pre3 {A : Option Addr} {c k : Nat} (h : LRow w e size (.slice A n c) n xs) (hk : k ≤ n) : LRow w e size (.slice A k k) k (xs.take (k * size)) := by
  refine ⟨by rw [List.length_take, h.1]; exact Nat.min_eq_left (Nat.mul_le_mul_right _ hk), ?_⟩
  rcases h.2 with ⟨h1, h2⟩ | ⟨g, cap, cur, hv, hg, h1, h2, h3, h4⟩
  · injection h1 with ha hb hc
    subst ha
    exact .inl ⟨by rw [show k = 0 by omega], by omega⟩
  · injection hv with ha hb hc
    subst ha hc
    exact .inr ⟨g, k, cur, rfl, hg, Nat.le_refl _, by omega, Nat.le_trans (Nat.mul_le_mul_right _ (by omega)) h3, by rw [← h4, List.take_take, Nat.min_eq_left (Nat.mul_le_mul_right _ hk)]⟩
theorem LRow.blk_ne {g : Nat} {t : TypeId} {cs : List Value} (h : LRow w e size v n xs) (hg : Blk w g t cs) (hne : e ≠ t) : ¬ fpV v g := by
  rcases h.2 with ⟨rfl, _⟩ | ⟨g', cap, cur, rfl, hh, _⟩
  · exact fpV_none _
  · intro he
    rw [fpV_some] at he
    subst he
    exact Blk.ne_ hh hg hne rfl
theorem LRow.ne {e' : TypeId} {size' n' : Nat} {v' : Value} {xs' : List Value} (h : LRow w e size v n xs) (h' : LRow w e' size' v' n' xs') (hne : e ≠ e') : ∀ k, fpV v k → ¬ fpV v' k := by
  intro k hk
  rcases h.2 with ⟨rfl, _⟩ | ⟨g, cap, cur, rfl, hh, _⟩
  · exact absurd hk (fpV_none _)
  · rw [fpV_some] at hk
    subst hk
    exact h'.blk_ne hh (Ne.symm hne)
end
theorem Blk.eq {w : World} {g : Nat} {t : TypeId} {cs : List Value} (h : Blk w g t cs) : w.heap[g]? = some (.cells cs.toArray t (0, 0)) := h
theorem Blk.setRow {w : World} {g : Nat} {t : TypeId} {cs : List Value} (h : Blk w g t cs) (cs' : List Value) : Blk (w.setRow g cs'.toArray) g t cs' := setRow_heap w g _ _ t _ h
theorem Keep.setRow (w : World) (g : Nat) (cs : Array Value) : Keep (fun k => k = g) w (w.setRow g cs) := ⟨rfl, rfl, rfl, by simp [World.setRow], fun k _ hn => setRow_other w g k _ hn⟩

section
variable {P : Program}
theorem run_append_nothing_l {t ty e : TypeId} {i : TypeInfo} {size : Nat} (ht : P.underlying t = some (.slice e)) (hi : P.info? e = some i)
    {w : World} {v : Value} {n : Nat} {xs : List Value} (hown : LRow w e size v n xs) (c : Nat) : (Builtin.append_ #[t, t] ty #[v, .slice none 0 c]).run P w = .ok v w := by
  rcases hown.2 with ⟨rfl, rfl⟩ | ⟨g, cap, cur, rfl, _, hnc, _⟩
  · simp [Builtin.append_, run_underlying ht, sizeOf, typeInfo, hi, Builtin.lenOf, Builtin.firstCells]
  · simp [Builtin.append_, run_underlying ht, sizeOf, typeInfo, hi, Builtin.lenOf, Builtin.firstCells, hnc, storeCells]
theorem l_new {w : World} {e : TypeId} {size n : Nat} {xs : List Value} (rest : Array Value) (C : Nat) (hx : xs.length = n * size) (hn : n ≤ C) (hC : C ≤ maxLen) (hr : rest.size = (C - n) * size) :
    LRow (w.drew.alloc (.cells (xs.toArray ++ rest) e)) e size (.slice (some ⟨w.heap.size, 0, none⟩) n C) n xs := by
  refine ⟨hx, .inr ⟨w.heap.size, C, (xs.toArray ++ rest).toList, rfl, by unfold Blk; rw [Array.toArray_toList]; exact heap_alloc_new w.drew _, hn, hC, ?_, ?_⟩⟩
  · rw [Array.toList_append, List.length_append, Array.length_toList, Array.length_toList, hr, List.size_toArray, hx, ← Nat.add_mul]
    exact Nat.mul_le_mul_right _ (by omega)
  · rw [Array.toList_append, ← hx]
    exact List.take_left
theorem appK_l {t ty e : TypeId} {size bytes : Nat} (hf : elemFactsB P t e size bytes = true) {w : World} {v : Value} {n : Nat} {xs : List Value} (hown : LRow w e size v n xs)
    {A : Option Addr} {m c : Nat} {news : List Value} (hr : Rd w A m size news) (h1 : ∀ u ∈ news, u.oneCell' = true) (h63 : n + m ≤ maxLen) (hb : (n + m) * bytes ≤ 140737488355328)
    {K : VWK} {tk : Tok K} (h : ∀ A' c' w', LRow w' e size (.slice A' (n + m) c') (n + m) (xs ++ news) → Keep (fpV v) w w' → (∀ k, fpV (.slice A' (n + m) c') k → fpV v k ∨ k = w.heap.size) → (A' = none → ∃ n0 c0, v = .slice none n0 c0) →
      K (.slice A' (n + m) c') w') : appK P [t, t] ty [v, .slice A m c] w K tk := by
  obtain ⟨z, ht, ⟨i, hi, hz, hs, hby⟩, hzs, hsz⟩ := elemFacts_of hf
  unfold appK
  have hlen : (xs ++ news).length = (n + m) * size := by rw [List.length_append, hown.1, hr.1, Nat.add_mul]
  rcases A with _ | ad
  · have hm : m = 0 := by
      rcases Nat.eq_zero_or_pos m with h0 | h0
      · exact h0
      · obtain ⟨ad, h, _⟩ := hr.2 h0; cases h
    subst hm
    have hn : news = [] := List.eq_nil_of_length_eq_zero (by simpa using hr.1)
    subst hn
    obtain ⟨A', c', rfl, _, _⟩ := hown.form
    exact ⟨_, w, run_append_nothing_l ht hi hown c, h A' c' w (by simpa using hown) (Keep.refl _ _) (fun k hk => .inl hk) (fun h => ⟨_, _, by rw [h]⟩)⟩
  · have hcells : ∀ j u, news[j]? = some u → w.cell? (ad.add j) = some u := by
      intro j u hu
      rcases Nat.eq_zero_or_pos m with h0 | h0
      · subst h0
        have hn : news = [] := List.eq_nil_of_length_eq_zero (by simpa using hr.1)
        subst hn
        simp at hu
      · obtain ⟨ad', h, hc⟩ := hr.2 h0
        injection h with h
        subst h
        exact hc j u hu
    rcases hown.2 with ⟨rfl, rfl⟩ | ⟨g, cap, cur, rfl, hg, hnc, hcm, hcs, htake⟩
    · have hown' : w.ownsRow 0 e size (.slice none 0 0) 0 xs := ⟨hown.1, .inl ⟨rfl, rfl⟩⟩
      obtain ⟨v', w', hrun, h2, h3, _, h5⟩ := run_append_own_at (P := P) w 0 t ty e i z size bytes ht hi hz hs hby hzs hsz _ 0 xs hown' ad m c news hr.1 hcells h1 h63 hb (Nat.zero_le _)
      obtain ⟨A', c', rfl, _, _⟩ := own_form h2
      refine ⟨_, w', hrun, h A' c' w' (LRow.of_own h2) (Keep.grownBy h3) (fun k hk => ?_) (fun _ => ⟨_, _, rfl⟩)⟩
      rcases h5 with h5 | h5
      · exact .inl (by unfold fpV at hk ⊢; rw [← h5]; exact hk)
      · right
        unfold fpV at hk
        rw [h5] at hk
        injection hk with hk
        exact hk.symm
    · subst hs
      subst hby
      by_cases hroom : n + m ≤ cap
      · have hfit : n * i.size + news.length ≤ cur.toArray.size := by
          rw [hr.1, ← Nat.add_mul, List.size_toArray]; exact Nat.le_trans (Nat.mul_le_mul_right _ hroom) hcs
        have hrun := run_append_room (P := P) w t ty e i ht hi g n cap cur.toArray hg ad m c news hr.1 hcells h1 hroom hfit
        refine ⟨_, _, hrun, h _ _ _ ⟨hlen, .inr ⟨g, cap, _, rfl, hg.setRow _, hroom, hcm, ?_, ?_⟩⟩ ((Keep.setRow w g _).mono (fun k _ hk => (fpV_some _ _ _ _).2 hk)) (fun k hk => .inl hk) (fun h => by cases h)⟩
        · rw [List.size_toArray] at hfit
          simp only [List.length_append, List.length_take, List.length_drop]
          omega
        · rw [show cur.toArray.toList = cur from rfl, htake, ← hlen]
          exact List.take_left
      · have holds : ∀ j u, xs[j]? = some u → w.cell? ((⟨g, 0, none⟩ : Addr).add j) = some u := by
          intro j u hu
          rw [add_lit', hg.cell, Nat.zero_add]
          rw [← htake, List.getElem?_take] at hu
          split at hu
          · exact hu
          · cases hu
        have hrun := run_append_grow (P := P) w t ty e i z ht hi hz ⟨g, 0, none⟩ n cap xs hown.1 holds ad m c news hr.1 hcells (by omega) (by simp only [maxLen] at h63; omega) (growslice_fits (by omega) hb)
        refine ⟨_, _, hrun, h _ _ _ ?_ ⟨rfl, rfl, rfl, by simp, fun k hk _ => RowKit.Below.heap_alloc w.drew _ k hk⟩ (fun k hk => .inr ((fpV_some _ _ _ _).1 hk)) (fun h => by cases h)⟩
        have := l_new (w := w) (e := e) (size := i.size) (n := n + m) (xs := xs ++ news) (Builtin.zeroCells z.cells (grownCap w (n + m) cap e - (n + m))) (grownCap w (n + m) cap e) hlen (grownCap_ge _ _ _ _) (grownCap_le_maxLen _ _ _ _ h63) (by rw [size_zeroCells, hzs])
        simpa using this
/-- onto a row that has room: where it then lies. -/
theorem appK_room {t ty e : TypeId} {size bytes : Nat} (hf : elemFactsB P t e size bytes = true) {w : World} {g n c : Nat} {cur : List Value} (hg : Blk w g e cur) (hc : c * size ≤ cur.length)
    {ad : Addr} {m c' : Nat} {news : List Value} (hr : Rd w (some ad) m size news) (h1 : ∀ u ∈ news, u.oneCell' = true) (hroom : n + m ≤ c)
    {K : VWK} {tk : Tok K} (h : ∀ w', Blk w' g e (cur.take (n * size) ++ news ++ cur.drop (n * size + news.length)) → Keep (fun k => k = g) w w' → K (.slice (some ⟨g, 0, none⟩) (n + m) c) w') :
    appK P [t, t] ty [.slice (some ⟨g, 0, none⟩) n c, .slice (some ad) m c'] w K tk := by
  obtain ⟨z, ht, ⟨i, hi, hz, hs, hby⟩, hzs, hsz⟩ := elemFacts_of hf
  have hcells : ∀ j u, news[j]? = some u → w.cell? (ad.add j) = some u := by
    intro j u hu
    rcases Nat.eq_zero_or_pos m with h0 | h0
    · subst h0
      have hn : news = [] := List.eq_nil_of_length_eq_zero (by simpa using hr.1)
      subst hn
      simp at hu
    · obtain ⟨ad', h, hc⟩ := hr.2 h0
      injection h with h
      subst h
      exact hc j u hu
  subst hs
  have hfit : n * i.size + news.length ≤ cur.toArray.size := by
    rw [hr.1, ← Nat.add_mul, List.size_toArray]; exact Nat.le_trans (Nat.mul_le_mul_right _ hroom) hc
  exact ⟨_, _, run_append_room (P := P) w t ty e i ht hi g n c cur.toArray hg ad m c' news hr.1 hcells h1 hroom hfit, h _ (hg.setRow _) (Keep.setRow w g _)⟩
/-- a row that grows by a number of zero elements. -/
theorem appK_zeros {t tn ty e : TypeId} {size bytes : Nat} (hf : elemFactsB P t e size bytes = true) (htn : P.underlying tn = some (.int .i64)) {w : World} {g n c : Nat} {xs : List Value} (hr : Rd w (some ⟨g, 0, none⟩) n size xs)
    {k : Nat} {z : Int} (hz : z = (k : Int)) (h0 : 0 < k) (hg : c < n + k) (h63 : n + k ≤ maxLen) (hb : (n + k) * bytes ≤ 140737488355328)
    {K : VWK} {tk : Tok K} (h : ∀ cur c' w', cur.take (n * size) = xs → c' * size ≤ cur.length → n + k ≤ c' → c' ≤ maxLen → Blk w' w.heap.size e cur → Grow w w' → K (.slice (some ⟨w.heap.size, 0, none⟩) (n + k) c') w') :
    appK P [t, tn] ty [.slice (some ⟨g, 0, none⟩) n c, .int .i64 z] w K tk := by
  subst hz
  obtain ⟨z, ht, ⟨i, hi, hz, hs, hby⟩, hzs, hsz⟩ := elemFacts_of hf
  subst hs
  subst hby
  have hcells : ∀ j u, xs[j]? = some u → w.drew.cell? ((⟨g, 0, none⟩ : Addr).add j) = some u := by
    intro j u hu
    rcases Nat.eq_zero_or_pos n with h0 | h0
    · subst h0
      have hn : xs = [] := List.eq_nil_of_length_eq_zero (by simpa using hr.1)
      subst hn
      simp at hu
    · obtain ⟨ad', h, hc⟩ := hr.2 h0
      injection h with h
      subst h
      exact hc j u hu
  have hold := run_firstCells_some (P := P) w.drew i.size n ⟨g, 0, none⟩ n c xs hr.1 hcells
  have hm : (n + k) ≤ 9223372036854775807 := by simp only [maxLen] at h63; omega
  have hb' : k * i.bytes ≤ 281474976710656 := Nat.le_trans (Nat.mul_le_mul_right _ (by omega)) (Nat.le_trans hb (by omega))
  have hrun := Lib.run_append_grow_zeros (P := P) w t tn ty e i z .i64 .i64 ht htn hi hz (some ⟨g, 0, none⟩) n c xs hold k h0 hsz hg (by omega) hb' (growslice_fits hg hb)
  refine ⟨_, _, hrun, h (xs ++ ((Builtin.zeroCells z.cells k).toList ++ (Builtin.zeroCells z.cells (grownCap w (n + k) c e - (n + k))).toList)) _ _ ?_ ?_ (grownCap_ge _ _ _ _) (grownCap_le_maxLen _ _ _ _ h63) ?_ ⟨rfl, rfl, rfl, by simp, fun k hk _ => RowKit.Below.heap_alloc w.drew _ k hk⟩⟩
  · rw [← hr.1]; exact List.take_left
  · have h1 := size_zeroCells z.cells k
    have h2 := size_zeroCells z.cells (grownCap w (n + k) c e - (n + k))
    rw [hzs] at h1 h2
    have hge := grownCap_ge w (n + k) c e
    simp only [List.length_append, Array.length_toList]
    rw [h1, h2, hr.1, ← Nat.add_mul, ← Nat.add_mul]
    exact Nat.mul_le_mul_right _ (by omega)
  · unfold Blk
    rw [show (xs ++ ((Builtin.zeroCells z.cells k).toList ++ (Builtin.zeroCells z.cells (grownCap w (n + k) c e - (n + k))).toList)).toArray = xs.toArray ++ Builtin.zeroCells z.cells k ++ Builtin.zeroCells z.cells (grownCap w (n + k) c e - (n + k)) by apply Array.ext'; simp]
    exact heap_alloc_new w.drew _
/-- no row that grows by a number of zero elements. -/
theorem appK_zeros0 {t tn ty e : TypeId} {size bytes : Nat} (hf : elemFactsB P t e size bytes = true) (htn : P.underlying tn = some (.int .i64)) {w : World}
    {k : Nat} {z : Int} (hz : z = (k : Int)) (h0 : 0 < k) (h63 : k ≤ maxLen) (hb : k * bytes ≤ 140737488355328)
    {K : VWK} {tk : Tok K} (h : ∀ cur c' w', c' * size ≤ cur.length → k ≤ c' → c' ≤ maxLen → Blk w' w.heap.size e cur → Grow w w' → K (.slice (some ⟨w.heap.size, 0, none⟩) k c') w') :
    appK P [t, tn] ty [.slice none 0 0, .int .i64 z] w K tk := by
  subst hz
  obtain ⟨z, ht, ⟨i, hi, hz, hs, hby⟩, hzs, hsz⟩ := elemFacts_of hf
  subst hs
  subst hby
  have hm : k ≤ 9223372036854775807 := by simp only [maxLen] at h63; omega
  have hb' : k * i.bytes ≤ 281474976710656 := Nat.le_trans hb (by omega)
  have hold : (Builtin.firstCells i.size 0 (.slice none 0 0)).run P w.drew = .ok ([] : List Value).toArray w.drew := by rfl
  have hrun := Lib.run_append_grow_zeros (P := P) w t tn ty e i z .i64 .i64 ht htn hi hz none 0 0 [] hold k h0 hsz (by omega) (by omega) hb' (growslice_fits (by omega) (by simpa using hb))
  rw [Nat.zero_add] at hrun
  refine ⟨_, _, hrun, h ((Builtin.zeroCells z.cells k).toList ++ (Builtin.zeroCells z.cells (grownCap w k 0 e - k)).toList) _ _ ?_ (by have := grownCap_ge w k 0 e; exact this) (grownCap_le_maxLen _ _ _ _ h63) ?_ ⟨rfl, rfl, rfl, by simp, fun k hk _ => RowKit.Below.heap_alloc w.drew _ k hk⟩⟩
  · have h1 := size_zeroCells z.cells k
    have h2 := size_zeroCells z.cells (grownCap w k 0 e - k)
    rw [hzs] at h1 h2
    have hge := grownCap_ge w k 0 e
    simp only [List.length_append, Array.length_toList]
    rw [h1, h2, ← Nat.add_mul]
    exact Nat.mul_le_mul_right _ (by omega)
  · unfold Blk
    rw [show ((Builtin.zeroCells z.cells k).toList ++ (Builtin.zeroCells z.cells (grownCap w k 0 e - k)).toList).toArray = ([] : List Value).toArray ++ Builtin.zeroCells z.cells k ++ Builtin.zeroCells z.cells (grownCap w k 0 e - k) by apply Array.ext'; simp]
    exact heap_alloc_new w.drew _
/-- copy onto a block known whole: the cells are read ahead of the writing. -/
theorem genK_copy {o : Oper} {d s : Operand} {t t' e : TypeId} {size bytes : Nat} (hop : o.op = .call { callee := .builtin .copy, args := #[d, s], argTypes := #[t, t'] }) (hf : elemFactsB P t e size bytes = true)
    {ρ : Operand → Value} {g off dl dc : Nat} (hd : ρ d = .slice (some ⟨g, off, none⟩) dl dc) {ad : Addr} {n c m : Nat} (hs : ρ s = .slice (some ad) n c) (hm : Nat.min n dl = m) {w : World} {cur : List Value} (hb : Blk w g e cur) {news : List Value}
    (hr : Rd w (some ad) m size news) (h1 : ∀ u ∈ news, u.oneCell' = true) (hfit : off + m * size ≤ cur.length) {K : VWK} {tk : Tok (ρ, K)}
    (h : ∀ w', Blk w' g e (cur.take off ++ news ++ cur.drop (off + m * size)) → Keep (fun k => k = g) w w' → K (.int .i64 m) w') : genK P o ρ w K tk := by
  obtain ⟨z, ht, ⟨i, hi, hz, hsi, hby⟩, hzs, hsz⟩ := elemFacts_of hf
  subst hsi
  have hcells : ∀ j u, news[j]? = some u → w.cell? (ad.add j) = some u := by
    intro j u hu
    rcases Nat.eq_zero_or_pos m with h0 | h0
    · subst h0
      have hn : news = [] := List.eq_nil_of_length_eq_zero (by simpa using hr.1)
      subst hn
      simp at hu
    · obtain ⟨ad', h, hc⟩ := hr.2 h0
      injection h with h
      subst h
      exact hc j u hu
  have hfc := run_firstCells_some (P := P) w i.size m ad n c news hr.1 hcells
  have hst := run_storeCells_at P g off e news 0 cur.toArray w hb (by rw [List.size_toArray, hr.1]; omega) h1
  rw [Nat.add_zero, hr.1] at hst
  have hrun : (Builtin.copy_ #[t, t'] o.type #[.slice (some ⟨g, off, none⟩) dl dc, .slice (some ad) n c]).run P w = .ok (goInt m) (w.setRow g (cur.take off ++ news ++ cur.drop (off + m * i.size)).toArray) := by
    simp [Builtin.copy_, run_underlying ht, Builtin.lenOf, sizeOf, typeInfo, hi, hm, hfc, hst]
  refine ⟨goInt m, _, .inl ?_, h _ (hb.setRow _) (Keep.setRow w g _)⟩
  unfold execOp
  simp only [hop, resolve, invoke, builtin, Sem.run_bind, Sem.run_pure, Result.andThen_ok, List.map_toArray, List.map_cons, List.map_nil, hd, hs, hrun]
theorem genK_clear {o : Oper} {d : Operand} {t e : TypeId} {size bytes : Nat} (hop : o.op = .call { callee := .builtin .clear, args := #[d], argTypes := #[t] }) (hf : elemFactsB P t e size bytes = true)
    (hz1 : ∀ z, elemFacts P t e size bytes z → ∀ u ∈ z.cells.toList, u.oneCell' = true)
    {ρ : Operand → Value} {g off dl dc : Nat} (hd : ρ d = .slice (some ⟨g, off, none⟩) dl dc) {w : World} {cur : List Value} (hb : Blk w g e cur) (hfit : off + dl * size ≤ cur.length) {K : VWK} {tk : Tok (ρ, K)}
    (h : ∀ zs w', zs.length = dl * size → Blk w' g e (cur.take off ++ zs ++ cur.drop (off + dl * size)) → Keep (fun k => k = g) w w' → K (.tuple #[]) w') : genK P o ρ w K tk := by
  obtain ⟨z, hF⟩ := elemFacts_of hf
  have hzc := hz1 z hF
  obtain ⟨ht, ⟨i, hi, hz, hsi, hby⟩, hzs, hsz⟩ := hF
  subst hsi
  have hl : (Builtin.zeroCells z.cells dl).toList.length = dl * i.size := by rw [Array.length_toList, size_zeroCells, hzs]
  have hone : ∀ u ∈ (Builtin.zeroCells z.cells dl).toList, u.oneCell' = true := by
    intro u hu
    rw [Array.mem_toList_iff] at hu
    simp only [Builtin.zeroCells, Array.mem_map, Array.mem_range] at hu
    obtain ⟨j, hj, rfl⟩ := hu
    have hlt : j % z.cells.size < z.cells.size := Nat.mod_lt _ (by omega)
    rw [getElem!_pos z.cells _ hlt]
    exact hzc _ (by simp)
  have hst := run_storeCells_at P g off e _ 0 cur.toArray w hb (by rw [List.size_toArray, hl]; omega) hone
  rw [Nat.add_zero, hl] at hst
  have hrun : (Builtin.clear_ #[t] o.type #[.slice (some ⟨g, off, none⟩) dl dc]).run P w = .ok (.tuple #[]) (w.setRow g (cur.take off ++ (Builtin.zeroCells z.cells dl).toList ++ cur.drop (off + dl * i.size)).toArray) := by
    cases dl with
    | zero =>
      have hz0 : (Builtin.zeroCells z.cells 0).toList = [] := List.eq_nil_of_length_eq_zero (by simpa using hl)
      simp only [hz0, List.append_nil, Nat.zero_mul, Nat.add_zero, List.take_append_drop]
      rw [setRow_self w g cur.toArray e (0, 0) hb]
      simp [Builtin.clear_, run_underlying ht]
    | succ dl => simp [Builtin.clear_, run_underlying ht, zeroValue, typeInfo, hi, hz, hst]
  refine ⟨.tuple #[], _, .inl ?_, h _ _ hl (hb.setRow _) (Keep.setRow w g _)⟩
  unfold execOp
  simp only [hop, resolve, invoke, builtin, Sem.run_bind, Sem.run_pure, Result.andThen_ok, List.map_toArray, List.map_cons, List.map_nil, hd, hrun]
theorem extK_overlaps {f : FuncId} {fn : Func} {tS tR e : TypeId} {size bytes : Nat} (hfn : P.funcs[f]? = some fn) (hname : (fn.name == "runtime.NumGoroutine") = false) (hb : fn.body.isNone = true) (hn : Extern.findNext fn = none)
    (he : Extern.find fn = some (Extern.SlicesOverlaps.overlaps #[tS, tS] #[tR])) (hf : elemFactsB P tS e size bytes = true)
    {w : World} {ga gb oa ob la ca lb cb : Nat} {ta tb : TypeId} {ra rb : List Value} (ha : Blk w ga ta ra) (hbk : Blk w gb tb rb) (hne : ga ≠ gb) (hrb : rb ≠ [])
    {K : VWK} {tk : Tok K} (hk : K (.bool false) w) : extK P f [.slice (some ⟨ga, oa, none⟩) la ca, .slice (some ⟨gb, ob, none⟩) lb cb] w K tk := by
  obtain ⟨z, ht, ⟨i, hi, hz, hsi, hby⟩, hzs, hsz⟩ := elemFacts_of hf
  subst hsi
  have hs : ∀ w, (Go.sizeOf e).run P w = .ok i.size w := fun w => by simp [Go.sizeOf, typeInfo, hi]
  have hsa : w.shape? ga = some (ta, ra.length) := by simp only [World.shape?, ha.eq]; simp
  have hsb : w.shape? gb = some (tb, rb.length) := by simp only [World.shape?, hbk.eq]; simp
  refine ⟨_, w, ?_, hk⟩
  rw [run_callFunc_extern hfn hname hb hn he, Lib.run_overlaps_apart w tS tR e ht i.size hs ⟨ga, oa, none⟩ ⟨gb, ob, none⟩ la ca lb cb hne ta tb _ _ hsa hsb (by intro h; exact hrb (List.eq_nil_of_length_eq_zero h)) (ha.frozen _) (ha.frozen _)]
  rfl
end

end Go.Proofs.YtcnebgokbjpjnaaGreat
