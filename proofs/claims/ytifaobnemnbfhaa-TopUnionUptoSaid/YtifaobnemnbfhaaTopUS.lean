/- TopUnion in plain terms: of a series, what writes in order hold is what a series holds that they were loaded into. -/
import Derived.Test.YtifaobnemnbfhaaLdSpec
import Derived.Test.YtifaobnemnbfhaaRsers
import Derived.Test.YtifaobnemnbfhaaMrgW
set_option linter.unusedVariables false
set_option linter.unusedSimpArgs false
set_option maxRecDepth 100000
namespace Go.Proofs.Ytifaobnemnbfhaa
open Go

/-- the samples of a series among writes. -/
def mine (ask : Ser) (W : List Wr) : List Smp := (W.filter (fun w => decide (cmpSer w.1 ask = 0))).map (·.2)
theorem mine_app (ask : Ser) (a b : List Wr) : mine ask (a ++ b) = mine ask a ++ mine ask b := by simp [mine]
theorem mine_cons (ask : Ser) (x : Wr) (W : List Wr) : mine ask (x :: W) = if cmpSer x.1 ask = 0 then x.2 :: mine ask W else mine ask W := by
  unfold mine
  rw [List.filter_cons]
  by_cases h : cmpSer x.1 ask = 0 <;> simp [h]
theorem mine_mem {ask : Ser} {W : List Wr} {s : Smp} : s ∈ mine ask W ↔ (ask, s) ∈ W := by
  unfold mine
  constructor
  · intro h
    obtain ⟨w, hw, rfl⟩ := List.mem_map.1 h
    obtain ⟨h1, h2⟩ := List.mem_filter.1 hw
    have : w.1 = ask := (cmpSer_eq _ _).1 (of_decide_eq_true h2)
    rw [← this]
    exact h1
  · intro h
    exact List.mem_map.2 ⟨(ask, s), List.mem_filter.2 ⟨h, decide_eq_true ((cmpSer_eq _ _).2 rfl)⟩, rfl⟩
theorem cmpW_same (ask : Ser) (s t : Smp) : cmpW (ask, s) (ask, t) = cmpI s.1 t.1 := by
  unfold cmpW
  rw [if_pos ((cmpSer_eq _ _).2 rfl)]
theorem mine_rise {ask : Ser} {W : List Wr} (h : StrictC cmpW W) : Rise (mine ask W) := by
  unfold mine Rise
  rw [List.pairwise_map]
  refine List.Pairwise.imp_of_mem ?_ (List.Pairwise.filter _ h)
  intro a b ha hb hab
  obtain ⟨_, h1⟩ := List.mem_filter.1 ha
  obtain ⟨_, h2⟩ := List.mem_filter.1 hb
  have e1 : a.1 = ask := (cmpSer_eq _ _).1 (of_decide_eq_true h1)
  have e2 : b.1 = ask := (cmpSer_eq _ _).1 (of_decide_eq_true h2)
  have : cmpW a b = cmpI a.2.1 b.2.1 := by
    obtain ⟨a1, a2⟩ := a
    obtain ⟨b1, b2⟩ := b
    simp only at e1 e2
    subst e1 e2
    exact cmpW_same _ _ _
  rw [this] at hab
  exact cmpI_lt.1 hab
theorem gPut_mem_iff {α : Type} {cf : α → α → Int} (hc : Cmp cf) {L : List α} (h : StrictC cf L) (x z : α) : z ∈ gPut cf L x ↔ z = x ∨ (z ∈ L ∧ cf z x ≠ 0) := by
  rw [← (h.put hc x).find hc, find_gPut hc, ← h.find hc]
  by_cases hz : cf x z = 0
  · rw [if_pos hz]
    constructor
    · intro e; injection e with e; exact .inl e.symm
    · rintro (rfl | ⟨_, hn⟩)
      · rfl
      · have := hc.neg x z; omega
  · rw [if_neg hz]
    constructor
    · intro e; exact .inr ⟨e, by have := hc.neg x z; omega⟩
    · rintro (rfl | ⟨he, _⟩)
      · exact absurd (hc.self _) hz
      · exact he
theorem mine_put {ask : Ser} {L : List Wr} (h : StrictC cmpW L) (x : Wr) : mine ask (gPut cmpW L x) = if cmpSer x.1 ask = 0 then sPut (mine ask L) x.2.1 x.2.2 else mine ask L := by
  have hr := mine_rise (ask := ask) h
  have hr2 := mine_rise (ask := ask) (h.put cmpW_cmp x)
  obtain ⟨xs, t, v⟩ := x
  by_cases hx : cmpSer xs ask = 0
  · have := (cmpSer_eq _ _).1 hx
    subst this
    rw [if_pos hx]
    refine Rise.ext hr2 (hr.put t v) (fun s => ?_)
    rw [mine_mem, gPut_mem_iff cmpW_cmp h, mem_put, mine_mem, cmpW_same]
    simp only [Prod.mk.injEq, true_and]
    rw [ne_eq, cmpI_eq]
  · rw [if_neg hx]
    refine Rise.ext hr2 hr (fun s => ?_)
    rw [mine_mem, gPut_mem_iff cmpW_cmp h, mine_mem]
    constructor
    · rintro (e | e)
      · injection e with e1 _
        exact absurd ((cmpSer_eq _ _).2 e1.symm) hx
      · exact e.1
    · intro e
      refine .inr ⟨e, fun hz => ?_⟩
      unfold cmpW at hz
      simp only at hz
      have hne : cmpSer ask xs ≠ 0 := fun hq => hx (by rw [(cmpSer_eq _ _).1 hq]; exact (cmpSer_eq _ _).2 rfl)
      rw [if_neg hne] at hz
      exact hne hz
theorem mine_load (ask : Ser) : ∀ (W L : List Wr), StrictC cmpW L → mine ask (gLoad cmpW L W) = sLoad (mine ask L) (mine ask W)
  | [], L, _ => rfl
  | x :: W, L, h => by
    have ih := mine_load ask W (gPut cmpW L x) (h.put cmpW_cmp x)
    show mine ask (gLoad cmpW (gPut cmpW L x) W) = _
    rw [ih, mine_put h, mine_cons]
    by_cases hx : cmpSer x.1 ask = 0
    · rw [if_pos hx, if_pos hx]; rfl
    · rw [if_neg hx, if_neg hx]
/-- what writes in order hold of a series is what a series holds. -/
theorem mine_ord (ask : Ser) (W : List Wr) : mine ask (wOrd W) = sLoad [] (mine ask W) := mine_load ask W [] List.Pairwise.nil
theorem sLoad_app : ∀ (a b l : List Smp), sLoad l (a ++ b) = sLoad (sLoad l a) b
  | [], b, l => rfl
  | x :: a, b, l => sLoad_app a b (sPut l x.1 x.2)
theorem wOrd_again (a b : List Wr) : wOrd (wOrd a ++ b) = wOrd (a ++ b) := by
  unfold wOrd
  rw [← merge_load cmpW_cmp, ← merge_load cmpW_cmp a b, load_strict cmpW_cmp (StrictC.load cmpW_cmp List.Pairwise.nil)]
/-- all but the latest time, and that. -/
theorem range_last {S : List Smp} (hr : Rise S) (hb : ∀ s ∈ S, -9223372036854775808 ≤ s.1 ∧ s.1 < 9223372036854775808) :
    (if (nthV S ((S.length : Int) - 1)).2 = true ∧ (nthV S ((S.length : Int) - 1)).1.1 = 9223372036854775807 then sRange S (-9223372036854775808) 9223372036854775807 ++ [(nthV S ((S.length : Int) - 1)).1] else sRange S (-9223372036854775808) 9223372036854775807) = S := by
  rcases List.eq_nil_or_concat S with rfl | ⟨S', x, rfl⟩
  · simp [nthV, sRange]
  · simp only [List.concat_eq_append] at hr hb ⊢
    have hn : nthV (S' ++ [x]) (((S' ++ [x]).length : Int) - 1) = (x, true) := by
      have : (((S' ++ [x]).length : Int) - 1) = (S'.length : Int) := by simp
      rw [this, nthV, if_pos (by simp; omega)]
      simp [List.getD_eq_getElem?_getD]
    rw [hn]
    obtain ⟨h1, _, h3⟩ := List.pairwise_append.1 hr
    have hx := hb x (by simp)
    have hS' : S'.filter (inR (-9223372036854775808) 9223372036854775807) = S' := by
      rw [List.filter_eq_self]
      intro s hs
      have h4 := h3 s hs x (by simp)
      have h5 := hb s (by simp [hs])
      simp [inR]; omega
    unfold sRange
    rw [List.filter_append, hS']
    simp only [true_and]
    by_cases hm : x.1 = 9223372036854775807
    · rw [if_pos hm]
      have : [x].filter (inR (-9223372036854775808) 9223372036854775807) = [] := by
        simp [inR, hm]
      rw [this, List.append_nil]
    · rw [if_neg hm]
      have : [x].filter (inR (-9223372036854775808) 9223372036854775807) = [x] := by
        simp [inR]; omega
      rw [this]

end Go.Proofs.Ytifaobnemnbfhaa
