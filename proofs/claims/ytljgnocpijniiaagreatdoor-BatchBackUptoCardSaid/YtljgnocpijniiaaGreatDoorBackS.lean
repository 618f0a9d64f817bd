/- What a batch says comes back from its points: the plain law. -/
import Derived.Test.YtljgnocpijniiaaGreatDoorPtsS
import Derived.Test.YtljgnocpijniiaaGreatDoorPtRow
set_option linter.unusedVariables false
set_option linter.unusedSimpArgs false
namespace Go.Proofs.YtljgnocpijniiaaGreatDoor
open Go

theorem sub_len {α : Type} : ∀ (a b : List α), a.Nodup → (∀ x ∈ a, x ∈ b) → a.length ≤ b.length
  | [], b, _, _ => Nat.zero_le _
  | x :: r, b, hd, hs => by
    obtain ⟨s, t, rfl⟩ := List.append_of_mem (hs x List.mem_cons_self)
    have hx := (List.nodup_cons.1 hd)
    have := sub_len r (s ++ t) hx.2 (fun y hy => by
      have h1 := hs y (List.mem_cons_of_mem _ hy)
      rcases List.mem_append.1 h1 with h1 | h1
      · exact List.mem_append_left _ h1
      · rcases List.mem_cons.1 h1 with rfl | h1
        · exact absurd hy hx.1
        · exact List.mem_append_right _ h1)
    simp only [List.length_append, List.length_cons] at this ⊢
    omega
theorem srt_srt (l : List Tg) : srtT (srtT l) = srtT l := load_strict kT_cmp (StrictC.load kT_cmp List.Pairwise.nil)
theorem flatW_mem {l : List Pt} {x : Wr} : x ∈ flatW l ↔ ∃ p ∈ l, ∃ f ∈ p.fields, x = wrOf p f := by
  unfold flatW ptW
  rw [List.mem_flatMap]
  constructor
  · rintro ⟨p, hp, hx⟩
    obtain ⟨f, hf, rfl⟩ := List.mem_map.1 hx
    exact ⟨p, hp, f, hf, rfl⟩
  · rintro ⟨p, hp, f, hf, rfl⟩
    exact ⟨p, hp, List.mem_map_of_mem hf⟩
theorem wOrd_mem {l : List Wr} {x : Wr} (h : x ∈ wOrd l) : x ∈ l := by
  rcases gLoad_mem h with h | h
  · exact h
  · cases h
theorem wOrd_st (l : List Wr) : StrictC cmpW (wOrd l) := StrictC.load cmpW_cmp List.Pairwise.nil
theorem cmpW_zero {a b : Wr} : cmpW a b = 0 ↔ a.1 = b.1 ∧ a.2.1 = b.2.1 := by
  have h2 : cmpI a.2.1 b.2.1 = 0 ↔ a.2.1 = b.2.1 := by
    unfold cmpI
    repeat' split
    all_goals omega
  unfold cmpW
  constructor
  · intro hz
    by_cases hs : cmpSer a.1 b.1 = 0
    · rw [if_pos hs] at hz
      exact ⟨(cmpSer_eq _ _).1 hs, h2.1 hz⟩
    · rw [if_neg hs] at hz; exact absurd hz hs
  · rintro ⟨e1, e2⟩
    rw [if_pos ((cmpSer_eq _ _).2 e1)]
    exact h2.2 e2
/-- like ones of a row in order are the same one. -/
theorem strict_same {W : List Wr} (h : StrictC cmpW W) {x y : Wr} (hx : x ∈ W) (hy : y ∈ W) (hxy : cmpW x y = 0) : x = y := by
  have h1 := (StrictC.find cmpW_cmp h (x := x)).2 hx
  have h2 := (StrictC.find cmpW_cmp h (x := y)).2 hy
  have e : likeK cmpW x = likeK cmpW y := by
    funext z
    unfold likeK
    have := cmpW_cmp.eq_r hxy z
    rw [this]
  unfold gFind at h1 h2
  rw [e] at h1
  exact Option.some.inj (h1.symm.trans h2)
section
variable {l : List Pt}
/-- what a batch says. -/
abbrev sayW (l : List Pt) : List Wr := wOrd (flatW l)
theorem say_from {x : Wr} (h : x ∈ sayW l) : ∃ p ∈ l, ∃ f ∈ p.fields, x = wrOf p f := flatW_mem.1 (wOrd_mem h)
theorem say_k0 : (sayW l).filter k0 = sayW l := by
  rw [List.filter_eq_self]
  intro x hx
  obtain ⟨p, _, f, _, rfl⟩ := say_from hx
  rfl
theorem say_pts : ptsP (sayW l) = pAll (sayW l) := by rw [ptsP, wOrd_wOrd, say_k0]
theorem pt_fields {W : List Wr} {q : Pt} (h : q ∈ pAll W) : grpP (W.filter (likeK cmpB (ptK q))) = some q := by
  rw [← find_pAll]
  exact (StrictC.find cmpP_cmp (pAll_strict W)).2 h
theorem like_iff {q : Pt} {x : Wr} : likeK cmpB (ptK q) x = true ↔ x.1.m = q.m ∧ x.1.tags = q.tags ∧ x.2.1 = q.t := by
  unfold likeK
  rw [decide_eq_true_iff, cmpB_zero]
  exact Iff.rfl
theorem grp_some {W : List Wr} {q : Pt} (h : grpP W = some q) : W ≠ [] ∧ q.fields = W.map fldW := by
  cases W with
  | nil => cases h
  | cons x r => injection h with h; subst h; exact ⟨by simp, rfl⟩
theorem pt_like {q : Pt} (h : q ∈ pAll (sayW l)) : (∃ y ∈ sayW l, y.1.m = q.m ∧ y.1.tags = q.tags ∧ y.2.1 = q.t) ∧ ∀ f ∈ q.fields, ∃ y ∈ sayW l, f = fldW y ∧ y.1.m = q.m ∧ y.1.tags = q.tags ∧ y.2.1 = q.t := by
  obtain ⟨hne, hf⟩ := grp_some (pt_fields h)
  refine ⟨?_, fun f hfm => ?_⟩
  · obtain ⟨y, hy⟩ := List.exists_mem_of_ne_nil _ hne
    obtain ⟨hy1, hy2⟩ := List.mem_filter.1 hy
    exact ⟨y, hy1, like_iff.1 hy2⟩
  · rw [hf] at hfm
    obtain ⟨y, hy, rfl⟩ := List.mem_map.1 hfm
    obtain ⟨hy1, hy2⟩ := List.mem_filter.1 hy
    exact ⟨y, hy1, rfl, like_iff.1 hy2⟩
/-- a point that comes back: of which point it tells. -/
theorem pt_from {q : Pt} (h : q ∈ pAll (sayW l)) : ∃ p ∈ l, q.m = p.m ∧ q.tags = srtT p.tags ∧ q.t = p.t := by
  obtain ⟨⟨y, hy, e1, e2, e3⟩, _⟩ := pt_like h
  obtain ⟨p, hp, f, _, rfl⟩ := say_from hy
  exact ⟨p, hp, e1.symm, e2.symm, e3.symm⟩
theorem fd_from {q : Pt} (h : q ∈ pAll (sayW l)) {f : Fd} (hf : f ∈ q.fields) : ∃ p ∈ l, f ∈ p.fields := by
  obtain ⟨y, hy, rfl, _⟩ := (pt_like h).2 f hf
  obtain ⟨p, hp, g, hg, rfl⟩ := say_from hy
  exact ⟨p, hp, hg⟩
theorem pts_few : (pAll (sayW l)).length ≤ l.length := by
  have hk : ((pAll (sayW l)).map (fun q => (q.m, q.tags, q.t))).Nodup := by
    refine List.pairwise_map.2 ((pAll_strict (sayW l)).imp (fun {a b} hab he => ?_))
    simp only [Prod.mk.injEq] at he
    have : cmpP a b = 0 := cmpB_zero.2 ⟨he.1, he.2.1, he.2.2⟩
    omega
  have := sub_len _ (l.map (fun p => (p.m, srtT p.tags, p.t))) hk (fun x hx => by
    obtain ⟨q, hq, rfl⟩ := List.mem_map.1 hx
    obtain ⟨p, hp, e1, e2, e3⟩ := pt_from hq
    rw [e1, e2, e3]
    exact List.mem_map_of_mem (f := fun p => (p.m, srtT p.tags, p.t)) hp)
  rwa [List.length_map, List.length_map] at this
theorem say_srt {y : Wr} (h : y ∈ sayW l) : srtT y.1.tags = y.1.tags := by
  obtain ⟨p, _, f, _, rfl⟩ := say_from h
  exact srt_srt _
theorem back_mem {x : Wr} : x ∈ flatW (pAll (sayW l)) ↔ x ∈ sayW l := by
  rw [flatW_mem]
  have hk : ∀ y ∈ sayW l, y.2.2.1 = 0 := fun y hy => by
    obtain ⟨p, _, f, _, rfl⟩ := say_from hy
    rfl
  constructor
  · rintro ⟨q, hq, f, hf, rfl⟩
    obtain ⟨y, hy, rfl, e1, e2, e3⟩ := (pt_like hq).2 f hf
    have hs := say_srt hy
    have h0 := hk y hy
    obtain ⟨⟨m, t, f⟩, tm, kd, nn⟩ := y
    simp only at e1 e2 e3 hs h0
    subst e1; subst e3; subst h0
    unfold wrOf fldW
    rw [← e2, hs]
    exact hy
  · intro hx
    have hs := say_srt hx
    have h0 := hk x hx
    have hm : x ∈ (sayW l).filter (likeK cmpB (ptK (mkP x))) := List.mem_filter.2 ⟨hx, like_iff.2 ⟨rfl, rfl, rfl⟩⟩
    cases hf : gFind cmpP (mkP x) (pAll (sayW l)) with
    | none =>
      rw [find_pAll] at hf
      cases hl : (sayW l).filter (likeK cmpB (ptK (mkP x))) with
      | nil => rw [hl] at hm; cases hm
      | cons a r => rw [hl] at hf; cases hf
    | some q =>
      have hq : q ∈ pAll (sayW l) := List.mem_of_find?_eq_some hf
      have hl : likeK cmpP (mkP x) q = true := List.find?_some hf
      have hl := cmpB_zero.1 (of_decide_eq_true hl)
      rw [find_pAll] at hf
      have hfl := (grp_some hf).2
      refine ⟨q, hq, fldW x, by rw [hfl]; exact List.mem_map_of_mem hm, ?_⟩
      have e1 : q.m = x.1.m := hl.1
      have e2 : q.tags = x.1.tags := hl.2.1
      have e3 : q.t = x.2.1 := hl.2.2
      unfold wrOf fldW
      rw [e1, e2, e3, hs]
      obtain ⟨⟨m, t, f⟩, tm, kd, nn⟩ := x
      simp only at h0
      rw [h0]
theorem back_say : wOrd (flatW (pAll (sayW l))) = sayW l := by
  refine find_ext cmpW_cmp (wOrd_st _) (wOrd_st _) (fun k => ?_)
  have hl : gFind cmpW k (wOrd (flatW (pAll (sayW l)))) = ((flatW (pAll (sayW l))).filter (likeK cmpW k)).getLast? := by
    have := find_gLoad cmpW_cmp (flatW (pAll (sayW l))) [] k
    rw [wOrd, this]
    simp [gFind]
  rw [hl]
  cases hg : ((flatW (pAll (sayW l))).filter (likeK cmpW k)).getLast? with
  | none =>
    have hn := List.getLast?_eq_none_iff.1 hg
    symm
    unfold gFind
    rw [List.find?_eq_none]
    intro x hx hlk
    have : x ∈ (flatW (pAll (sayW l))).filter (likeK cmpW k) := List.mem_filter.2 ⟨back_mem.2 hx, hlk⟩
    rw [hn] at this
    cases this
  | some z =>
    have hz : z ∈ (flatW (pAll (sayW l))).filter (likeK cmpW k) := List.mem_of_getLast? hg
    obtain ⟨hz1, hz2⟩ := List.mem_filter.1 hz
    have hzW := back_mem.1 hz1
    cases hf : gFind cmpW k (sayW l) with
    | none =>
      unfold gFind at hf
      rw [List.find?_eq_none] at hf
      exact absurd hz2 (hf z hzW)
    | some y =>
      have hy : y ∈ sayW l := List.mem_of_find?_eq_some hf
      have hyl : likeK cmpW k y = true := List.find?_some hf
      have h1 : cmpW z k = 0 := of_decide_eq_true hz2
      have h2 : cmpW y k = 0 := of_decide_eq_true hyl
      have h3 : cmpW z y = 0 := by
        obtain ⟨a1, a2⟩ := cmpW_zero.1 h1
        obtain ⟨b1, b2⟩ := cmpW_zero.1 h2
        exact cmpW_zero.2 ⟨a1.trans b1.symm, a2.trans b2.symm⟩
      rw [strict_same (wOrd_st _) hzW hy h3]
/-- points that come back are right, where none has too many fields. -/
theorem back_right (hl : checkE l = none) {q : Pt} (hq : q ∈ pAll (sayW l)) (h16 : q.fields.length ≤ 16) : rightE q = none := by
  obtain ⟨_, hall⟩ := check_few hl
  obtain ⟨p, hp, e1, e2, e3⟩ := pt_from hq
  have hr := hall p hp
  have hnames : ∀ f ∈ q.fields, okFd f = true := fun f hf => by
    obtain ⟨p', hp', hf'⟩ := fd_from hq hf
    have hr' := hall p' hp'
    unfold rightE at hr'
    split at hr'
    · cases hr'
    split at hr'
    · cases hr'
    split at hr'
    · cases hr'
    rename_i hfb
    have hfb : fieldsB p'.fields = true := by simpa using hfb
    unfold fieldsB at hfb
    simp only [Bool.and_eq_true, List.all_eq_true] at hfb
    exact hfb.1 f hf'
  have hne : 1 ≤ q.fields.length := by
    obtain ⟨h1, h2⟩ := grp_some (pt_fields hq)
    rw [h2, List.length_map]
    exact List.length_pos_iff.2 h1
  have hnd : (q.fields.map Prod.fst).Nodup := by
    rw [(grp_some (pt_fields hq)).2, List.map_map]
    refine List.pairwise_map.2 ?_
    refine List.Pairwise.imp_of_mem (R := fun a b => cmpW a b < 0) (fun {a b} ha hb hab he => ?_) (List.Pairwise.filter _ (wOrd_st (flatW l)))
    have la := like_iff.1 (List.mem_filter.1 ha).2
    have lb := like_iff.1 (List.mem_filter.1 hb).2
    have he : a.1.f = b.1.f := he
    have : cmpW a b = 0 := cmpW_zero.2 ⟨by
      obtain ⟨⟨m, t, f⟩, r⟩ := a
      obtain ⟨⟨m', t', f'⟩, r'⟩ := b
      simp only at la lb he ⊢
      rw [la.1, la.2.1, lb.1, lb.2.1, he], la.2.2.trans lb.2.2.symm⟩
    omega
  unfold rightE at hr ⊢
  split at hr
  · cases hr
  rename_i hm
  split at hr
  · cases hr
  rename_i ht
  split at hr
  · cases hr
  split at hr
  · cases hr
  rename_i hf htm
  have ht : tagsB p.tags = true := by simpa using ht
  have htq : tagsB q.tags = true := by
    rw [e2, ← tags_eq, srt_srt]
    rw [← tags_eq] at ht
    simp only [Bool.and_eq_true] at ht ⊢
    exact ⟨ht.1, by simp⟩
  have hfq : fieldsB q.fields = true := by
    unfold fieldsB
    simp only [Bool.and_eq_true, List.all_eq_true, decide_eq_true_eq, Bool.not_eq_true']
    refine ⟨hnames, ⟨hne, h16⟩, ?_⟩
    unfold twiceB
    simpa using hnd
  rw [if_neg (by rw [e1]; exact hm), if_neg (by rw [htq]; simp), if_neg (by rw [hfq]; simp), if_neg (by rw [e3]; exact htm)]
theorem back_check (hl : checkE l = none) (h16 : ∀ q ∈ pAll (sayW l), q.fields.length ≤ 16) : checkE (pAll (sayW l)) = none := by
  obtain ⟨hfew, _⟩ := check_few hl
  have := pts_few (l := l)
  unfold checkE
  rw [if_neg (by omega)]
  exact firstE_none (fun q hq => back_right hl hq (h16 q hq))
end

end Go.Proofs.YtljgnocpijniiaaGreatDoor
