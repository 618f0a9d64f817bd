/- A region that draws its order, in which again and again two operations that do something may come in either order: a plan that is a tree. -/
import Derived.Test.YtljgnocpijniiaaGreatDoorDraws
set_option linter.unusedVariables false
namespace Go.Proofs.YtljgnocpijniiaaGreatDoor
open Go

inductive PlanT where
  | leaf (l : List (Nat × Bool))
  | fork (l : List (Nat × Bool)) (i j : Nat) (pa pb : PlanT)
def PlanT.len : PlanT → Nat
  | .leaf l => l.length
  | .fork l i j pa pb => l.length + (pa.len + 1)
def segOk (ops : Array Oper) (f : Array Bool → Bool) : List (Nat × Bool) → Array Bool → Bool
  | [], listed => f listed
  | (k, true) :: r, listed => (Region.ready .any ops listed).contains k && Region.free .any ops listed k && segOk ops f r (listed.setIfInBounds k true)
  | (k, false) :: r, listed => (Region.ready .any ops listed == [k]) && segOk ops f r (listed.setIfInBounds k true)
def PlanT.ok (ops : Array Oper) : PlanT → Array Bool → Bool
  | .leaf l, listed => planOk ops l listed
  | .fork l i j pa pb, listed => segOk ops (fun x => (Region.ready .any ops x == [i, j]) && pa.ok ops (x.setIfInBounds i true) && pb.ok ops (x.setIfInBounds j true)) l listed && (pa.len == pb.len)
def PlanT.inB (n : Nat) : PlanT → Bool
  | .leaf l => l.all fun x => decide (x.1 < n)
  | .fork l i j pa pb => (l.all fun x => decide (x.1 < n)) && decide (i < n) && decide (j < n) && pa.inB n && pb.inB n
section
variable {P : Program} {ops : Array Oper} {S : World → Prop} {Q : Env → World → Prop} {n : Nat}
def wpTP (P : Program) (ops : Array Oper) (S : World → Prop) (Q : Env → World → Prop) : PlanT → Env → World → Prop
  | .leaf l => wpPlan P ops S Q l
  | .fork l i j pa pb => wpPlan P ops S (fun e w => wpPlan P ops S (wpTP P ops S Q pa) [(i, false)] e w ∧ wpPlan P ops S (wpTP P ops S Q pb) [(j, false)] e w) l
def wpTL (P : Program) (ops : Array Oper) (S : World → Prop) (Q : Env → World → Prop) : PlanT → Env → World → Prop
  | .leaf l => wpL P ops S Q (planL ops l)
  | .fork l i j pa pb => wpL P ops S (fun e w => both (wpL P ops S (wpTL P ops S Q pa) (planL ops [(i, false)]) e w) (wpL P ops S (wpTL P ops S Q pb) (planL ops [(j, false)]) e w) .mk .mk) (planL ops l)
theorem wpTL_leaf {l : List (Nat × Bool)} {e : Env} {w : World} (h : wpL P ops S Q (planL ops l) e w) : wpTL P ops S Q (.leaf l) e w := h
theorem wpTL_fork {l : List (Nat × Bool)} {i j : Nat} {pa pb : PlanT} {e : Env} {w : World}
    (h : wpL P ops S (fun e w => both (wpL P ops S (wpTL P ops S Q pa) (planL ops [(i, false)]) e w) (wpL P ops S (wpTL P ops S Q pb) (planL ops [(j, false)]) e w) .mk .mk) (planL ops l) e w) : wpTL P ops S Q (.fork l i j pa pb) e w := h
theorem wpTL_sound : ∀ (t : PlanT) (e : Env) (w : World), t.inB ops.size = true → wpTL P ops S Q t e w → wpTP P ops S Q t e w
  | .leaf l, e, w, hb, h => wpL_plan l e w hb h
  | .fork l i j pa pb, e, w, hb, h => by
    simp only [PlanT.inB, Bool.and_eq_true] at hb
    obtain ⟨⟨⟨⟨hl, hi⟩, hj⟩, ha⟩, hbb⟩ := hb
    refine wpPlan_mono2 (fun e w hq => ?_) l e w (wpL_plan l e w hl h)
    obtain ⟨h1, h2⟩ := hq
    refine ⟨wpPlan_mono2 (fun e w h => wpTL_sound pa e w ha h) _ _ _ (wpL_plan _ _ _ ?_ h1), wpPlan_mono2 (fun e w h => wpTL_sound pb e w hbb h) _ _ _ (wpL_plan _ _ _ ?_ h2)⟩
    · simp only [List.all_cons, List.all_nil, Bool.and_true]; exact hi
    · simp only [List.all_cons, List.all_nil, Bool.and_true]; exact hj
theorem seg_sound {Q' : Env → World → Prop} {f : Array Bool → Bool} {d : Nat} (hs : Region.noSelect ops = true) (hf : dstsFit n ops = true)
    (hend : ∀ (listed : Array Bool) (a : Act) (w : World), f listed = true → a.defers = [] → a.tmps.size = n → S w → Q' (envOf a) w → wpAnyH P .any ops (liftQ n (onlyN Q)) S d listed a w) :
    ∀ (plan : List (Nat × Bool)) (listed : Array Bool) (a : Act) (w : World), segOk ops f plan listed = true → a.defers = [] → a.tmps.size = n → S w → wpPlan P ops S Q' plan (envOf a) w → wpAnyH P .any ops (liftQ n (onlyN Q)) S (plan.length + d) listed a w
  | [], listed, a, w, hp, hd, hz, hS, h => by
    rw [List.length_nil, Nat.zero_add]
    exact hend listed a w hp hd hz hS h
  | (i', true) :: r, listed, a, w, hp, hd, hz, hS, h => by
    simp only [segOk, Bool.and_eq_true] at hp
    unfold wpPlan at h
    cases ho : ops[i']? with
    | none => simp [ho] at h
    | some o =>
      have hdst := dstsFit_mem hf (o := o) (by have := Array.mem_of_getElem? ho; simpa using this)
      simp only [ho] at h
      have fin : ∀ v, YieldsIf P ops S o v a → wpPlan P ops S Q' r (put (envOf a) o.dst v) w → wpAnyH P .any ops (liftQ n (onlyN Q)) S ((r.length + d) + 1) listed a w := fun v hy hk =>
        wpAnyH_take ho hs hp.1.2 hp.1.1 (fun c a w hq => hq.elim) hy hS
          (seg_sound hs hf hend r _ _ w hp.2 (by rw [put_defers']; exact hd) (by rw [put_size]; exact hz) hS (by rw [envOf_put (by rw [hz]; exact hdst)]; exact hk))
      rw [List.length_cons, show r.length + 1 + d = (r.length + d) + 1 by omega]
      split at h
      · rename_i hg
        rw [← eval_envOf] at h
        obtain ⟨v, hv, hk⟩ := run_yO h
        exact fin v (.inl ⟨by simp [Region.wanted, hg], hv⟩) hk
      · rename_i q want hg
        by_cases hy : yieldE ops (envOf a) q = some want
        · have h := h.1 hy
          rw [← eval_envOf] at h
          obtain ⟨v, hv, hk⟩ := run_yO h
          exact fin v (.inl ⟨by simp [Region.wanted, hg, yielded_env, hy], hv⟩) hk
        · exact fin undef (.inr ⟨by simp [Region.wanted, hg, yielded_env, hy], rfl⟩) (h.2 hy)
  | (i', false) :: r, listed, a, w, hp, hd, hz, hS, h => by
    simp only [segOk, Bool.and_eq_true] at hp
    unfold wpPlan at h
    cases ho : ops[i']? with
    | none => simp [ho] at h
    | some o =>
      have hdst := dstsFit_mem hf (o := o) (by have := Array.mem_of_getElem? ho; simpa using this)
      simp only [ho] at h
      rw [List.length_cons, show r.length + 1 + d = (r.length + d) + 1 by omega]
      refine wpAnyH_all (rs := [i']) (by simpa using hp.1) (by simp) (fun k hk => ?_)
      obtain rfl : k = i' := by simpa using hk
      unfold wpOp
      simp only [ho]
      have step : ∀ v w', S w' ∧ wpPlan P ops S Q' r (put (envOf a) o.dst v) w' → S w' ∧ wpAnyH P .any ops (liftQ n (onlyN Q)) S (r.length + d) (listed.setIfInBounds k true) (a.put o.dst v) w' := fun v w' h' =>
        ⟨h'.1, seg_sound hs hf hend r _ _ w' hp.2 (by rw [put_defers']; exact hd) (by rw [put_size]; exact hz) h'.1 (by rw [envOf_put (by rw [hz]; exact hdst)]; exact h'.2)⟩
      split at h
      · rename_i hg
        rw [if_pos (by simp [Region.wanted, hg])]
        exact .inl (wpO_sound step (by rw [eval_envOf]; exact h))
      · rename_i q want hg
        by_cases hy : yieldE ops (envOf a) q = some want
        · rw [if_pos (by simp [Region.wanted, hg, yielded_env, hy])]
          exact .inl (wpO_sound step (by rw [eval_envOf]; exact h.1 hy))
        · rw [if_neg (by simp [Region.wanted, hg, yielded_env, hy])]
          exact step _ _ ⟨hS, h.2 hy⟩
theorem one_sound {Q' : Env → World → Prop} {d k : Nat} {listed : Array Bool} {a : Act} {w : World} (hf : dstsFit n ops = true) (hd : a.defers = []) (hz : a.tmps.size = n) (hS : S w)
    (hk : ∀ (a' : Act) (w' : World), a'.defers = [] → a'.tmps.size = n → S w' → Q' (envOf a') w' → wpAnyH P .any ops (liftQ n (onlyN Q)) S d listed a' w') (h : wpPlan P ops S Q' [(k, false)] (envOf a) w) :
    wpOp P ops (liftQ n (onlyN Q)) k (fun a' w' => S w' ∧ wpAnyH P .any ops (liftQ n (onlyN Q)) S d listed a' w') a w := by
  unfold wpPlan at h
  cases ho : ops[k]? with
  | none => simp [ho] at h
  | some o =>
    have hdst := dstsFit_mem hf (o := o) (by have := Array.mem_of_getElem? ho; simpa using this)
    simp only [ho] at h
    unfold wpOp
    simp only [ho]
    have step : ∀ v w', S w' ∧ wpPlan P ops S Q' [] (put (envOf a) o.dst v) w' → S w' ∧ wpAnyH P .any ops (liftQ n (onlyN Q)) S d listed (a.put o.dst v) w' := fun v w' h' =>
      ⟨h'.1, hk _ w' (by rw [put_defers']; exact hd) (by rw [put_size]; exact hz) h'.1 (by rw [envOf_put (by rw [hz]; exact hdst)]; exact h'.2)⟩
    split at h
    · rename_i hg
      rw [if_pos (by simp [Region.wanted, hg])]
      exact .inl (wpO_sound step (by rw [eval_envOf]; exact h))
    · rename_i q want hg
      by_cases hy : yieldE ops (envOf a) q = some want
      · rw [if_pos (by simp [Region.wanted, hg, yielded_env, hy])]
        exact .inl (wpO_sound step (by rw [eval_envOf]; exact h.1 hy))
      · rw [if_neg (by simp [Region.wanted, hg, yielded_env, hy])]
        exact step _ _ ⟨hS, h.2 hy⟩
theorem tree_sound (hs : Region.noSelect ops = true) (hf : dstsFit n ops = true) : ∀ (t : PlanT) (listed : Array Bool) (a : Act) (w : World), t.ok ops listed = true → a.defers = [] → a.tmps.size = n → S w →
    wpTP P ops S Q t (envOf a) w → wpAnyH P .any ops (liftQ n (onlyN Q)) S t.len listed a w
  | .leaf l, listed, a, w, hp, hd, hz, hS, h => wpPlan_sound hs hf l listed a w hp hd hz hS h
  | .fork l i j pa pb, listed, a, w, hp, hd, hz, hS, h => by
    simp only [PlanT.ok, Bool.and_eq_true, beq_iff_eq] at hp
    obtain ⟨hseg, hlen⟩ := hp
    refine seg_sound (d := pa.len + 1) hs hf (fun listed a w hq hd hz hS h => ?_) l listed a w hseg hd hz hS h
    simp only [Bool.and_eq_true] at hq
    obtain ⟨⟨hr, hpa⟩, hpb⟩ := hq
    refine wpAnyH_all (rs := [i, j]) (by simpa using hr) (by simp) (fun k hk => ?_)
    simp only [List.mem_cons, List.not_mem_nil, or_false] at hk
    rcases hk with rfl | rfl
    · exact one_sound hf hd hz hS (fun a' w' hd hz hS h => tree_sound hs hf pa _ a' w' hpa hd hz hS h) h.1
    · rw [hlen]
      exact one_sound hf hd hz hS (fun a' w' hd hz hS h => tree_sound hs hf pb _ a' w' hpb hd hz hS h) h.2
/-- by a tree of plans. -/
theorem wpDraw_tree {e : Env} {w : World} (S : World → Prop) (t : PlanT) (hok : (Region.noSelect ops && t.ok ops (Array.replicate ops.size false) && (t.len == ops.size) && t.inB ops.size) = true) (hS : S w.drew)
    (h : wpTL P ops S Q t e w.drew) {tk : Tok (Q, e, w)} : wpDraw P ops Q e w tk := by
  simp only [Bool.and_eq_true, beq_iff_eq] at hok
  obtain ⟨⟨⟨h1, h2⟩, h3⟩, h4⟩ := hok
  intro a hd he hf
  subst he
  have := wpAny_of_held _ _ _ _ (tree_sound (n := a.tmps.size) h1 hf t _ a w.drew h2 hd rfl hS (wpTL_sound t _ _ h4 h))
  rw [h3] at this
  exact this
/-! ### .. and one store behind all the rest, behind which nothing need hold -/
def segOkF (ops : Array Oper) (fin : Nat) (f : Array Bool → Bool) : List (Nat × Bool) → Array Bool → Bool
  | [], listed => f listed
  | (i, true) :: r, listed => (i != fin) && (Region.ready .any ops listed).contains i && Region.free .any ops listed i && segOkF ops fin f r (listed.setIfInBounds i true)
  | (i, false) :: r, listed => (i != fin) && (Region.ready .any ops listed == [i]) && segOkF ops fin f r (listed.setIfInBounds i true)
def PlanT.okF (ops : Array Oper) (fin : Nat) : PlanT → Array Bool → Bool
  | .leaf l, listed => planOkF ops fin l listed
  | .fork l i j pa pb, listed => segOkF ops fin (fun x => (Region.ready .any ops x == [i, j]) && (i != fin) && (j != fin) && pa.okF ops fin (x.setIfInBounds i true) && pb.okF ops fin (x.setIfInBounds j true)) l listed && (pa.len == pb.len)
theorem segF_sound {Q' : Env → World → Prop} {f : Array Bool → Bool} {d fin : Nat} (hs : Region.noSelect ops = true) (hf : dstsFit n ops = true) (hfin : finOk .any ops fin = true)
    (hend : ∀ (listed : Array Bool) (a : Act) (w : World), f listed = true → Shut .any ops listed → a.defers = [] → a.tmps.size = n → S w → Q' (envOf a) w → wpAnyL P .any ops (liftQ n (onlyN Q)) S fin d listed a w) :
    ∀ (plan : List (Nat × Bool)) (listed : Array Bool) (a : Act) (w : World), segOkF ops fin f plan listed = true → Shut .any ops listed → a.defers = [] → a.tmps.size = n → S w → wpPlan P ops S Q' plan (envOf a) w → wpAnyL P .any ops (liftQ n (onlyN Q)) S fin (plan.length + d) listed a w
  | [], listed, a, w, hp, hc, hd, hz, hS, h => by
    rw [List.length_nil, Nat.zero_add]
    exact hend listed a w hp hc hd hz hS h
  | (i, true) :: r, listed, a, w, hp, hc, hd, hz, hS, h => by
    simp only [segOkF, Bool.and_eq_true, bne_iff_ne, ne_eq] at hp
    unfold wpPlan at h
    cases ho : ops[i]? with
    | none => simp [ho] at h
    | some o =>
      have hdst := dstsFit_mem hf (o := o) (by have := Array.mem_of_getElem? ho; simpa using this)
      simp only [ho] at h
      have fin' : ∀ v, YieldsIf P ops S o v a → wpPlan P ops S Q' r (put (envOf a) o.dst v) w → wpAnyL P .any ops (liftQ n (onlyN Q)) S fin ((r.length + d) + 1) listed a w := fun v hy hk =>
        wpAnyL_first hfin hp.1.1.1 ho (Region.noSelect_spec hs) (fun c a w hq => hq.elim) _ listed a w (Region.free_spec ho hp.1.2) hc (by simpa using hp.1.1.2) hy hS
          (segF_sound hs hf hfin hend r _ _ w hp.2 (hc.set (by simpa using hp.1.1.2)) (by rw [put_defers']; exact hd) (by rw [put_size]; exact hz) hS (by rw [envOf_put (by rw [hz]; exact hdst)]; exact hk))
      rw [List.length_cons, show r.length + 1 + d = (r.length + d) + 1 by omega]
      split at h
      · rename_i hg
        rw [← eval_envOf] at h
        obtain ⟨v, hv, hk⟩ := run_yO h
        exact fin' v (.inl ⟨by simp [Region.wanted, hg], hv⟩) hk
      · rename_i j want hg
        by_cases hy : yieldE ops (envOf a) j = some want
        · have h := h.1 hy
          rw [← eval_envOf] at h
          obtain ⟨v, hv, hk⟩ := run_yO h
          exact fin' v (.inl ⟨by simp [Region.wanted, hg, yielded_env, hy], hv⟩) hk
        · exact fin' undef (.inr ⟨by simp [Region.wanted, hg, yielded_env, hy], rfl⟩) (h.2 hy)
  | (i, false) :: r, listed, a, w, hp, hc, hd, hz, hS, h => by
    simp only [segOkF, Bool.and_eq_true, bne_iff_ne, ne_eq] at hp
    unfold wpPlan at h
    cases ho : ops[i]? with
    | none => simp [ho] at h
    | some o =>
      have hdst := dstsFit_mem hf (o := o) (by have := Array.mem_of_getElem? ho; simpa using this)
      simp only [ho] at h
      rw [List.length_cons, show r.length + 1 + d = (r.length + d) + 1 by omega]
      have hr : Region.ready .any ops listed = [i] := by simpa using hp.1.2
      refine ⟨fun h0 => (by rw [hr] at h0; cases h0), fun k hk => ?_⟩
      obtain rfl : k = i := by rw [hr] at hk; simpa using hk
      unfold wpOp
      simp only [ho]
      have step : ∀ v w', S w' ∧ wpPlan P ops S Q' r (put (envOf a) o.dst v) w' → (k ≠ fin → S w') ∧ wpAnyL P .any ops (liftQ n (onlyN Q)) S fin (r.length + d) (listed.setIfInBounds k true) (a.put o.dst v) w' := fun v w' h' =>
        ⟨fun _ => h'.1, segF_sound hs hf hfin hend r _ _ w' hp.2 (hc.set (by rw [hr]; simp)) (by rw [put_defers']; exact hd) (by rw [put_size]; exact hz) h'.1 (by rw [envOf_put (by rw [hz]; exact hdst)]; exact h'.2)⟩
      split at h
      · rename_i hg
        rw [if_pos (by simp [Region.wanted, hg])]
        exact .inl (wpO_sound step (by rw [eval_envOf]; exact h))
      · rename_i j want hg
        by_cases hy : yieldE ops (envOf a) j = some want
        · rw [if_pos (by simp [Region.wanted, hg, yielded_env, hy])]
          exact .inl (wpO_sound step (by rw [eval_envOf]; exact h.1 hy))
        · rw [if_neg (by simp [Region.wanted, hg, yielded_env, hy])]
          exact step _ _ ⟨hS, h.2 hy⟩
theorem oneF_sound {Q' : Env → World → Prop} {d k fin : Nat} {listed : Array Bool} {a : Act} {w : World} (hf : dstsFit n ops = true) (hd : a.defers = []) (hz : a.tmps.size = n) (hS : S w)
    (hk : ∀ (a' : Act) (w' : World), a'.defers = [] → a'.tmps.size = n → S w' → Q' (envOf a') w' → wpAnyL P .any ops (liftQ n (onlyN Q)) S fin d listed a' w') (h : wpPlan P ops S Q' [(k, false)] (envOf a) w) :
    wpOp P ops (liftQ n (onlyN Q)) k (fun a' w' => (k ≠ fin → S w') ∧ wpAnyL P .any ops (liftQ n (onlyN Q)) S fin d listed a' w') a w := by
  unfold wpPlan at h
  cases ho : ops[k]? with
  | none => simp [ho] at h
  | some o =>
    have hdst := dstsFit_mem hf (o := o) (by have := Array.mem_of_getElem? ho; simpa using this)
    simp only [ho] at h
    unfold wpOp
    simp only [ho]
    have step : ∀ v w', S w' ∧ wpPlan P ops S Q' [] (put (envOf a) o.dst v) w' → (k ≠ fin → S w') ∧ wpAnyL P .any ops (liftQ n (onlyN Q)) S fin d listed (a.put o.dst v) w' := fun v w' h' =>
      ⟨fun _ => h'.1, hk _ w' (by rw [put_defers']; exact hd) (by rw [put_size]; exact hz) h'.1 (by rw [envOf_put (by rw [hz]; exact hdst)]; exact h'.2)⟩
    split at h
    · rename_i hg
      rw [if_pos (by simp [Region.wanted, hg])]
      exact .inl (wpO_sound step (by rw [eval_envOf]; exact h))
    · rename_i q want hg
      by_cases hy : yieldE ops (envOf a) q = some want
      · rw [if_pos (by simp [Region.wanted, hg, yielded_env, hy])]
        exact .inl (wpO_sound step (by rw [eval_envOf]; exact h.1 hy))
      · rw [if_neg (by simp [Region.wanted, hg, yielded_env, hy])]
        exact step _ _ ⟨hS, h.2 hy⟩
theorem treeF_sound {fin : Nat} (hs : Region.noSelect ops = true) (hf : dstsFit n ops = true) (hfin : finOk .any ops fin = true) : ∀ (t : PlanT) (listed : Array Bool) (a : Act) (w : World), t.okF ops fin listed = true → Shut .any ops listed → a.defers = [] → a.tmps.size = n → S w →
    wpTP P ops S (fun e w => wpOs P ops Q (ops[fin]?).toList e w) t (envOf a) w → wpAnyL P .any ops (liftQ n (onlyN Q)) S fin (t.len + 1) listed a w
  | .leaf l, listed, a, w, hp, hc, hd, hz, hS, h => wpPlanF_sound hs hf hfin l listed a w hp hc hd hz hS h
  | .fork l i j pa pb, listed, a, w, hp, hc, hd, hz, hS, h => by
    simp only [PlanT.okF, Bool.and_eq_true, beq_iff_eq] at hp
    obtain ⟨hseg, hlen⟩ := hp
    rw [PlanT.len, Nat.add_assoc]
    refine segF_sound (d := pa.len + 1 + 1) hs hf hfin (fun listed a w hq hc hd hz hS h => ?_) l listed a w hseg hc hd hz hS h
    simp only [Bool.and_eq_true] at hq
    obtain ⟨⟨⟨⟨hr, hi⟩, hj⟩, hpa⟩, hpb⟩ := hq
    have hr : Region.ready .any ops listed = [i, j] := by simpa using hr
    refine ⟨fun h0 => (by rw [hr] at h0; cases h0), fun k hk => ?_⟩
    rw [hr] at hk
    simp only [List.mem_cons, List.not_mem_nil, or_false] at hk
    rcases hk with rfl | rfl
    · exact oneF_sound hf hd hz hS (fun a' w' hd hz hS h => treeF_sound hs hf hfin pa _ a' w' hpa (hc.set (by rw [hr]; simp)) hd hz hS h) h.1
    · rw [hlen]
      exact oneF_sound hf hd hz hS (fun a' w' hd hz hS h => treeF_sound hs hf hfin pb _ a' w' hpb (hc.set (by rw [hr]; simp)) hd hz hS h) h.2
/-- by a tree of plans of all but the last one, and then that. -/
theorem wpDraw_treeF {e : Env} {w : World} (S : World → Prop) (t : PlanT) (fin : Nat) (hok : (Region.noSelect ops && finOk .any ops fin && t.okF ops fin (Array.replicate ops.size false) && (t.len + 1 == ops.size) && t.inB ops.size) = true) (hS : S w.drew)
    (h : wpTL P ops S (fun e w => wpOs P ops Q (ops[fin]?).toList e w) t e w.drew) {tk : Tok (Q, e, w)} : wpDraw P ops Q e w tk := by
  simp only [Bool.and_eq_true, beq_iff_eq] at hok
  obtain ⟨⟨⟨⟨h1, h2⟩, h3⟩, h4⟩, h5⟩ := hok
  intro a hd he hf
  subst he
  have := wpAny_of_L _ _ _ _ (treeF_sound (n := a.tmps.size) h1 hf h2 t _ a w.drew h3 (Shut.none _) hd rfl hS (wpTL_sound t _ _ h5 h))
  rw [h4] at this
  exact this
end

end Go.Proofs.YtljgnocpijniiaaGreatDoor
