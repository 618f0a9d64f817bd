/- A region that draws its order and ends in one store behind all the rest: by a plan; behind that store nothing need hold. -/
/- A region that draws its order: reads, then a first store, behind which nothing is loaded any more (an exchange of two places): the reads by a plan, then the rest in its order. -/
/- A region that draws its order, in which two operations that do something may come in either order: a plan up to there, and one behind each. -/
import Derived.Test.YtljgnocpijniiaaGreatDoorMem
set_option linter.unusedVariables false
namespace Go.Proofs.YtljgnocpijniiaaGreatDoor
open Go

section
variable {P : Program} {ops : Array Oper} {Q : Exit → Act → World → Prop} {md : Region.Mode} {S : World → Prop} {fin : Nat}
def wpAnyL (P : Program) (md : Region.Mode) (ops : Array Oper) (Q : Exit → Act → World → Prop) (S : World → Prop) (fin : Nat) : Nat → Array Bool → Act → World → Prop
  | 0, listed, a, w => Region.ready md ops listed = [] ∧ Q .normal a w
  | fuel + 1, listed, a, w =>
    (Region.ready md ops listed = [] → Q .normal a w) ∧
    ∀ i ∈ Region.ready md ops listed, wpOp P ops Q i (fun a' w' => (i ≠ fin → S w') ∧ wpAnyL P md ops Q S fin fuel (listed.setIfInBounds i true) a' w') a w
theorem wpAny_of_L : ∀ (fuel : Nat) (listed : Array Bool) (a : Act) (w : World), wpAnyL P md ops Q S fin fuel listed a w → wpAny P md ops Q fuel listed a w
  | 0, _, _, _, h => h
  | fuel + 1, _, _, _, h => ⟨h.1, fun i hi => wpOp_mono (fun a' w' h' => wpAny_of_L fuel _ a' w' h'.2) (h.2 i hi)⟩
/-- what is listed has all ahead of it listed. -/
def Shut (md : Region.Mode) (ops : Array Oper) (listed : Array Bool) : Prop := ∀ (j : Nat) (oj : Oper), ops[j]? = some oj → listed.getD j false = true → ∀ e ∈ oj.after, Region.binds md e = true → listed.getD e.on false = true
theorem Shut.set {listed : Array Bool} {j : Nat} (h : Shut md ops listed) (hj : j ∈ Region.ready md ops listed) : Shut md ops (listed.setIfInBounds j true) := by
  intro k ok hk hl e he hb
  by_cases hkj : k = j
  · subst hkj
    obtain ⟨_, o, ho, hall⟩ := mem_ready.1 hj
    rw [hk] at ho
    injection ho with ho
    subst ho
    exact getD_set_true (hall e he hb)
  · rw [getD_set_ne false (Ne.symm hkj)] at hl
    exact getD_set_true (h k ok hk hl e he hb)
theorem Shut.none (n : Nat) : Shut md ops (Array.replicate n false) := by
  intro j oj _ hl
  rw [Array.getD_eq_getD_getElem?, Array.getElem?_replicate] at hl
  split at hl <;> simp at hl
/-- each one but the last has a later one that waits for it. -/
def finOk (md : Region.Mode) (ops : Array Oper) (fin : Nat) : Bool :=
  (fin + 1 == ops.size) && (List.range fin).all fun i => (List.range ops.size).any fun j => decide (i < j) && match ops[j]? with
    | some o => o.after.toList.any fun e => Region.binds md e && e.on == i
    | none => false
theorem finOk_all (h : finOk md ops fin = true) {listed : Array Bool} (hc : Shut md ops listed) (hr : fin ∈ Region.ready md ops listed) : ∀ (d i : Nat), i + d + 1 = fin → listed.getD i false = true := by
  simp only [finOk, Bool.and_eq_true, beq_iff_eq, List.all_eq_true, List.mem_range, List.any_eq_true, decide_eq_true_eq] at h
  intro d
  induction d using Nat.strongRecOn with
  | ind d ih =>
    intro i hd
    obtain ⟨j, hj, hij, hm⟩ := h.2 i (by omega)
    split at hm
    · rename_i o ho
      simp only [List.any_eq_true, Bool.and_eq_true, beq_iff_eq] at hm
      obtain ⟨e, he, hb, heq⟩ := hm
      by_cases hjf : j = fin
      · subst hjf
        obtain ⟨_, o', ho', hall⟩ := mem_ready.1 hr
        rw [ho] at ho'
        injection ho' with ho'
        subst ho'
        rw [← heq]
        exact hall e (by simpa using he) hb
      · rw [← heq]
        exact hc j o ho (ih (fin - 1 - j) (by omega) j (by omega)) e (by simpa using he) hb
    · cases hm
theorem finOk_spec (h : finOk md ops fin = true) {i : Nat} {oi : Oper} (hi : ops[i]? = some oi) (hne : i ≠ fin) {listed : Array Bool} (hc : Shut md ops listed) (hun : listed.getD i true = false) : fin ∉ Region.ready md ops listed := by
  intro hr
  have hlt : i < ops.size := (Array.getElem?_eq_some_iff.1 hi).1
  have hs : fin + 1 = ops.size := by
    simp only [finOk, Bool.and_eq_true, beq_iff_eq] at h
    exact h.1
  have h1 := finOk_all h hc hr (fin - 1 - i) i (by omega)
  rcases Nat.lt_or_ge i listed.size with h' | h'
  · simp [h'] at hun h1; rw [hun] at h1; cases h1
  · simp [Array.getElem?_eq_none h'] at h1
theorem wpAnyL_first {i : Nat} {oi : Oper} {v : Value} (hfin : finOk md ops fin = true) (hnf : i ≠ fin) (hi : ops[i]? = some oi) (hsel : ∀ (j : Nat) (o : Oper) cs b, ops[j]? = some o → o.op ≠ .select cs b)
    (hQ : ∀ c a w, Q (.panic c) (a.put oi.dst v) w → Q (.panic c) a w) :
    ∀ (fuel : Nat) (listed : Array Bool) (a : Act) (w : World),
      (∀ j oj, ops[j]? = some oj → j ≠ i → listed.getD j true = false → (∀ e ∈ oj.after, Region.binds md e = true → e.on ≠ i) → oi.apart ops oj = true) →
      Shut md ops listed → i ∈ Region.ready md ops listed → YieldsIf P ops S oi v a → S w →
      wpAnyL P md ops Q S fin fuel (listed.setIfInBounds i true) (a.put oi.dst v) w → wpAnyL P md ops Q S fin (fuel + 1) listed a w := by
  intro fuel
  induction fuel with
  | zero =>
    intro listed a w _ hc hr hy hS H
    refine ⟨fun h => (by rw [h] at hr; cases hr), fun j hj => ?_⟩
    by_cases hji : j = i
    · subst hji; exact hy.wpOp hi hS ⟨fun _ => hS, H⟩
    · have := ready_mono hj hji
      rw [H.1] at this
      cases this
  | succ fuel ih =>
    intro listed a w hfree hc hr hy hS H
    refine ⟨fun h => (by rw [h] at hr; cases hr), fun j hj => ?_⟩
    by_cases hji : j = i
    · subst hji; exact hy.wpOp hi hS ⟨fun _ => hS, H⟩
    · have hun := (mem_ready.1 hr).1
      have hjf : j ≠ fin := fun he => finOk_spec hfin hi hnf hc hun (he ▸ hj)
      have h1 := H.2 j (ready_mono hj hji)
      obtain ⟨hjun, oj, hoj, hall⟩ := mem_ready.1 hj
      have hnot : ∀ e ∈ oj.after, Region.binds md e = true → e.on ≠ i := fun e he hb heq => by
        have h1 := hall e he hb
        have h0 := hun
        rw [heq] at h1
        rcases Nat.lt_or_ge i listed.size with h' | h'
        · simp [h'] at h0 h1; rw [h0] at h1; cases h1
        · simp [Array.getElem?_eq_none h'] at h1
      have h2 := wpOp_putIf hoj (hfree j oj hoj hji hjun hnot) (fun cs b => hsel i oi cs b hi) (fun cs b => hsel j oj cs b hoj) hQ hy h1
      have hfree' : ∀ k ok, ops[k]? = some ok → k ≠ i → (listed.setIfInBounds j true).getD k true = false →
          (∀ e ∈ ok.after, Region.binds md e = true → e.on ≠ i) → oi.apart ops ok = true := fun k ok hk hki hun hno => by
        refine hfree k ok hk hki ?_ hno
        by_cases hjk : j = k
        · subst hjk; exact hjun
        · rw [getD_set_ne true hjk] at hun; exact hun
      refine wpOp_mono (fun a' w' h3 => ⟨h3.2.1, ih (listed.setIfInBounds j true) a' w' hfree' (hc.set hj) (ready_mono hr (Ne.symm hji)) h3.1 (h3.2.1 hjf) ?_⟩) h2
      rw [Array.setIfInBounds_comm _ _ hji]
      exact h3.2.2
end

def planOkF (ops : Array Oper) (fin : Nat) : List (Nat × Bool) → Array Bool → Bool
  | [], listed => (Region.ready .any ops listed == [fin]) && (Region.ready .any ops (listed.setIfInBounds fin true)).isEmpty
  | (i, true) :: r, listed => (i != fin) && (Region.ready .any ops listed).contains i && Region.free .any ops listed i && planOkF ops fin r (listed.setIfInBounds i true)
  | (i, false) :: r, listed => (i != fin) && (Region.ready .any ops listed == [i]) && planOkF ops fin r (listed.setIfInBounds i true)
theorem wpPlanF_sound {P : Program} {ops : Array Oper} {S : World → Prop} {Q : Env → World → Prop} {n fin : Nat} (hs : Region.noSelect ops = true) (hf : dstsFit n ops = true) (hfin : finOk .any ops fin = true) :
    ∀ (plan : List (Nat × Bool)) (listed : Array Bool) (a : Act) (w : World), planOkF ops fin plan listed = true → Shut .any ops listed → a.defers = [] → a.tmps.size = n → S w → wpPlan P ops S (fun e w => wpOs P ops Q (ops[fin]?).toList e w) plan (envOf a) w →
    wpAnyL P .any ops (liftQ n (onlyN Q)) S fin (plan.length + 1) listed a w
  | [], listed, a, w, hp, hc, hd, hz, hS, h => by
    simp only [planOkF, Bool.and_eq_true] at hp
    unfold wpPlan at h
    cases ho : ops[fin]? with
    | none =>
      simp only [finOk, Bool.and_eq_true, beq_iff_eq] at hfin
      have hge := Array.getElem?_eq_none_iff.1 ho
      omega
    | some o =>
      have hdst := dstsFit_mem hf (o := o) (by have := Array.mem_of_getElem? ho; simpa using this)
      have hr : Region.ready .any ops listed = [fin] := by simpa using hp.1
      refine ⟨fun h0 => (by rw [hr] at h0; cases h0), fun k hk => ?_⟩
      obtain rfl : k = fin := by rw [hr] at hk; simpa using hk
      rw [ho] at h
      simp only [Option.toList_some, wpOs] at h
      have step : ∀ v w', Q (put (envOf a) o.dst v) w' → (k ≠ k → S w') ∧ wpAnyL P .any ops (liftQ n (onlyN Q)) S k 0 (listed.setIfInBounds k true) (a.put o.dst v) w' := fun v w' h' =>
        ⟨fun hne => absurd rfl hne, by simpa using hp.2, by rw [put_defers']; exact hd, by rw [put_size]; exact hz, by rw [envOf_put (by rw [hz]; exact hdst)]; exact h'⟩
      unfold wpOp
      simp only [ho]
      split at h
      · rename_i hg
        rw [if_pos (by simp [Region.wanted, hg])]
        exact .inl (wpO_sound step (by rw [eval_envOf]; exact h))
      · rename_i j want hg
        by_cases hy : yieldE ops (envOf a) j = some want
        · rw [if_pos (by simp [Region.wanted, hg, yielded_env, hy])]
          exact .inl (wpO_sound step (by rw [eval_envOf]; exact h.1 hy))
        · rw [if_neg (by simp [Region.wanted, hg, yielded_env, hy])]
          exact step _ _ (h.2 hy)
  | (i, true) :: r, listed, a, w, hp, hc, hd, hz, hS, h => by
    simp only [planOkF, Bool.and_eq_true, bne_iff_ne, ne_eq] at hp
    unfold wpPlan at h
    cases ho : ops[i]? with
    | none => simp [ho] at h
    | some o =>
      have hdst := dstsFit_mem hf (o := o) (by have := Array.mem_of_getElem? ho; simpa using this)
      simp only [ho] at h
      have fin : ∀ v, YieldsIf P ops S o v a → wpPlan P ops S (fun e w => wpOs P ops Q (ops[fin]?).toList e w) r (put (envOf a) o.dst v) w → wpAnyL P .any ops (liftQ n (onlyN Q)) S fin (r.length + 1 + 1) listed a w := fun v hy hk =>
        wpAnyL_first hfin hp.1.1.1 ho (Region.noSelect_spec hs) (fun c a w hq => hq.elim) _ listed a w (Region.free_spec ho hp.1.2) hc (by simpa using hp.1.1.2) hy hS
          (wpPlanF_sound hs hf hfin r _ _ w hp.2 (hc.set (by simpa using hp.1.1.2)) (by rw [put_defers']; exact hd) (by rw [put_size]; exact hz) hS (by rw [envOf_put (by rw [hz]; exact hdst)]; exact hk))
      split at h
      · rename_i hg
        rw [← eval_envOf] at h
        obtain ⟨v, hv, hk⟩ := run_yO h
        exact fin v (.inl ⟨by simp [Region.wanted, hg], hv⟩) hk
      · rename_i j want hg
        by_cases hy : yieldE ops (envOf a) j = some want
        · have h := h.1 hy
          rw [← eval_envOf] at h
          obtain ⟨v, hv, hk⟩ := run_yO h
          exact fin v (.inl ⟨by simp [Region.wanted, hg, yielded_env, hy], hv⟩) hk
        · exact fin undef (.inr ⟨by simp [Region.wanted, hg, yielded_env, hy], rfl⟩) (h.2 hy)
  | (i, false) :: r, listed, a, w, hp, hc, hd, hz, hS, h => by
    simp only [planOkF, Bool.and_eq_true, bne_iff_ne, ne_eq] at hp
    unfold wpPlan at h
    cases ho : ops[i]? with
    | none => simp [ho] at h
    | some o =>
      have hdst := dstsFit_mem hf (o := o) (by have := Array.mem_of_getElem? ho; simpa using this)
      simp only [ho] at h
      have hr : Region.ready .any ops listed = [i] := by simpa using hp.1.2
      refine ⟨fun h0 => (by rw [hr] at h0; cases h0), fun k hk => ?_⟩
      obtain rfl : k = i := by rw [hr] at hk; simpa using hk
      unfold wpOp
      simp only [ho]
      have step : ∀ v w', S w' ∧ wpPlan P ops S (fun e w => wpOs P ops Q (ops[fin]?).toList e w) r (put (envOf a) o.dst v) w' → (k ≠ fin → S w') ∧ wpAnyL P .any ops (liftQ n (onlyN Q)) S fin (r.length + 1) (listed.setIfInBounds k true) (a.put o.dst v) w' := fun v w' h' =>
        ⟨fun _ => h'.1, wpPlanF_sound hs hf hfin r _ _ w' hp.2 (hc.set (by rw [hr]; simp)) (by rw [put_defers']; exact hd) (by rw [put_size]; exact hz) h'.1 (by rw [envOf_put (by rw [hz]; exact hdst)]; exact h'.2)⟩
      split at h
      · rename_i hg
        rw [if_pos (by simp [Region.wanted, hg])]
        exact .inl (wpO_sound step (by rw [eval_envOf]; exact h))
      · rename_i j want hg
        by_cases hy : yieldE ops (envOf a) j = some want
        · rw [if_pos (by simp [Region.wanted, hg, yielded_env, hy])]
          exact .inl (wpO_sound step (by rw [eval_envOf]; exact h.1 hy))
        · rw [if_neg (by simp [Region.wanted, hg, yielded_env, hy])]
          exact step _ _ ⟨hS, h.2 hy⟩
/-- the region, by a plan of all but the last one, and then that. -/
theorem wpDraw_fin {P : Program} {ops : Array Oper} {Q : Env → World → Prop} {e : Env} {w : World} (S : World → Prop) (plan : List (Nat × Bool)) (fin : Nat)
    (hok : (Region.noSelect ops && finOk .any ops fin && planOkF ops fin plan (Array.replicate ops.size false) && (plan.length + 1 == ops.size) && plan.all fun x => decide (x.1 < ops.size)) = true) (hS : S w.drew)
    (h : wpL P ops S (fun e w => wpOs P ops Q (ops[fin]?).toList e w) (planL ops plan) e w.drew) {tk : Tok (Q, e, w)} : wpDraw P ops Q e w tk := by
  simp only [Bool.and_eq_true, beq_iff_eq] at hok
  intro a hd he hf
  subst he
  have := wpAny_of_L _ _ _ _ (wpPlanF_sound (n := a.tmps.size) hok.1.1.1.1 hf hok.1.1.1.2 plan _ a w.drew hok.1.1.2 (Shut.none _) hd rfl hS (wpL_plan plan _ _ hok.2 h))
  rw [hok.1.2] at this
  exact this

end Go.Proofs.YtljgnocpijniiaaGreatDoor

namespace Go.Proofs.YtljgnocpijniiaaGreatDoor
open Go

section
variable {P : Program} {ops : Array Oper} {Q : Exit → Act → World → Prop} {md : Region.Mode} {S : World → Prop} {f1 : Nat}
def wpAnyT (P : Program) (md : Region.Mode) (ops : Array Oper) (Q : Exit → Act → World → Prop) (S : World → Prop) (f1 : Nat) : Nat → Array Bool → Act → World → Prop
  | 0, listed, a, w => Region.ready md ops listed = [] ∧ Q .normal a w
  | fuel + 1, listed, a, w =>
    (Region.ready md ops listed = [] → Q .normal a w) ∧
    ∀ i ∈ Region.ready md ops listed, wpOp P ops Q i (fun a' w' => (i ≠ f1 → listed.getD f1 false = false → S w') ∧ wpAnyT P md ops Q S f1 fuel (listed.setIfInBounds i true) a' w') a w
theorem wpAny_of_T : ∀ (fuel : Nat) (listed : Array Bool) (a : Act) (w : World), wpAnyT P md ops Q S f1 fuel listed a w → wpAny P md ops Q fuel listed a w
  | 0, _, _, _, h => h
  | fuel + 1, _, _, _, h => ⟨h.1, fun i hi => wpOp_mono (fun a' w' h' => wpAny_of_T fuel _ a' w' h'.2) (h.2 i hi)⟩
/-- does the first store wait for it? -/
def depB (md : Region.Mode) (ops : Array Oper) (f1 i : Nat) : Bool := match ops[f1]? with
  | some o => o.after.toList.any fun e => Region.binds md e && e.on == i
  | none => false
theorem depB_listed {listed : Array Bool} {i : Nat} (h : depB md ops f1 i = true) (hc : Shut md ops listed) (hl : listed.getD f1 false = true) : listed.getD i false = true := by
  unfold depB at h
  split at h
  · rename_i o ho
    simp only [List.any_eq_true, Bool.and_eq_true, beq_iff_eq] at h
    obtain ⟨e, he, hb, heq⟩ := h
    rw [← heq]
    exact hc f1 o ho hl e (by simpa using he) hb
  · cases h
theorem depB_ready {listed : Array Bool} {i : Nat} (h : depB md ops f1 i = true) (hr : f1 ∈ Region.ready md ops listed) : listed.getD i false = true := by
  unfold depB at h
  obtain ⟨_, o, ho, hall⟩ := mem_ready.1 hr
  rw [ho] at h
  simp only [List.any_eq_true, Bool.and_eq_true, beq_iff_eq] at h
  obtain ⟨e, he, hb, heq⟩ := h
  rw [← heq]
  exact hall e (by simpa using he) hb
theorem getD_both {listed : Array Bool} {i : Nat} (h1 : listed.getD i true = false) (h2 : listed.getD i false = true) : False := by
  rcases Nat.lt_or_ge i listed.size with h' | h'
  · simp [h'] at h1 h2; rw [h1] at h2; cases h2
  · simp [Array.getElem?_eq_none h'] at h2
theorem getD_set_self {listed : Array Bool} {j : Nat} (h : j < listed.size) : (listed.setIfInBounds j true).getD j false = true := by simp [h]
theorem unl_lt {listed : Array Bool} {j : Nat} (h : listed.getD j true = false) : j < listed.size := by
  rcases Nat.lt_or_ge j listed.size with h' | h'
  · exact h'
  · simp [Array.getElem?_eq_none h'] at h
theorem wpAnyT_first {i : Nat} {oi : Oper} {v : Value} (T : World → Prop) (hi : ops[i]? = some oi) (hif : i ≠ f1) (hsel : ∀ (j : Nat) (o : Oper) cs b, ops[j]? = some o → o.op ≠ .select cs b)
    (hQ : ∀ c a w, Q (.panic c) (a.put oi.dst v) w → Q (.panic c) a w)
    (hT : ∀ (listed : Array Bool) (w' : World), Shut md ops listed → listed.getD i true = false → (listed.getD f1 false = false → S w') → T w') :
    ∀ (fuel : Nat) (listed : Array Bool) (a : Act) (w : World),
      (∀ j oj, ops[j]? = some oj → j ≠ i → listed.getD j true = false → (∀ e ∈ oj.after, Region.binds md e = true → e.on ≠ i) → oi.apart ops oj = true) →
      Shut md ops listed → i ∈ Region.ready md ops listed → YieldsIf P ops T oi v a → (listed.getD f1 false = false → S w) →
      wpAnyT P md ops Q S f1 fuel (listed.setIfInBounds i true) (a.put oi.dst v) w → wpAnyT P md ops Q S f1 (fuel + 1) listed a w := by
  intro fuel
  induction fuel with
  | zero =>
    intro listed a w _ hc hr hy hS H
    refine ⟨fun h => (by rw [h] at hr; cases hr), fun j hj => ?_⟩
    by_cases hji : j = i
    · subst hji; exact hy.wpOp hi (hT listed w hc (mem_ready.1 hr).1 hS) ⟨fun _ => hS, H⟩
    · have := ready_mono hj hji
      rw [H.1] at this
      cases this
  | succ fuel ih =>
    intro listed a w hfree hc hr hy hS H
    refine ⟨fun h => (by rw [h] at hr; cases hr), fun j hj => ?_⟩
    by_cases hji : j = i
    · subst hji; exact hy.wpOp hi (hT listed w hc (mem_ready.1 hr).1 hS) ⟨fun _ => hS, H⟩
    · have hun := (mem_ready.1 hr).1
      have h1 := H.2 j (ready_mono hj hji)
      obtain ⟨hjun, oj, hoj, hall⟩ := mem_ready.1 hj
      have hnot : ∀ e ∈ oj.after, Region.binds md e = true → e.on ≠ i := fun e he hb heq => by
        have h1 := hall e he hb
        rw [heq] at h1
        exact getD_both hun h1
      have h2 := wpOp_putIf hoj (hfree j oj hoj hji hjun hnot) (fun cs b => hsel i oi cs b hi) (fun cs b => hsel j oj cs b hoj) hQ hy h1
      have hfree' : ∀ k ok, ops[k]? = some ok → k ≠ i → (listed.setIfInBounds j true).getD k true = false →
          (∀ e ∈ ok.after, Region.binds md e = true → e.on ≠ i) → oi.apart ops ok = true := fun k ok hk hki hun hno => by
        refine hfree k ok hk hki ?_ hno
        by_cases hjk : j = k
        · subst hjk; exact hjun
        · rw [getD_set_ne true hjk] at hun; exact hun
      have hback : ∀ w' : World, (j ≠ f1 → (listed.setIfInBounds i true).getD f1 false = false → S w') → (j ≠ f1 → listed.getD f1 false = false → S w') := fun w' hq hne hl => by
        refine hq hne ?_
        rw [getD_set_ne false hif]; exact hl
      have hinv : ∀ w' : World, (j ≠ f1 → listed.getD f1 false = false → S w') → ((listed.setIfInBounds j true).getD f1 false = false → S w') := fun w' hq hl => by
        by_cases hjf : j = f1
        · subst hjf; rw [getD_set_self (unl_lt hjun)] at hl; cases hl
        · rw [getD_set_ne false hjf] at hl; exact hq hjf hl
      refine wpOp_mono (fun a' w' h3 => ⟨hback w' h3.2.1, ih (listed.setIfInBounds j true) a' w' hfree' (hc.set hj) (ready_mono hr (Ne.symm hji)) h3.1 (hinv w' (hback w' h3.2.1)) ?_⟩) h2
      rw [Array.setIfInBounds_comm _ _ hji]
      exact h3.2.2
end
/-- an operation that looks at no memory. -/
def isFree (o : Go.Op) : Bool := match o with
  | .load _ _ => false
  | .convert _ _ _ => false
  | _ => true
theorem yO_free {P : Program} {S : World → Prop} {o : Oper} {ρ : Operand → Value} {K : VK} (hf : isFree o.op = true) (h : yO P S o ρ K) : yO P (fun _ => True) o ρ K := by
  unfold yO at h ⊢
  split at h
  · rename_i t x hop
    rw [hop] at hf
    cases hf
  · rename_i s d x hop
    rw [hop] at hf
    cases hf
  · exact h
def seqT (ops : Array Oper) : List Nat → Array Bool → Bool
  | [], listed => (Region.ready .any ops listed).isEmpty
  | k :: r, listed => (Region.ready .any ops listed == [k]) && seqT ops r (listed.setIfInBounds k true)
def planOkT (ops : Array Oper) (f1 : Nat) (tail : List Nat) : List Nat → Array Bool → Bool
  | [], listed => seqT ops tail listed
  | i :: r, listed => (i != f1) && (Region.ready .any ops listed).contains i && Region.free .any ops listed i && (depB .any ops f1 i || ((ops[i]?).map fun o => isFree o.op).getD false) && planOkT ops f1 tail r (listed.setIfInBounds i true)
theorem wpSeqT {P : Program} {ops : Array Oper} {S : World → Prop} {Q : Env → World → Prop} {n f1 : Nat} (hf : dstsFit n ops = true) :
    ∀ (tail : List Nat) (listed : Array Bool) (a : Act) (w : World), tail.head? = some f1 ∨ listed.getD f1 false = true → seqT ops tail listed = true → (tail.all fun i => decide (i < ops.size)) = true → a.defers = [] → a.tmps.size = n → wpOs P ops Q (tail.filterMap (ops[·]?)) (envOf a) w →
    wpAnyT P .any ops (liftQ n (onlyN Q)) S f1 tail.length listed a w
  | [], listed, a, w, _, hs, _, hd, hz, h => by
    refine ⟨by simpa [seqT] using hs, hd, hz, ?_⟩
    have h' : Q (envOf a) w := by simpa [wpOs] using h
    exact h'
  | k :: r, listed, a, w, hl, hs, hlt, hd, hz, h => by
    simp only [seqT, Bool.and_eq_true, beq_iff_eq] at hs
    simp only [List.all_cons, Bool.and_eq_true, decide_eq_true_eq] at hlt
    obtain ⟨hk, hlt⟩ := hlt
    have ho : ops[k]? = some ops[k] := Array.getElem?_eq_getElem hk
    generalize ops[k] = o at ho
    have hdst := dstsFit_mem hf (o := o) (by have := Array.mem_of_getElem? ho; simpa using this)
    refine ⟨fun h0 => (by rw [hs.1] at h0; cases h0), fun j hj => ?_⟩
    obtain rfl : j = k := by rw [hs.1] at hj; simpa using hj
    simp only [List.filterMap_cons, ho, wpOs] at h
    have hju := (mem_ready.1 hj).1
    have hl' : r.head? = some f1 ∨ (listed.setIfInBounds j true).getD f1 false = true := by
      right
      rcases hl with hl | hl
      · obtain rfl : j = f1 := by simpa using hl
        exact getD_set_self (unl_lt hju)
      · exact getD_set_true hl
    have step : ∀ v w', wpOs P ops Q (r.filterMap (ops[·]?)) (put (envOf a) o.dst v) w' → (j ≠ f1 → listed.getD f1 false = false → S w') ∧ wpAnyT P .any ops (liftQ n (onlyN Q)) S f1 r.length (listed.setIfInBounds j true) (a.put o.dst v) w' := fun v w' h' =>
      ⟨fun hne hlf => by
        rcases hl with hl | hl
        · exact absurd (by simpa using hl) hne
        · exact absurd (hlf.symm.trans hl) (by decide),
       wpSeqT hf r _ _ w' hl' hs.2 hlt (by rw [put_defers']; exact hd) (by rw [put_size]; exact hz) (by rw [envOf_put (by rw [hz]; exact hdst)]; exact h')⟩
    unfold wpOp
    simp only [ho]
    split at h
    · rename_i hg
      rw [if_pos (by simp [Region.wanted, hg])]
      exact .inl (wpO_sound step (by rw [eval_envOf]; exact h))
    · rename_i m want hg
      by_cases hy : yieldE ops (envOf a) m = some want
      · rw [if_pos (by simp [Region.wanted, hg, yielded_env, hy])]
        exact .inl (wpO_sound step (by rw [eval_envOf]; exact h.1 hy))
      · rw [if_neg (by simp [Region.wanted, hg, yielded_env, hy])]
        exact step _ _ (h.2 hy)
theorem wpPlanT_sound {P : Program} {ops : Array Oper} {S : World → Prop} {Q : Env → World → Prop} {n f1 : Nat} {tail : List Nat} (hs : Region.noSelect ops = true) (hf : dstsFit n ops = true) (hh : tail.head? = some f1) (htl : (tail.all fun i => decide (i < ops.size)) = true) :
    ∀ (plan : List Nat) (listed : Array Bool) (a : Act) (w : World), planOkT ops f1 tail plan listed = true → Shut .any ops listed → a.defers = [] → a.tmps.size = n → S w →
      wpPlan P ops S (fun e w => wpOs P ops Q (tail.filterMap (ops[·]?)) e w) (plan.map (·, true)) (envOf a) w → wpAnyT P .any ops (liftQ n (onlyN Q)) S f1 (plan.length + tail.length) listed a w
  | [], listed, a, w, hp, hc, hd, hz, hS, h => by
    rw [List.length_nil, Nat.zero_add]
    exact wpSeqT hf tail listed a w (.inl hh) hp htl hd hz h
  | i :: r, listed, a, w, hp, hc, hd, hz, hS, h => by
    simp only [planOkT, Bool.and_eq_true, bne_iff_ne, ne_eq, Bool.or_eq_true] at hp
    rw [List.map_cons] at h
    unfold wpPlan at h
    cases ho : ops[i]? with
    | none => simp [ho] at h
    | some o =>
      have hdst := dstsFit_mem hf (o := o) (by have := Array.mem_of_getElem? ho; simpa using this)
      simp only [ho] at h
      have hrd : i ∈ Region.ready .any ops listed := by simpa using hp.1.1.1.2
      rw [List.length_cons, show r.length + 1 + tail.length = r.length + tail.length + 1 by omega]
      have fin : ∀ v (T : World → Prop), (∀ (listed : Array Bool) (w' : World), Shut .any ops listed → listed.getD i true = false → (listed.getD f1 false = false → S w') → T w') → YieldsIf P ops T o v a →
          wpPlan P ops S (fun e w => wpOs P ops Q (tail.filterMap (ops[·]?)) e w) (r.map (·, true)) (put (envOf a) o.dst v) w → wpAnyT P .any ops (liftQ n (onlyN Q)) S f1 (r.length + tail.length + 1) listed a w := fun v T hT hy hk =>
        wpAnyT_first T ho hp.1.1.1.1 (Region.noSelect_spec hs) (fun c a w hq => hq.elim) hT _ listed a w (Region.free_spec ho hp.1.1.2) hc hrd hy (fun _ => hS)
          (wpPlanT_sound hs hf hh htl r _ _ w hp.2 (hc.set hrd) (by rw [put_defers']; exact hd) (by rw [put_size]; exact hz) hS (by rw [envOf_put (by rw [hz]; exact hdst)]; exact hk))
      have two : ∀ K : Value → Prop, yO P S o a.eval K → ∃ (T : World → Prop) (v : Value), (∀ (listed : Array Bool) (w' : World), Shut .any ops listed → listed.getD i true = false → (listed.getD f1 false = false → S w') → T w') ∧ (∀ w, T w → (execOp a.eval o).run P w = .ok (.value v) w) ∧ K v := by
        intro K hy
        rcases hp.1.2 with hdep | hfr
        · obtain ⟨v, hv, hk⟩ := run_yO hy
          refine ⟨S, v, fun l w' hsh hun hq => hq ?_, hv, hk⟩
          cases hl : l.getD f1 false with
          | false => rfl
          | true => exact absurd (depB_listed hdep hsh hl) (fun hx => getD_both hun hx)
        · rw [ho] at hfr
          obtain ⟨v, hv, hk⟩ := run_yO (yO_free (by simpa using hfr) hy)
          exact ⟨fun _ => True, v, fun _ _ _ _ _ => trivial, hv, hk⟩
      split at h
      · rename_i hg
        rw [← eval_envOf] at h
        obtain ⟨T, v, hT, hv, hk⟩ := two _ h
        exact fin v T hT (.inl ⟨by simp [Region.wanted, hg], hv⟩) hk
      · rename_i j want hg
        by_cases hy : yieldE ops (envOf a) j = some want
        · have h := h.1 hy
          rw [← eval_envOf] at h
          obtain ⟨T, v, hT, hv, hk⟩ := two _ h
          exact fin v T hT (.inl ⟨by simp [Region.wanted, hg, yielded_env, hy], hv⟩) hk
        · exact fin undef (fun _ => True) (fun _ _ _ _ _ => trivial) (.inr ⟨by simp [Region.wanted, hg, yielded_env, hy], rfl⟩) (h.2 hy)
theorem wpDraw_swap {P : Program} {ops : Array Oper} {Q : Env → World → Prop} {e : Env} {w : World} (S : World → Prop) (plan : List Nat) (f1 : Nat) (tail : List Nat)
    (hok : (Region.noSelect ops && (tail.head? == some f1) && (tail.all fun i => decide (i < ops.size)) && planOkT ops f1 tail plan (Array.replicate ops.size false) && (plan.length + tail.length == ops.size) && (plan.map (·, true)).all fun x => decide (x.1 < ops.size)) = true) (hS : S w.drew)
    (h : wpL P ops S (fun e w => wpOs P ops Q (tail.filterMap (ops[·]?)) e w) (planL ops (plan.map (·, true))) e w.drew) {tk : Tok (Q, e, w)} : wpDraw P ops Q e w tk := by
  simp only [Bool.and_eq_true, beq_iff_eq] at hok
  obtain ⟨⟨⟨⟨⟨h1, h2⟩, h3⟩, h4⟩, h5⟩, h6⟩ := hok
  intro a hd he hf
  subst he
  have := wpAny_of_T _ _ _ _ (wpPlanT_sound (n := a.tmps.size) h1 hf h2 h3 plan _ a w.drew h4 (Shut.none _) hd rfl hS (wpL_plan _ _ _ h6 h))
  rw [h5] at this
  exact this

end Go.Proofs.YtljgnocpijniiaaGreatDoor

namespace Go.Proofs.YtljgnocpijniiaaGreatDoor
open Go

/-- both ways, kept shut till they are wanted. -/
def both (X Y : Prop) (_ : Tok X) (_ : Tok Y) : Prop := X ∧ Y
theorem both_intro {X Y : Prop} {a : Tok X} {b : Tok Y} (h : X) (k : Y) : both X Y a b := ⟨h, k⟩
def planOk2 (ops : Array Oper) (i j : Nat) (pa pb : List (Nat × Bool)) : List (Nat × Bool) → Array Bool → Bool
  | [], listed => (Region.ready .any ops listed == [i, j]) && planOk ops pa (listed.setIfInBounds i true) && planOk ops pb (listed.setIfInBounds j true)
  | (k, true) :: r, listed => (Region.ready .any ops listed).contains k && Region.free .any ops listed k && planOk2 ops i j pa pb r (listed.setIfInBounds k true)
  | (k, false) :: r, listed => (Region.ready .any ops listed == [k]) && planOk2 ops i j pa pb r (listed.setIfInBounds k true)
theorem wpPlan2_sound {P : Program} {ops : Array Oper} {S : World → Prop} {Q : Env → World → Prop} {n i j : Nat} {pa pb : List (Nat × Bool)} (hs : Region.noSelect ops = true) (hf : dstsFit n ops = true) (hab : pa.length = pb.length) :
    ∀ (plan : List (Nat × Bool)) (listed : Array Bool) (a : Act) (w : World), planOk2 ops i j pa pb plan listed = true → a.defers = [] → a.tmps.size = n → S w →
    wpPlan P ops S (fun e w => wpPlan P ops S Q ((i, false) :: pa) e w ∧ wpPlan P ops S Q ((j, false) :: pb) e w) plan (envOf a) w →
    wpAnyH P .any ops (liftQ n (onlyN Q)) S (plan.length + (pa.length + 1)) listed a w
  | [], listed, a, w, hp, hd, hz, hS, h => by
    simp only [planOk2, Bool.and_eq_true] at hp
    obtain ⟨⟨hr, hpa⟩, hpb⟩ := hp
    have one : ∀ (k : Nat) (p : List (Nat × Bool)), planOk ops p (listed.setIfInBounds k true) = true → wpPlan P ops S Q ((k, false) :: p) (envOf a) w →
        wpOp P ops (liftQ n (onlyN Q)) k (fun a' w' => S w' ∧ wpAnyH P .any ops (liftQ n (onlyN Q)) S p.length (listed.setIfInBounds k true) a' w') a w := by
      intro k p hp h
      unfold wpPlan at h
      cases ho : ops[k]? with
      | none => simp [ho] at h
      | some o =>
        have hdst := dstsFit_mem hf (o := o) (by have := Array.mem_of_getElem? ho; simpa using this)
        simp only [ho] at h
        unfold wpOp
        simp only [ho]
        have step : ∀ v w', S w' ∧ wpPlan P ops S Q p (put (envOf a) o.dst v) w' → S w' ∧ wpAnyH P .any ops (liftQ n (onlyN Q)) S p.length (listed.setIfInBounds k true) (a.put o.dst v) w' := fun v w' h' =>
          ⟨h'.1, wpPlan_sound hs hf p _ _ w' hp (by rw [put_defers']; exact hd) (by rw [put_size]; exact hz) h'.1 (by rw [envOf_put (by rw [hz]; exact hdst)]; exact h'.2)⟩
        split at h
        · rename_i hg
          rw [if_pos (by simp [Region.wanted, hg])]
          exact .inl (wpO_sound step (by rw [eval_envOf]; exact h))
        · rename_i q want hg
          by_cases hy : yieldE ops (envOf a) q = some want
          · rw [if_pos (by simp [Region.wanted, hg, yielded_env, hy])]
            exact .inl (wpO_sound step (by rw [eval_envOf]; exact h.1 hy))
          · rw [if_neg (by simp [Region.wanted, hg, yielded_env, hy])]
            exact step _ _ ⟨hS, h.2 hy⟩
    rw [List.length_nil, Nat.zero_add]
    refine wpAnyH_all (rs := [i, j]) (by simpa using hr) (by simp) (fun k hk => ?_)
    have h : wpPlan P ops S Q ((i, false) :: pa) (envOf a) w ∧ wpPlan P ops S Q ((j, false) :: pb) (envOf a) w := h
    simp only [List.mem_cons, List.not_mem_nil, or_false] at hk
    rcases hk with rfl | rfl
    · exact one _ pa hpa h.1
    · rw [hab]; exact one _ pb hpb h.2
  | (i', true) :: r, listed, a, w, hp, hd, hz, hS, h => by
    simp only [planOk2, Bool.and_eq_true] at hp
    unfold wpPlan at h
    cases ho : ops[i']? with
    | none => simp [ho] at h
    | some o =>
      have hdst := dstsFit_mem hf (o := o) (by have := Array.mem_of_getElem? ho; simpa using this)
      simp only [ho] at h
      have fin : ∀ v, YieldsIf P ops S o v a → wpPlan P ops S (fun e w => wpPlan P ops S Q ((i, false) :: pa) e w ∧ wpPlan P ops S Q ((j, false) :: pb) e w) r (put (envOf a) o.dst v) w → wpAnyH P .any ops (liftQ n (onlyN Q)) S ((r.length + (pa.length + 1)) + 1) listed a w := fun v hy hk =>
        wpAnyH_take ho hs hp.1.2 hp.1.1 (fun c a w hq => hq.elim) hy hS
          (wpPlan2_sound hs hf hab r _ _ w hp.2 (by rw [put_defers']; exact hd) (by rw [put_size]; exact hz) hS (by rw [envOf_put (by rw [hz]; exact hdst)]; exact hk))
      rw [List.length_cons, show r.length + 1 + (pa.length + 1) = (r.length + (pa.length + 1)) + 1 by omega]
      split at h
      · rename_i hg
        rw [← eval_envOf] at h
        obtain ⟨v, hv, hk⟩ := run_yO h
        exact fin v (.inl ⟨by simp [Region.wanted, hg], hv⟩) hk
      · rename_i q want hg
        by_cases hy : yieldE ops (envOf a) q = some want
        · have h := h.1 hy
          rw [← eval_envOf] at h
          obtain ⟨v, hv, hk⟩ := run_yO h
          exact fin v (.inl ⟨by simp [Region.wanted, hg, yielded_env, hy], hv⟩) hk
        · exact fin undef (.inr ⟨by simp [Region.wanted, hg, yielded_env, hy], rfl⟩) (h.2 hy)
  | (i', false) :: r, listed, a, w, hp, hd, hz, hS, h => by
    simp only [planOk2, Bool.and_eq_true] at hp
    unfold wpPlan at h
    cases ho : ops[i']? with
    | none => simp [ho] at h
    | some o =>
      have hdst := dstsFit_mem hf (o := o) (by have := Array.mem_of_getElem? ho; simpa using this)
      simp only [ho] at h
      rw [List.length_cons, show r.length + 1 + (pa.length + 1) = (r.length + (pa.length + 1)) + 1 by omega]
      refine wpAnyH_all (rs := [i']) (by simpa using hp.1) (by simp) (fun k hk => ?_)
      obtain rfl : k = i' := by simpa using hk
      unfold wpOp
      simp only [ho]
      have step : ∀ v w', S w' ∧ wpPlan P ops S (fun e w => wpPlan P ops S Q ((i, false) :: pa) e w ∧ wpPlan P ops S Q ((j, false) :: pb) e w) r (put (envOf a) o.dst v) w' → S w' ∧ wpAnyH P .any ops (liftQ n (onlyN Q)) S (r.length + (pa.length + 1)) (listed.setIfInBounds k true) (a.put o.dst v) w' := fun v w' h' =>
        ⟨h'.1, wpPlan2_sound hs hf hab r _ _ w' hp.2 (by rw [put_defers']; exact hd) (by rw [put_size]; exact hz) h'.1 (by rw [envOf_put (by rw [hz]; exact hdst)]; exact h'.2)⟩
      split at h
      · rename_i hg
        rw [if_pos (by simp [Region.wanted, hg])]
        exact .inl (wpO_sound step (by rw [eval_envOf]; exact h))
      · rename_i q want hg
        by_cases hy : yieldE ops (envOf a) q = some want
        · rw [if_pos (by simp [Region.wanted, hg, yielded_env, hy])]
          exact .inl (wpO_sound step (by rw [eval_envOf]; exact h.1 hy))
        · rw [if_neg (by simp [Region.wanted, hg, yielded_env, hy])]
          exact step _ _ ⟨hS, h.2 hy⟩
theorem wpPlan_mono2 {P : Program} {ops : Array Oper} {S : World → Prop} {Q Q' : Env → World → Prop} (hq : ∀ e w, Q e w → Q' e w) : ∀ (plan : List (Nat × Bool)) (e : Env) (w : World), wpPlan P ops S Q plan e w → wpPlan P ops S Q' plan e w
  | [], e, w, h => hq e w h
  | (i, b) :: r, e, w, h => by
    have ih := fun e w => wpPlan_mono2 (P := P) (ops := ops) (S := S) hq r e w
    cases b
    · simp only [wpPlan] at h ⊢
      cases ho : ops[i]? with
      | none => simp [ho] at h
      | some o =>
        simp only [ho] at h ⊢
        split
        · rename_i hg
          simp only [hg] at h
          exact wpO_mono (fun v w' h' => ⟨h'.1, ih _ _ h'.2⟩) h
        · rename_i j want hg
          simp only [hg] at h
          exact guardK_mono' (wpO_mono fun v w' h' => ⟨h'.1, ih _ _ h'.2⟩) (fun h' => ih _ _ h') h
    · simp only [wpPlan] at h ⊢
      cases ho : ops[i]? with
      | none => simp [ho] at h
      | some o =>
        simp only [ho] at h ⊢
        split
        · rename_i hg
          simp only [hg] at h
          exact yO_mono' (fun v h' => ih _ _ h') h
        · rename_i j want hg
          simp only [hg] at h
          exact guardK_mono' (yO_mono' fun v h' => ih _ _ h') (ih _ _) h
/-- by a plan, and behind it either of two first. -/
theorem wpDraw_two {P : Program} {ops : Array Oper} {Q : Env → World → Prop} {e : Env} {w : World} (S : World → Prop) (plan : List (Nat × Bool)) (i j : Nat) (pa pb : List (Nat × Bool))
    (hok : (Region.noSelect ops && planOk2 ops i j pa pb plan (Array.replicate ops.size false) && (plan.length + (pa.length + 1) == ops.size) && (pa.length == pb.length) && (plan ++ (i, false) :: (j, false) :: (pa ++ pb)).all fun x => decide (x.1 < ops.size)) = true) (hS : S w.drew)
    (h : wpL P ops S (fun e w => both (wpL P ops S Q (planL ops ((i, false) :: pa)) e w) (wpL P ops S Q (planL ops ((j, false) :: pb)) e w) .mk .mk) (planL ops plan) e w.drew) {tk : Tok (Q, e, w)} : wpDraw P ops Q e w tk := by
  simp only [Bool.and_eq_true, beq_iff_eq, List.all_append, List.all_cons] at hok
  obtain ⟨⟨⟨⟨h1, h2⟩, h3⟩, h4⟩, h5, h6, h7, h8, h9⟩ := hok
  intro a hd he hf
  subst he
  have hpl := wpL_plan plan _ _ h5 h
  have hpl2 : wpPlan P ops S (fun e w => wpPlan P ops S Q ((i, false) :: pa) e w ∧ wpPlan P ops S Q ((j, false) :: pb) e w) plan (envOf a) w.drew := by
    refine wpPlan_mono2 (fun e w hb => ?_) plan _ _ hpl
    obtain ⟨ha, hb⟩ := hb
    exact ⟨wpL_plan _ _ _ (by simp only [List.all_cons, Bool.and_eq_true]; exact ⟨h6, h8⟩) ha, wpL_plan _ _ _ (by simp only [List.all_cons, Bool.and_eq_true]; exact ⟨h7, h9⟩) hb⟩
  have := wpAny_of_held _ _ _ _ (wpPlan2_sound (n := a.tmps.size) h1 hf h4 plan _ a w.drew h2 hd rfl hS hpl2)
  rw [h3] at this
  exact this

end Go.Proofs.YtljgnocpijniiaaGreatDoor
