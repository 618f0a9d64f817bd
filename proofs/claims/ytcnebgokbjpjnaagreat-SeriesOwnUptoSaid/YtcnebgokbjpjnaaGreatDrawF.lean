/- A region that draws its order and ends in one store behind all the rest: by a plan; behind that store nothing need hold. -/
import Derived.Test.YtcnebgokbjpjnaaGreatMem
set_option linter.unusedVariables false
namespace Go.Proofs.YtcnebgokbjpjnaaGreat
open Go

section
variable {P : Program} {ops : Array Oper} {Q : Exit → Act → World → Prop} {md : Region.Mode} {S : World → Prop} {fin : Nat}
def wpAnyL (P : Program) (md : Region.Mode) (ops : Array Oper) (Q : Exit → Act → World → Prop) (S : World → Prop) (fin : Nat) : Nat → Array Bool → Act → World → Prop
  | 0, listed, a, w => Region.ready md ops listed = [] ∧ Q .normal a w
  | fuel + 1, listed, a, w =>
    (Region.ready md ops listed = [] → Q .normal a w) ∧
    ∀ i ∈ Region.ready md ops listed, wpOp P ops Q i (fun a' w' => (i ≠ fin → S w') ∧ wpAnyL P md ops Q S fin fuel (listed.setIfInBounds i true) a' w') a w
theorem wpAny_of_L : ∀ (fuel : Nat) (listed : Array Bool) (a : Act) (w : World), wpAnyL P md ops Q S fin fuel listed a w → wpAny P md ops Q fuel listed a w
  | 0, _, _, _, h => h
  | fuel + 1, _, _, _, h => ⟨h.1, fun i hi => wpOp_mono (fun a' w' h' => wpAny_of_L fuel _ a' w' h'.2) (h.2 i hi)⟩
/-- what is listed has all ahead of it listed. -/
def Shut (md : Region.Mode) (ops : Array Oper) (listed : Array Bool) : Prop := ∀ (j : Nat) (oj : Oper), ops[j]? = some oj → listed.getD j false = true → ∀ e ∈ oj.after, Region.binds md e = true → listed.getD e.on false = true
theorem Shut.set {listed : Array Bool} {j : Nat} (h : Shut md ops listed) (hj : j ∈ Region.ready md ops listed) : Shut md ops (listed.setIfInBounds j true) := by
  intro k ok hk hl e he hb
  by_cases hkj : k = j
  · subst hkj
    obtain ⟨_, o, ho, hall⟩ := mem_ready.1 hj
    rw [hk] at ho
    injection ho with ho
    subst ho
    exact getD_set_true (hall e he hb)
  · rw [getD_set_ne false (Ne.symm hkj)] at hl
    exact getD_set_true (h k ok hk hl e he hb)
theorem Shut.none (n : Nat) : Shut md ops (Array.replicate n false) := by
  intro j oj _ hl
  rw [Array.getD_eq_getD_getElem?, Array.getElem?_replicate] at hl
  split at hl <;> simp at hl
/-- each one but the last has a later one that waits for it. -/
def finOk (md : Region.Mode) (ops : Array Oper) (fin : Nat) : Bool :=
  (fin + 1 == ops.size) && (List.range fin).all fun i => (List.range ops.size).any fun j => decide (i < j) && match ops[j]? with
    | some o => o.after.toList.any fun e => Region.binds md e && e.on == i
    | none => false
theorem finOk_all (h : finOk md ops fin = true) {listed : Array Bool} (hc : Shut md ops listed) (hr : fin ∈ Region.ready md ops listed) : ∀ (d i : Nat), i + d + 1 = fin → listed.getD i false = true := by
  simp only [finOk, Bool.and_eq_true, beq_iff_eq, List.all_eq_true, List.mem_range, List.any_eq_true, decide_eq_true_eq] at h
  intro d
  induction d using Nat.strongRecOn with
  | ind d ih =>
    intro i hd
    obtain ⟨j, hj, hij, hm⟩ := h.2 i (by omega)
    split at hm
    · rename_i o ho
      simp only [List.any_eq_true, Bool.and_eq_true, beq_iff_eq] at hm
      obtain ⟨e, he, hb, heq⟩ := hm
      by_cases hjf : j = fin
      · subst hjf
        obtain ⟨_, o', ho', hall⟩ := mem_ready.1 hr
        rw [ho] at ho'
        injection ho' with ho'
        subst ho'
        rw [← heq]
        exact hall e (by simpa using he) hb
      · rw [← heq]
        exact hc j o ho (ih (fin - 1 - j) (by omega) j (by omega)) e (by simpa using he) hb
    · cases hm
theorem finOk_spec (h : finOk md ops fin = true) {i : Nat} {oi : Oper} (hi : ops[i]? = some oi) (hne : i ≠ fin) {listed : Array Bool} (hc : Shut md ops listed) (hun : listed.getD i true = false) : fin ∉ Region.ready md ops listed := by
  intro hr
  have hlt : i < ops.size := (Array.getElem?_eq_some_iff.1 hi).1
  have hs : fin + 1 = ops.size := by
    simp only [finOk, Bool.and_eq_true, beq_iff_eq] at h
    exact h.1
  have h1 := finOk_all h hc hr (fin - 1 - i) i (by omega)
  rcases Nat.lt_or_ge i listed.size with h' | h'
  · simp [h'] at hun h1; rw [hun] at h1; cases h1
  · simp [Array.getElem?_eq_none h'] at h1
theorem wpAnyL_first {i : Nat} {oi : Oper} {v : Value} (hfin : finOk md ops fin = true) (hnf : i ≠ fin) (hi : ops[i]? = some oi) (hsel : ∀ (j : Nat) (o : Oper) cs b, ops[j]? = some o → o.op ≠ .select cs b)
    (hQ : ∀ c a w, Q (.panic c) (a.put oi.dst v) w → Q (.panic c) a w) :
    ∀ (fuel : Nat) (listed : Array Bool) (a : Act) (w : World),
      (∀ j oj, ops[j]? = some oj → j ≠ i → listed.getD j true = false → (∀ e ∈ oj.after, Region.binds md e = true → e.on ≠ i) → oi.apart ops oj = true) →
      Shut md ops listed → i ∈ Region.ready md ops listed → YieldsIf P ops S oi v a → S w →
      wpAnyL P md ops Q S fin fuel (listed.setIfInBounds i true) (a.put oi.dst v) w → wpAnyL P md ops Q S fin (fuel + 1) listed a w := by
  intro fuel
  induction fuel with
  | zero =>
    intro listed a w _ hc hr hy hS H
    refine ⟨fun h => (by rw [h] at hr; cases hr), fun j hj => ?_⟩
    by_cases hji : j = i
    · subst hji; exact hy.wpOp hi hS ⟨fun _ => hS, H⟩
    · have := ready_mono hj hji
      rw [H.1] at this
      cases this
  | succ fuel ih =>
    intro listed a w hfree hc hr hy hS H
    refine ⟨fun h => (by rw [h] at hr; cases hr), fun j hj => ?_⟩
    by_cases hji : j = i
    · subst hji; exact hy.wpOp hi hS ⟨fun _ => hS, H⟩
    · have hun := (mem_ready.1 hr).1
      have hjf : j ≠ fin := fun he => finOk_spec hfin hi hnf hc hun (he ▸ hj)
      have h1 := H.2 j (ready_mono hj hji)
      obtain ⟨hjun, oj, hoj, hall⟩ := mem_ready.1 hj
      have hnot : ∀ e ∈ oj.after, Region.binds md e = true → e.on ≠ i := fun e he hb heq => by
        have h1 := hall e he hb
        have h0 := hun
        rw [heq] at h1
        rcases Nat.lt_or_ge i listed.size with h' | h'
        · simp [h'] at h0 h1; rw [h0] at h1; cases h1
        · simp [Array.getElem?_eq_none h'] at h1
      have h2 := wpOp_putIf hoj (hfree j oj hoj hji hjun hnot) (fun cs b => hsel i oi cs b hi) (fun cs b => hsel j oj cs b hoj) hQ hy h1
      have hfree' : ∀ k ok, ops[k]? = some ok → k ≠ i → (listed.setIfInBounds j true).getD k true = false →
          (∀ e ∈ ok.after, Region.binds md e = true → e.on ≠ i) → oi.apart ops ok = true := fun k ok hk hki hun hno => by
        refine hfree k ok hk hki ?_ hno
        by_cases hjk : j = k
        · subst hjk; exact hjun
        · rw [getD_set_ne true hjk] at hun; exact hun
      refine wpOp_mono (fun a' w' h3 => ⟨h3.2.1, ih (listed.setIfInBounds j true) a' w' hfree' (hc.set hj) (ready_mono hr (Ne.symm hji)) h3.1 (h3.2.1 hjf) ?_⟩) h2
      rw [Array.setIfInBounds_comm _ _ hji]
      exact h3.2.2
end

def planOkF (ops : Array Oper) (fin : Nat) : List (Nat × Bool) → Array Bool → Bool
  | [], listed => (Region.ready .any ops listed == [fin]) && (Region.ready .any ops (listed.setIfInBounds fin true)).isEmpty
  | (i, true) :: r, listed => (i != fin) && (Region.ready .any ops listed).contains i && Region.free .any ops listed i && planOkF ops fin r (listed.setIfInBounds i true)
  | (i, false) :: r, listed => (i != fin) && (Region.ready .any ops listed == [i]) && planOkF ops fin r (listed.setIfInBounds i true)
theorem wpPlanF_sound {P : Program} {ops : Array Oper} {S : World → Prop} {Q : Env → World → Prop} {n fin : Nat} (hs : Region.noSelect ops = true) (hf : dstsFit n ops = true) (hfin : finOk .any ops fin = true) :
    ∀ (plan : List (Nat × Bool)) (listed : Array Bool) (a : Act) (w : World), planOkF ops fin plan listed = true → Shut .any ops listed → a.defers = [] → a.tmps.size = n → S w → wpPlan P ops S (fun e w => wpOs P ops Q (ops[fin]?).toList e w) plan (envOf a) w →
    wpAnyL P .any ops (liftQ n (onlyN Q)) S fin (plan.length + 1) listed a w
  | [], listed, a, w, hp, hc, hd, hz, hS, h => by
    simp only [planOkF, Bool.and_eq_true] at hp
    unfold wpPlan at h
    cases ho : ops[fin]? with
    | none =>
      simp only [finOk, Bool.and_eq_true, beq_iff_eq] at hfin
      have hge := Array.getElem?_eq_none_iff.1 ho
      omega
    | some o =>
      have hdst := dstsFit_mem hf (o := o) (by have := Array.mem_of_getElem? ho; simpa using this)
      have hr : Region.ready .any ops listed = [fin] := by simpa using hp.1
      refine ⟨fun h0 => (by rw [hr] at h0; cases h0), fun k hk => ?_⟩
      obtain rfl : k = fin := by rw [hr] at hk; simpa using hk
      rw [ho] at h
      simp only [Option.toList_some, wpOs] at h
      have step : ∀ v w', Q (put (envOf a) o.dst v) w' → (k ≠ k → S w') ∧ wpAnyL P .any ops (liftQ n (onlyN Q)) S k 0 (listed.setIfInBounds k true) (a.put o.dst v) w' := fun v w' h' =>
        ⟨fun hne => absurd rfl hne, by simpa using hp.2, by rw [put_defers']; exact hd, by rw [put_size]; exact hz, by rw [envOf_put (by rw [hz]; exact hdst)]; exact h'⟩
      unfold wpOp
      simp only [ho]
      split at h
      · rename_i hg
        rw [if_pos (by simp [Region.wanted, hg])]
        exact .inl (wpO_sound step (by rw [eval_envOf]; exact h))
      · rename_i j want hg
        by_cases hy : yieldE ops (envOf a) j = some want
        · rw [if_pos (by simp [Region.wanted, hg, yielded_env, hy])]
          exact .inl (wpO_sound step (by rw [eval_envOf]; exact h.1 hy))
        · rw [if_neg (by simp [Region.wanted, hg, yielded_env, hy])]
          exact step _ _ (h.2 hy)
  | (i, true) :: r, listed, a, w, hp, hc, hd, hz, hS, h => by
    simp only [planOkF, Bool.and_eq_true, bne_iff_ne, ne_eq] at hp
    unfold wpPlan at h
    cases ho : ops[i]? with
    | none => simp [ho] at h
    | some o =>
      have hdst := dstsFit_mem hf (o := o) (by have := Array.mem_of_getElem? ho; simpa using this)
      simp only [ho] at h
      have fin : ∀ v, YieldsIf P ops S o v a → wpPlan P ops S (fun e w => wpOs P ops Q (ops[fin]?).toList e w) r (put (envOf a) o.dst v) w → wpAnyL P .any ops (liftQ n (onlyN Q)) S fin (r.length + 1 + 1) listed a w := fun v hy hk =>
        wpAnyL_first hfin hp.1.1.1 ho (Region.noSelect_spec hs) (fun c a w hq => hq.elim) _ listed a w (Region.free_spec ho hp.1.2) hc (by simpa using hp.1.1.2) hy hS
          (wpPlanF_sound hs hf hfin r _ _ w hp.2 (hc.set (by simpa using hp.1.1.2)) (by rw [put_defers']; exact hd) (by rw [put_size]; exact hz) hS (by rw [envOf_put (by rw [hz]; exact hdst)]; exact hk))
      split at h
      · rename_i hg
        rw [← eval_envOf] at h
        obtain ⟨v, hv, hk⟩ := run_yO h
        exact fin v (.inl ⟨by simp [Region.wanted, hg], hv⟩) hk
      · rename_i j want hg
        by_cases hy : yieldE ops (envOf a) j = some want
        · have h := h.1 hy
          rw [← eval_envOf] at h
          obtain ⟨v, hv, hk⟩ := run_yO h
          exact fin v (.inl ⟨by simp [Region.wanted, hg, yielded_env, hy], hv⟩) hk
        · exact fin undef (.inr ⟨by simp [Region.wanted, hg, yielded_env, hy], rfl⟩) (h.2 hy)
  | (i, false) :: r, listed, a, w, hp, hc, hd, hz, hS, h => by
    simp only [planOkF, Bool.and_eq_true, bne_iff_ne, ne_eq] at hp
    unfold wpPlan at h
    cases ho : ops[i]? with
    | none => simp [ho] at h
    | some o =>
      have hdst := dstsFit_mem hf (o := o) (by have := Array.mem_of_getElem? ho; simpa using this)
      simp only [ho] at h
      have hr : Region.ready .any ops listed = [i] := by simpa using hp.1.2
      refine ⟨fun h0 => (by rw [hr] at h0; cases h0), fun k hk => ?_⟩
      obtain rfl : k = i := by rw [hr] at hk; simpa using hk
      unfold wpOp
      simp only [ho]
      have step : ∀ v w', S w' ∧ wpPlan P ops S (fun e w => wpOs P ops Q (ops[fin]?).toList e w) r (put (envOf a) o.dst v) w' → (k ≠ fin → S w') ∧ wpAnyL P .any ops (liftQ n (onlyN Q)) S fin (r.length + 1) (listed.setIfInBounds k true) (a.put o.dst v) w' := fun v w' h' =>
        ⟨fun _ => h'.1, wpPlanF_sound hs hf hfin r _ _ w' hp.2 (hc.set (by rw [hr]; simp)) (by rw [put_defers']; exact hd) (by rw [put_size]; exact hz) h'.1 (by rw [envOf_put (by rw [hz]; exact hdst)]; exact h'.2)⟩
      split at h
      · rename_i hg
        rw [if_pos (by simp [Region.wanted, hg])]
        exact .inl (wpO_sound step (by rw [eval_envOf]; exact h))
      · rename_i j want hg
        by_cases hy : yieldE ops (envOf a) j = some want
        · rw [if_pos (by simp [Region.wanted, hg, yielded_env, hy])]
          exact .inl (wpO_sound step (by rw [eval_envOf]; exact h.1 hy))
        · rw [if_neg (by simp [Region.wanted, hg, yielded_env, hy])]
          exact step _ _ ⟨hS, h.2 hy⟩
/-- the region, by a plan of all but the last one, and then that. -/
theorem wpDraw_fin {P : Program} {ops : Array Oper} {Q : Env → World → Prop} {e : Env} {w : World} (S : World → Prop) (plan : List (Nat × Bool)) (fin : Nat)
    (hok : (Region.noSelect ops && finOk .any ops fin && planOkF ops fin plan (Array.replicate ops.size false) && (plan.length + 1 == ops.size) && plan.all fun x => decide (x.1 < ops.size)) = true) (hS : S w.drew)
    (h : wpL P ops S (fun e w => wpOs P ops Q (ops[fin]?).toList e w) (planL ops plan) e w.drew) {tk : Tok (Q, e, w)} : wpDraw P ops Q e w tk := by
  simp only [Bool.and_eq_true, beq_iff_eq] at hok
  intro a hd he hf
  subst he
  have := wpAny_of_L _ _ _ _ (wpPlanF_sound (n := a.tmps.size) hok.1.1.1.1 hf hok.1.1.1.2 plan _ a w.drew hok.1.1.2 (Shut.none _) hd rfl hS (wpL_plan plan _ _ hok.2 h))
  rw [hok.1.2] at this
  exact this

end Go.Proofs.YtcnebgokbjpjnaaGreat
