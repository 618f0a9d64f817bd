/- The law SeriesLast in plain terms: of the puts of each time the last one lies there. -/
import Derived.Test.YtcnebgokbjpjnaaGreatSerSpec
set_option linter.unusedVariables false
set_option linter.unusedSimpArgs false
set_option maxRecDepth 100000
namespace Go.Proofs.YtcnebgokbjpjnaaGreat
open Go

/-- one weirlaw08.Step, as a walk reads it. -/
structure StepV where
  k : Int
  t : Int
  u : Int
  v : Int × Int
  A : Option Addr
  m : Nat
  c : Nat
  l : List Smp
def StepV.cells (o : StepV) : List Value := [.int .i64 o.k, .int .i64 o.t, .int .i64 o.u, .int .u8 o.v.1, .int .i64 o.v.2, .slice o.A o.m o.c]
structure StepV.Ok (w : World) (o : StepV) : Prop where
  t0 : -9223372036854775808 ≤ o.t ∧ o.t < 9223372036854775808
  u0 : -9223372036854775808 ≤ o.u ∧ o.u < 9223372036854775808
  v0 : VOk o.v
  rd : Rd w o.A o.m 3 (o.l.flatMap scells)
  smp : ∀ s ∈ o.l, SOk s
def step0 : StepV := ⟨3, 0, 0, (0, 0), none, 0, 0, []⟩
/-- what a step leaves, loads left out. -/
def sStep (l : List Smp) (o : StepV) : List Smp := if o.k = 0 then sPut l o.t o.v else if o.k = 1 then sCut l o.t else if o.k = 2 then sDel l o.t o.u else l
theorem Rise.step {l : List Smp} (h : Rise l) (o : StepV) : Rise (sStep l o) := by
  unfold sStep
  split
  · exact h.put _ _
  split
  · exact h.cut _
  split
  · exact h.del _ _
  exact h
theorem Rise.run : ∀ (ops : List StepV) {l : List Smp}, Rise l → Rise (ops.foldl sStep l)
  | [], _, h => h
  | o :: ops, _, h => Rise.run ops (h.step o)
theorem step_len (l : List Smp) (hr : Rise l) (o : StepV) : (sStep l o).length ≤ l.length + 1 := by
  unfold sStep
  split
  · exact put_len_le _ _ hr
  split
  · exact Nat.le_succ_of_le (List.length_filter_le _ _)
  split
  · exact Nat.le_succ_of_le (List.length_filter_le _ _)
  exact Nat.le_succ _
theorem run_len : ∀ (ops : List StepV) {l : List Smp}, Rise l → (ops.foldl sStep l).length ≤ l.length + ops.length
  | [], _, _ => Nat.le_refl _
  | o :: ops, l, h => by
    have h1 := run_len ops (h.step o)
    have h2 := step_len l h o
    simp only [List.foldl_cons, List.length_cons] at h1 ⊢
    omega
def isPut (t : Int) (o : StepV) : Bool := decide (o.k = 0) && decide (o.t = t)
def isGone (t : Int) (o : StepV) : Bool := (decide (o.k = 1) && decide (o.t = t)) || (decide (o.k = 2) && (decide (o.t ≤ t) && decide (t < o.u)))
theorem get_step {l : List Smp} (h : Rise l) {t : Int} {o : StepV} (hp : isPut t o = false) : sGet (sStep l o) t = if isGone t o then none else sGet l t := by
  simp only [isPut, Bool.and_eq_false_iff, decide_eq_false_iff_not] at hp
  unfold sStep isGone
  by_cases h0 : o.k = 0
  · have ht : ¬ t = o.t := by
      rcases hp with hp | hp
      · exact absurd h0 hp
      · exact fun e => hp e.symm
    rw [if_pos h0, get_put h, if_neg ht]
    simp [h0]
  · by_cases h1 : o.k = 1
    · rw [if_neg h0, if_pos h1, get_cut h]
      have h2 : ¬ o.k = 2 := by omega
      by_cases ht : t = o.t
      · subst ht; simp [h1]
      · have ht' : ¬ o.t = t := fun e => ht e.symm
        simp [h1, ht, ht']
    · by_cases h2 : o.k = 2
      · rw [if_neg h0, if_neg h1, if_pos h2, get_del h]
        by_cases ht : o.t ≤ t ∧ t < o.u
        · rw [if_pos ht]; simp [h2, ht.1, ht.2]
        · rw [if_neg ht]
          have : (decide (o.t ≤ t) && decide (t < o.u)) = false := by
            rw [Bool.and_eq_false_iff, decide_eq_false_iff_not, decide_eq_false_iff_not]; omega
          simp [h2, this]
      · rw [if_neg h0, if_neg h1, if_neg h2]
        simp [h1, h2]
theorem get_run : ∀ (ops : List StepV) {l : List Smp}, Rise l → ∀ {t : Int}, ops.any (isPut t) = false → sGet (ops.foldl sStep l) t = if ops.any (isGone t) then none else sGet l t
  | [], _, _, _, _ => by simp
  | o :: ops, l, h, t, hp => by
    simp only [List.any_cons, Bool.or_eq_false_iff] at hp
    rw [List.foldl_cons, get_run ops (h.step o) hp.2, get_step h hp.1, List.any_cons]
    cases ops.any (isGone t) <;> cases isGone t o <;> simp
theorem any_last : ∀ (ops : List StepV) {t : Int}, ops.any (isPut t) = true → ∃ i, i < ops.length ∧ isPut t (ops.getD i step0) = true ∧ (ops.drop (i + 1)).any (isPut t) = false
  | [], _, h => by simp at h
  | o :: ops, t, h => by
    cases hr : ops.any (isPut t) with
    | true =>
      obtain ⟨i, h1, h2, h3⟩ := any_last ops hr
      exact ⟨i + 1, by simpa using h1, by simpa using h2, by simpa using h3⟩
    | false =>
      rw [List.any_cons, hr, Bool.or_false] at h
      exact ⟨0, by simp, by simpa using h, by simpa using hr⟩
/-- of the puts the last one of its time, that is not gone. -/
def stays (ops : List StepV) (i : Nat) : Bool := decide ((ops.getD i step0).k = 0) && (!(ops.drop (i + 1)).any (isPut (ops.getD i step0).t) && !(ops.drop (i + 1)).any (isGone (ops.getD i step0).t))
theorem stepD_lt {ops : List StepV} {i : Nat} (h : i < ops.length) : ops.getD i step0 = ops[i] := by rw [List.getD_eq_getElem?_getD, List.getElem?_eq_getElem h]; rfl
theorem get_at {ops : List StepV} {i : Nat} (hi : i < ops.length) (hk : (ops.getD i step0).k = 0) (hl : (ops.drop (i + 1)).any (isPut (ops.getD i step0).t) = false) :
    sGet (ops.foldl sStep []) (ops.getD i step0).t = if (ops.drop (i + 1)).any (isGone (ops.getD i step0).t) then none else some (ops.getD i step0).v := by
  have hsp : ops = ops.take i ++ ops.getD i step0 :: ops.drop (i + 1) := by
    rw [stepD_lt hi, ← List.drop_eq_getElem_cons hi, List.take_append_drop]
  have hr : Rise ((ops.take i).foldl sStep []) := Rise.run _ Rise.nil
  conv => lhs; rw [hsp]
  have h1 : sStep ((ops.take i).foldl sStep []) (ops.getD i step0) = sPut ((ops.take i).foldl sStep []) (ops.getD i step0).t (ops.getD i step0).v := by rw [sStep, if_pos hk]
  rw [List.foldl_append, List.foldl_cons, ← hsp, get_run _ (hr.step _) hl, h1, get_put hr, if_pos rfl]
theorem nodup_le {α : Type} [BEq α] [LawfulBEq α] : ∀ {l m : List α}, l.Nodup → (∀ x ∈ l, x ∈ m) → l.length ≤ m.length
  | [], _, _, _ => Nat.zero_le _
  | x :: l, m, hn, hs => by
    obtain ⟨h1, h2⟩ := List.nodup_cons.1 hn
    have hx : x ∈ m := hs x (by simp)
    have := nodup_le (l := l) (m := m.erase x) h2 (fun y hy => (List.mem_erase_of_ne (fun e : y = x => h1 (by rw [← e]; exact hy))).2 (hs y (List.mem_cons_of_mem _ hy)))
    rw [List.length_erase_of_mem hx] at this
    have hm : 0 < m.length := List.length_pos_of_mem hx
    rw [List.length_cons]; omega
/-- as many stay as lie there. -/
theorem stays_len (ops : List StepV) : ((List.range ops.length).filter (stays ops)).length = (ops.foldl sStep []).length := by
  have hr : Rise (ops.foldl sStep []) := Rise.run _ Rise.nil
  have spec : ∀ i ∈ (List.range ops.length).filter (stays ops), i < ops.length ∧ (ops.getD i step0).k = 0 ∧ (ops.drop (i + 1)).any (isPut (ops.getD i step0).t) = false ∧ (ops.drop (i + 1)).any (isGone (ops.getD i step0).t) = false := by
    intro i hi
    simp only [List.mem_filter, List.mem_range, stays, Bool.and_eq_true, decide_eq_true_eq, Bool.not_eq_true'] at hi
    exact ⟨hi.1, hi.2.1, hi.2.2.1, hi.2.2.2⟩
  have n1 : (((List.range ops.length).filter (stays ops)).map (fun i => (ops.getD i step0).t)).Nodup := by
    refine List.pairwise_map.2 ?_
    refine List.Pairwise.imp_of_mem ?_ (List.Pairwise.filter _ List.pairwise_lt_range)
    intro i j hi hj hij he
    obtain ⟨i1, i2, i3, i4⟩ := spec i hi
    obtain ⟨j1, j2, j3, j4⟩ := spec j hj
    have := List.any_eq_false.1 i3 (ops.getD j step0) (by
      rw [stepD_lt j1]
      refine List.mem_of_getElem? (i := j - (i + 1)) ?_
      rw [List.getElem?_drop, show i + 1 + (j - (i + 1)) = j by omega, List.getElem?_eq_getElem j1])
    simp only [isPut, Bool.and_eq_true, decide_eq_true_eq, not_and] at this
    exact this j2 he.symm
  have n2 : ((ops.foldl sStep []).map (·.1)).Nodup := by
    refine List.pairwise_map.2 (List.Pairwise.imp ?_ hr)
    intro a b h; omega
  have s1 : ∀ x ∈ ((List.range ops.length).filter (stays ops)).map (fun i => (ops.getD i step0).t), x ∈ (ops.foldl sStep []).map (·.1) := by
    intro x hx
    obtain ⟨i, hi, rfl⟩ := List.mem_map.1 hx
    obtain ⟨i1, i2, i3, i4⟩ := spec i hi
    have h := get_at i1 i2 i3
    rw [i4, if_neg (by simp), get_some hr] at h
    exact List.mem_map.2 ⟨_, h, rfl⟩
  have s2 : ∀ x ∈ (ops.foldl sStep []).map (·.1), x ∈ ((List.range ops.length).filter (stays ops)).map (fun i => (ops.getD i step0).t) := by
    intro x hx
    obtain ⟨⟨t, v⟩, hm, rfl⟩ := List.mem_map.1 hx
    have hg := (get_some hr).2 hm
    cases ha : ops.any (isPut t) with
    | false =>
      rw [get_run ops Rise.nil ha] at hg
      split at hg <;> cases hg
    | true =>
      obtain ⟨i, i1, i2, i3⟩ := any_last ops ha
      simp only [isPut, Bool.and_eq_true, decide_eq_true_eq] at i2
      obtain ⟨k0, t0⟩ := i2
      rw [← t0] at i3 hg
      have h := get_at i1 k0 i3
      rw [hg] at h
      refine List.mem_map.2 ⟨i, ?_, t0⟩
      simp only [List.mem_filter, List.mem_range, stays, Bool.and_eq_true, decide_eq_true_eq, Bool.not_eq_true']
      refine ⟨i1, k0, i3, ?_⟩
      cases hgo : (ops.drop (i + 1)).any (isGone (ops.getD i step0).t) with
      | false => rfl
      | true => rw [hgo, if_pos rfl] at h; cases h
  have a := nodup_le n1 s1
  have b := nodup_le n2 s2
  simp only [List.length_map] at a b
  omega

end Go.Proofs.YtcnebgokbjpjnaaGreat
