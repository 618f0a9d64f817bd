/- What values are written as is read as them. -/
import Derived.Test.YtpocfghkolppmaaBackT
set_option linter.unusedVariables false
set_option linter.unusedSimpArgs false
set_option maxRecDepth 100000
namespace Go.Proofs.Ytpocfghkolppmaa
open Go

theorem val_back {s : VS} {v : Int × Int} (hv : VOk v) (hr : VRight v) (ha : -9223372036854775808 ≤ s.ahead ∧ s.ahead < 9223372036854775808) {Z : List Int} (hok : WOq s.q) (h : Exq (vput s v) Z) :
    Exq s.q Z ∧ rVal (rsq Z s.q) s.last s.ahead = (rsq Z (vput s v), v) := by
  unfold vput at h ⊢
  unfold rVal
  by_cases c0 : v = s.last
  · rw [if_pos c0] at h ⊢
    refine ⟨h.back hok, ?_⟩
    rw [bit_q hok h, if_pos (show (0 : Int) % 2 = 0 by decide), c0]
  rw [if_neg c0] at h ⊢
  by_cases c1 : v.1 = 0
  · rw [if_pos c1] at h ⊢
    have hz := zrange v.2 s.ahead
    have hz64 := vsize_64 hz.1 hz.2
    have hzp := vsize_pos (foldI (IntKind.i64.wrap (v.2 - s.ahead)))
    have hzu := vsize_up hz.1
    have hw : -9223372036854775808 ≤ IntKind.i64.wrap (v.2 - s.ahead) ∧ IntKind.i64.wrap (v.2 - s.ahead) < 9223372036854775808 := by rw [wrap_i64]; omega
    have huf := unfoldI_foldI hw.1 hw.2
    have hsum : IntKind.i64.wrap (s.ahead + IntKind.i64.wrap (v.2 - s.ahead)) = v.2 := by have := hv.2; rw [wrap_i64, wrap_i64]; omega
    generalize foldI (IntKind.i64.wrap (v.2 - s.ahead)) = z at *
    rw [lead2] at h ⊢
    have k1 := hok.push 1 1
    have k2 := k1.push 0 1
    have k3 := k2.push ((vsize z : Int) - 1) 6
    have e3 := h.back k3
    have e2 := e3.back k2
    have e1 := e2.back k1
    refine ⟨e1.back hok, ?_⟩
    have hb : brought ((vsize z : Int) - 1 + 1) = vsize z := by
      unfold brought
      rw [show (vsize z : Int) - 1 + 1 = (vsize z : Int) by omega]
      split <;> (try split) <;> omega
    rw [bit_q hok e1, if_neg (show ¬ (1 : Int) % 2 = 0 by decide)]
    simp only
    rw [bit_q k1 e2, if_pos (show (0 : Int) % 2 = 0 by decide)]
    simp only
    rw [tail_q (n := 6) (k := 6) k2 (by decide) e3 (by omega) (by show (vsize z : Int) - 1 < 64; omega)]
    simp only
    rw [tail_q (n := (vsize z : Int) - 1 + 1) (k := vsize z) k3 hb h hz.1 hzu]
    simp only
    rw [huf, hsum, ← c1]
  rw [if_neg c1] at h ⊢
  have hr12 : (v.1 = 1 ∨ v.1 = 2) ∧ v.2 = 0 := hr.resolve_left c1
  by_cases c2 : v.1 = 1
  · rw [if_pos c2, lead6] at h
    rw [if_pos c2, lead6]
    have k1 := hok.push 1 1
    have k2 := k1.push 1 1
    have e2 := h.back k2
    have e1 := e2.back k1
    refine ⟨e1.back hok, ?_⟩
    rw [bit_q hok e1, if_neg (show ¬ (1 : Int) % 2 = 0 by decide)]
    simp only
    rw [bit_q k1 e2, if_neg (show ¬ (1 : Int) % 2 = 0 by decide)]
    simp only
    rw [bit_q k2 h]
    simp only [Prod.mk.injEq, true_and]
    exact Prod.ext (by show 1 + (0 : Int) % 2 = v.1; omega) (by show (0 : Int) = v.2; omega)
  · rw [if_neg c2, lead7] at h
    rw [if_neg c2, lead7]
    have k1 := hok.push 1 1
    have k2 := k1.push 1 1
    have e2 := h.back k2
    have e1 := e2.back k1
    refine ⟨e1.back hok, ?_⟩
    rw [bit_q hok e1, if_neg (show ¬ (1 : Int) % 2 = 0 by decide)]
    simp only
    rw [bit_q k1 e2, if_neg (show ¬ (1 : Int) % 2 = 0 by decide)]
    simp only
    rw [bit_q k2 h]
    simp only [Prod.mk.injEq, true_and]
    exact Prod.ext (by show 1 + (1 : Int) % 2 = v.1; omega) (by show (0 : Int) = v.2; omega)

theorem vErr_rights {l : List (Int × Int)} (h : vErr l = none) : ∀ i, i < l.length → VRight (l.getD i (0, 0)) := by
  intro i hi
  by_cases hr : VRight (l.getD i (0, 0))
  · exact hr
  · rcases Nat.lt_or_ge 1048576 l.length with hl | hl
    · rw [vErr_long hl] at h; cases h
    · rw [vErr_wrong hl hi hr] at h; cases h
theorem tErr_len {l : List Int} (h : tErr l = none) : l.length ≤ 1048576 := by
  rcases Nat.lt_or_ge 1048576 l.length with hl | hl
  · rw [tErr_long hl] at h; cases h
  · exact hl
theorem vErr_len {l : List (Int × Int)} (h : vErr l = none) : l.length ≤ 1048576 := by
  rcases Nat.lt_or_ge 1048576 l.length with hl | hl
  · rw [vErr_long hl] at h; cases h
  · exact hl
theorem vS_exts {l : List (Int × Int)} (hl0 : ∀ v ∈ l, VOk v) (hr : ∀ i, i < l.length → VRight (l.getD i (0, 0))) : ∀ (m k : Nat), k + m = l.length → Exq (vS l k).q (vS l l.length).q.1
  | 0, k, h => by
    have hk : k = l.length := h
    subst hk
    exact Ext.refl _ _
  | m + 1, k, h => (val_back (vok_get hl0 k) (hr k (by omega)) (vahead hl0 k) (vS_ok l k) (vS_exts hl0 hr m (k + 1) (by omega))).1
theorem us_run_back {l : List (Int × Int)} (hl0 : ∀ v ∈ l, VOk v) (hr : ∀ i, i < l.length → VRight (l.getD i (0, 0))) : ∀ (m k : Nat), k + m = l.length →
    usRun m ⟨rsq (vS l l.length).q.1 (vS l k).q, (vS l k).last, (vS l k).ahead, l.take k⟩ = ⟨rsq (vS l l.length).q.1 (vS l l.length).q, (vS l l.length).last, (vS l l.length).ahead, l⟩
  | 0, k, h => by
    have hk : k = l.length := h
    subst hk
    show US.mk _ _ _ _ = _
    rw [List.take_length]
  | m + 1, k, h => by
    have hE := vS_exts hl0 hr m (k + 1) (by omega)
    have hv := (val_back (vok_get hl0 k) (hr k (by omega)) (vahead hl0 k) (vS_ok l k) hE).2
    have hstep : usStep ⟨rsq (vS l l.length).q.1 (vS l k).q, (vS l k).last, (vS l k).ahead, l.take k⟩ = ⟨rsq (vS l l.length).q.1 (vS l (k + 1)).q, (vS l (k + 1)).last, (vS l (k + 1)).ahead, l.take (k + 1)⟩ := by
      unfold usStep
      simp only [hv]
      rw [List.take_succ_eq_append_getElem (show k < l.length by omega)]
      have hg : l.getD k (0, 0) = l[k]'(by omega) := by rw [List.getD_eq_getElem?_getD, List.getElem?_eq_getElem (by omega)]; rfl
      rw [← hg]
      rfl
    rw [usRun_step rfl, hstep]
    exact us_run_back hl0 hr m (k + 1) (by omega)
/-- what values are written as is read as them. -/
theorem values_back {l : List (Int × Int)} (hn : l.length ≤ 1048576) (hl0 : ∀ v ∈ l, VOk v) (hr : ∀ i, i < l.length → VRight (l.getD i (0, 0))) :
    uV (vS l l.length).q.1 = ⟨rsq (vS l l.length).q.1 (vS l l.length).q, (vS l l.length).last, (vS l l.length).ahead, l⟩ := by
  have hE : Ext ([] ++ uvar l.length) 0 (vS l l.length).q.1 := vS_exts hl0 hr l.length 0 (by omega)
  have hr' : rNumber 1048576 2 (rs (vS l l.length).q.1 [] 0) = (rs (vS l l.length).q.1 ([] ++ uvar l.length) 0, (l.length : Int)) := rNumber_rs (by omega) WOk.nil hE (by omega)
  have hr' : rNumber 1048576 2 ⟨(vS l l.length).q.1, 0, 0, none⟩ = (rsq (vS l l.length).q.1 (vS l 0).q, (l.length : Int)) := hr'
  have := us_run_back hl0 hr l.length 0 (by omega)
  unfold uV uN uV0
  rw [hr']
  simp only [Int.toNat_natCast]
  exact this
theorem values_good {l : List (Int × Int)} (he : vErr l = none) (hl0 : ∀ v ∈ l, VOk v) : rDone (uV (vS l l.length).q.1).s = none ∧ VGood (vS l l.length).q.1 ∧ (uV (vS l l.length).q.1).l = l := by
  unfold VGood
  rw [values_back (vErr_len he) hl0 (vErr_rights he)]
  exact ⟨done_rs (vS_ok l l.length), ⟨he, rfl⟩, rfl⟩

end Go.Proofs.Ytpocfghkolppmaa
