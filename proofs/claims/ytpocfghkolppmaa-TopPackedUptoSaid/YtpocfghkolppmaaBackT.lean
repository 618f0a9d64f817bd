/- What times are written as is read as them. -/
import Derived.Test.YtpocfghkolppmaaUnSpec
import Derived.Test.YtpocfghkolppmaaBackLib
set_option linter.unusedVariables false
set_option linter.unusedSimpArgs false
set_option maxRecDepth 100000
namespace Go.Proofs.Ytpocfghkolppmaa
open Go

/-- a Reader of Z where a Writer stands. -/
def rsq (Z : List Int) (q : List Int × Nat) : RS := rs Z q.1 q.2
def WOq (q : List Int × Nat) : Prop := WOk q.1 q.2
def Exq (q : List Int × Nat) (Z : List Int) : Prop := Ext q.1 q.2 Z
theorem WOq.push {q : List Int × Nat} (h : WOq q) (v : Int) (k : Nat) : WOq (pushBits v k q) := pushBits_ok v k q h
theorem Exq.back {q : List Int × Nat} {Z : List Int} {v : Int} {k : Nat} (h : Exq (pushBits v k q) Z) (hok : WOq q) : Exq q Z := (pushBits_rs v k q.1 q.2 Z 0 hok h).1
theorem rBits_q {q : List Int × Nat} {Z : List Int} {v n : Int} (hok : WOq q) (h : Exq (pushBits v (brought n) q) Z) : rBits n (rsq Z q) = (rsq Z (pushBits v (brought n) q), v % 2 ^ brought n) := rBits_rs hok h
theorem bit_q {q : List Int × Nat} {Z : List Int} {v : Int} (hok : WOq q) (h : Exq (pushBits v 1 q) Z) : rBits 1 (rsq Z q) = (rsq Z (pushBits v 1 q), v % 2) := by
  have := rBits_q (n := 1) (v := v) (Z := Z) hok (by rw [show brought 1 = 1 by decide]; exact h)
  rwa [show brought 1 = 1 by decide] at this
theorem lead2 (q : List Int × Nat) : pushBits 2 2 q = pushBits 0 1 (pushBits 1 1 q) := by
  rw [show (2 : Nat) = 1 + 1 from rfl, pushBits_add 2 1 1 q]
  exact pushBits_congr 1 _ (by decide)
theorem lead6 (q : List Int × Nat) : pushBits 6 3 q = pushBits 0 1 (pushBits 1 1 (pushBits 1 1 q)) := by
  rw [show (3 : Nat) = 2 + 1 from rfl, pushBits_add 6 1 2 q, show (6 : Int) / 2 ^ 1 = 3 by decide, show (2 : Nat) = 1 + 1 from rfl, pushBits_add 3 1 1 q]
  rw [show (3 : Int) / 2 ^ 1 = 1 by decide, pushBits_congr (v := 3) (u := 1) 1 (pushBits 1 1 q) (by decide)]
  exact pushBits_congr 1 _ (by decide)
theorem lead7 (q : List Int × Nat) : pushBits 7 3 q = pushBits 1 1 (pushBits 1 1 (pushBits 1 1 q)) := by
  rw [show (3 : Nat) = 2 + 1 from rfl, pushBits_add 7 1 2 q, show (7 : Int) / 2 ^ 1 = 3 by decide, show (2 : Nat) = 1 + 1 from rfl, pushBits_add 3 1 1 q]
  rw [show (3 : Int) / 2 ^ 1 = 1 by decide, pushBits_congr (v := 3) (u := 1) 1 (pushBits 1 1 q) (by decide)]
  exact pushBits_congr 1 _ (by decide)
theorem lead14 (q : List Int × Nat) : pushBits 14 4 q = pushBits 0 1 (pushBits 1 1 (pushBits 1 1 (pushBits 1 1 q))) := by
  rw [show (4 : Nat) = 3 + 1 from rfl, pushBits_add 14 1 3 q, show (14 : Int) / 2 ^ 1 = 7 by decide, lead7]
  exact pushBits_congr 1 _ (by decide)
theorem lead15 (q : List Int × Nat) : pushBits 15 4 q = pushBits 1 1 (pushBits 1 1 (pushBits 1 1 (pushBits 1 1 q))) := by
  rw [show (4 : Nat) = 3 + 1 from rfl, pushBits_add 15 1 3 q, show (15 : Int) / 2 ^ 1 = 7 by decide, lead7]
  exact pushBits_congr 1 _ (by decide)
/-- the reading goes on by a bit that is 1. -/
theorem dfrom_one {q : List Int × Nat} {Z : List Int} {m k : Nat} (hok : WOq q) (h : Exq (pushBits 1 1 q) Z) : rDfrom (m + 1) k (rsq Z q) = rDfrom m (k + 1) (rsq Z (pushBits 1 1 q)) := by
  rw [rDfrom, bit_q hok h]
  exact if_neg (show ¬ (1 : Int) % 2 = 0 by decide)
theorem dfrom_zero {q : List Int × Nat} {Z : List Int} {m k : Nat} (hok : WOq q) (h : Exq (pushBits 0 1 q) Z) : rDfrom (m + 1) k (rsq Z q) = dTail k (rsq Z (pushBits 0 1 q)) := by
  rw [rDfrom, bit_q hok h]
  exact if_pos (show (0 : Int) % 2 = 0 by decide)
theorem tail_q {q : List Int × Nat} {Z : List Int} {v n : Int} {k : Nat} (hok : WOq q) (hb : brought n = k) (h : Exq (pushBits v k q) Z) (h0 : 0 ≤ v) (h1 : v < 2 ^ k) : rBits n (rsq Z q) = (rsq Z (pushBits v k q), v) := by
  subst hb
  rw [rBits_q hok h, Int.emod_eq_of_lt h0 h1]
theorem delta_back {d : Int} (d0 : -9223372036854775808 ≤ d) (d1 : d < 9223372036854775808) {q : List Int × Nat} {Z : List Int} (hok : WOq q) (h : Exq (dput d q) Z) : Exq q Z ∧ rDelta (rsq Z q) = (rsq Z (dput d q), d) := by
  unfold dput at h ⊢
  unfold rDelta
  by_cases c0 : d = 0
  · rw [if_pos c0] at h ⊢
    refine ⟨h.back hok, ?_⟩
    rw [dfrom_zero hok h, c0]; rfl
  rw [if_neg c0] at h ⊢
  by_cases c1 : -63 ≤ d ∧ d ≤ 64
  · rw [if_pos c1, lead2] at h
    rw [if_pos c1, lead2]
    have k1 := hok.push 1 1
    have k2 := k1.push 0 1
    have e2 := h.back k2
    have e1 := e2.back k1
    refine ⟨e1.back hok, ?_⟩
    rw [dfrom_one hok e1, dfrom_zero k1 e2]
    show ((rBits 7 _).1, (rBits 7 _).2 - 63) = _
    rw [tail_q (n := 7) (k := 7) k2 (by decide) h (by omega) (by show d + 63 < 128; omega)]
    simp only [Prod.mk.injEq, true_and]; omega
  rw [if_neg c1] at h ⊢
  by_cases c2 : -255 ≤ d ∧ d ≤ 256
  · rw [if_pos c2, lead6] at h
    rw [if_pos c2, lead6]
    have k1 := hok.push 1 1
    have k2 := k1.push 1 1
    have k3 := k2.push 0 1
    have e3 := h.back k3
    have e2 := e3.back k2
    have e1 := e2.back k1
    refine ⟨e1.back hok, ?_⟩
    rw [dfrom_one hok e1, dfrom_one k1 e2, dfrom_zero k2 e3]
    show ((rBits 9 _).1, (rBits 9 _).2 - 255) = _
    rw [tail_q (n := 9) (k := 9) k3 (by decide) h (by omega) (by show d + 255 < 512; omega)]
    simp only [Prod.mk.injEq, true_and]; omega
  rw [if_neg c2] at h ⊢
  by_cases c3 : -2047 ≤ d ∧ d ≤ 2048
  · rw [if_pos c3, lead14] at h
    rw [if_pos c3, lead14]
    have k1 := hok.push 1 1
    have k2 := k1.push 1 1
    have k3 := k2.push 1 1
    have k4 := k3.push 0 1
    have e4 := h.back k4
    have e3 := e4.back k3
    have e2 := e3.back k2
    have e1 := e2.back k1
    refine ⟨e1.back hok, ?_⟩
    rw [dfrom_one hok e1, dfrom_one k1 e2, dfrom_one k2 e3, dfrom_zero k3 e4]
    show ((rBits 12 _).1, (rBits 12 _).2 - 2047) = _
    rw [tail_q (n := 12) (k := 12) k4 (by decide) h (by omega) (by show d + 2047 < 4096; omega)]
    simp only [Prod.mk.injEq, true_and]; omega
  rw [if_neg c3, lead15] at h
  rw [if_neg c3, lead15]
  have k1 := hok.push 1 1
  have k2 := k1.push 1 1
  have k3 := k2.push 1 1
  have k4 := k3.push 1 1
  have e4 := h.back k4
  have e3 := e4.back k3
  have e2 := e3.back k2
  have e1 := e2.back k1
  refine ⟨e1.back hok, ?_⟩
  rw [dfrom_one hok e1, dfrom_one k1 e2, dfrom_one k2 e3, dfrom_one k3 e4]
  show ((rBits 64 _).1, IntKind.i64.wrap (rBits 64 _).2) = _
  rw [tail_q (n := 64) (k := 64) k4 (by decide) h (by omega) (by show d % 18446744073709551616 < 18446744073709551616; omega)]
  simp only [Prod.mk.injEq, true_and, wrap_i64]; omega

/-! ### all times -/

theorem unfoldI_foldI {v : Int} (h0 : -9223372036854775808 ≤ v) (h1 : v < 9223372036854775808) : unfoldI (foldI v) = v := by unfold unfoldI foldI; split <;> split <;> omega
def tG (l : List Int) (k : Nat) : Int := if k ≤ 1 then 0 else (l.getD (k - 1) 0 - l.getD (k - 2) 0) % 18446744073709551616
theorem tW_ext {l : List Int} (hl0 : ∀ z ∈ l, -9223372036854775808 ≤ z ∧ z < 9223372036854775808) {Z : List Int} : ∀ k, Exq (tW l (k + 1)) Z → Exq (tW l k) Z
  | 0, h => by
    have h : Ext (uvar l.length ++ uvar (foldI (l.getD 0 0)).toNat) 0 Z := h
    exact (h.whole (b := 0) (by have := WOk.nil.app (uvar_byte l.length); simpa using this)).1
  | 1, h => by
    have h : Ext ((uvar l.length ++ uvar (foldI (l.getD 0 0)).toNat) ++ uvar ((l.getD 1 0 - l.getD 0 0) % 18446744073709551616).toNat) 0 Z := h
    exact (h.whole (b := 0) (tW_ok l 1)).1
  | k + 2, h => by
    have hd : -9223372036854775808 ≤ tD l (k + 2) ∧ tD l (k + 2) < 9223372036854775808 := by unfold tD; rw [wrap_i64]; omega
    exact (delta_back hd.1 hd.2 (tW_ok l (k + 2)) h).1
theorem tW_exts {l : List Int} (hl0 : ∀ z ∈ l, -9223372036854775808 ≤ z ∧ z < 9223372036854775808) : ∀ (m k : Nat), k + m = l.length → Exq (tW l k) (tW l l.length).1
  | 0, k, h => by
    have hk : k = l.length := h
    subst hk
    exact Ext.refl _ _
  | m + 1, k, h => tW_ext hl0 k (tW_exts hl0 m (k + 1) (by omega))
theorem take_len {l : List Int} {k : Nat} (h : k ≤ l.length) : (l.take k).length = k := by rw [List.length_take]; omega
theorem take_getD {l : List Int} {k i : Nat} (h : i < k) : (l.take k).getD i 0 = l.getD i 0 := by
  rw [List.getD_eq_getElem?_getD, List.getD_eq_getElem?_getD, List.getElem?_take_of_lt h]
theorem take_one_more {l : List Int} {k : Nat} (h : k < l.length) : l.take (k + 1) = l.take k ++ [l.getD k 0] := by
  rw [List.take_succ_eq_append_getElem h, List.getD_eq_getElem?_getD, List.getElem?_eq_getElem h]; rfl
theorem ts_step_back {l : List Int} (hn : l.length ≤ 1048576) (hl0 : ∀ z ∈ l, -9223372036854775808 ≤ z ∧ z < 9223372036854775808) {k : Nat} (hk : k < l.length) :
    tsStep ⟨rsq (tW l l.length).1 (tW l k), tG l k, l.take k⟩ = ⟨rsq (tW l l.length).1 (tW l (k + 1)), tG l (k + 1), l.take (k + 1)⟩ := by
  have hE : Exq (tW l (k + 1)) (tW l l.length).1 := tW_exts hl0 (l.length - (k + 1)) (k + 1) (by omega)
  generalize (tW l l.length).1 = Z at hE
  have hlen := take_len (l := l) (k := k) (by omega)
  have z0 := i64_get hl0 k
  have z1 := i64_get hl0 (k - 1)
  have z2 := i64_get hl0 (k - 2)
  unfold tsStep
  simp only [hlen]
  rw [take_one_more hk]
  match k, hE with
  | 0, hE =>
    rw [if_pos rfl]
    have hv := foldI_range z0.1 z0.2
    have hE : Ext (uvar l.length ++ uvar (foldI (l.getD 0 0)).toNat) 0 Z := hE
    have hr : rNumber 18446744073709551615 2 (rsq Z (tW l 0)) = (rsq Z (tW l 1), (((foldI (l.getD 0 0)).toNat : Nat) : Int)) := rNumber_rs (by omega) (tW_ok l 0) hE (by omega)
    rw [hr]
    simp only
    rw [show (((foldI (l.getD 0 0)).toNat : Nat) : Int) = foldI (l.getD 0 0) by omega, unfoldI_foldI z0.1 z0.2]
    rfl
  | 1, hE =>
    rw [if_neg (by omega), if_pos rfl]
    have hE : Ext ((uvar l.length ++ uvar (foldI (l.getD 0 0)).toNat) ++ uvar ((l.getD 1 0 - l.getD 0 0) % 18446744073709551616).toNat) 0 Z := hE
    have hr : rNumber 18446744073709551615 2 (rsq Z (tW l 1)) = (rsq Z (tW l 2), ((((l.getD 1 0 - l.getD 0 0) % 18446744073709551616).toNat : Nat) : Int)) := rNumber_rs (by omega) (tW_ok l 1) hE (by omega)
    rw [hr]
    simp only
    have ht : tNext (l.take 1) ((((l.getD 1 0 - l.getD 0 0) % 18446744073709551616).toNat : Nat) : Int) = l.getD 1 0 := by
      unfold tNext
      rw [hlen, take_getD (by omega), wrap_i64]
      have z0' := i64_get hl0 1
      have z1' := i64_get hl0 0
      show ((l.getD 0 0 + _) + _) % _ - _ = _
      omega
    rw [ht]
    have hg : tG l 2 = (l.getD 1 0 - l.getD 0 0) % 18446744073709551616 := if_neg (by omega)
    rw [hg, show ((((l.getD 1 0 - l.getD 0 0) % 18446744073709551616).toNat : Nat) : Int) = (l.getD 1 0 - l.getD 0 0) % 18446744073709551616 by omega]
  | k + 2, hE =>
    rw [if_neg (by omega), if_neg (by omega)]
    have hd : -9223372036854775808 ≤ tD l (k + 2) ∧ tD l (k + 2) < 9223372036854775808 := by unfold tD; rw [wrap_i64]; omega
    have hr : rDelta (rsq Z (tW l (k + 2))) = (rsq Z (tW l (k + 2 + 1)), tD l (k + 2)) := (delta_back hd.1 hd.2 (tW_ok l (k + 2)) hE).2
    rw [hr]
    simp only
    have hg0 : tG l (k + 2) = (l.getD (k + 2 - 1) 0 - l.getD (k + 2 - 2) 0) % 18446744073709551616 := if_neg (by omega)
    have hg1 : tG l (k + 2 + 1) = (l.getD (k + 2) 0 - l.getD (k + 2 - 1) 0) % 18446744073709551616 := if_neg (by omega)
    have hg : IntKind.u64.wrap (tG l (k + 2) + tD l (k + 2)) = tG l (k + 2 + 1) := by
      rw [hg0, hg1]
      unfold tD
      rw [wrap_u64, wrap_i64]
      omega
    rw [hg]
    have ht : tNext (l.take (k + 2)) (tG l (k + 2 + 1)) = l.getD (k + 2) 0 := by
      unfold tNext
      rw [hlen, take_getD (by omega), wrap_i64, hg1]
      omega
    rw [ht]
theorem ts_run_back {l : List Int} (hn : l.length ≤ 1048576) (hl0 : ∀ z ∈ l, -9223372036854775808 ≤ z ∧ z < 9223372036854775808) : ∀ (m k : Nat), k + m = l.length →
    tsRun m ⟨rsq (tW l l.length).1 (tW l k), tG l k, l.take k⟩ = ⟨rsq (tW l l.length).1 (tW l l.length), tG l l.length, l⟩
  | 0, k, h => by
    have hk : k = l.length := h
    subst hk
    show TS.mk _ _ _ = _
    rw [List.take_length]
  | m + 1, k, h => by
    rw [tsRun_step rfl, ts_step_back hn hl0 (by omega)]
    exact ts_run_back hn hl0 m (k + 1) (by omega)
/-- what times are written as is read as them. -/
theorem times_back {l : List Int} (hn : l.length ≤ 1048576) (hl0 : ∀ z ∈ l, -9223372036854775808 ≤ z ∧ z < 9223372036854775808) :
    uT (tW l l.length).1 = ⟨rsq (tW l l.length).1 (tW l l.length), tG l l.length, l⟩ := by
  have hE : Ext ([] ++ uvar l.length) 0 (tW l l.length).1 := tW_exts hl0 l.length 0 (by omega)
  have hr : rNumber 1048576 2 (rs (tW l l.length).1 [] 0) = (rs (tW l l.length).1 ([] ++ uvar l.length) 0, (l.length : Int)) := rNumber_rs (by omega) WOk.nil hE (by omega)
  have hr : rNumber 1048576 2 ⟨(tW l l.length).1, 0, 0, none⟩ = (rsq (tW l l.length).1 (tW l 0), (l.length : Int)) := hr
  have := ts_run_back hn hl0 l.length 0 (by omega)
  unfold uT uN uT0
  rw [hr]
  simp only [Int.toNat_natCast]
  exact this
theorem times_done {l : List Int} (hn : l.length ≤ 1048576) (hl0 : ∀ z ∈ l, -9223372036854775808 ≤ z ∧ z < 9223372036854775808) : rDone (uT (tW l l.length).1).s = none := by
  rw [times_back hn hl0]
  exact done_rs (tW_ok l l.length)
theorem times_good {l : List Int} (he : tErr l = none) (hn : l.length ≤ 1048576) (hl0 : ∀ z ∈ l, -9223372036854775808 ≤ z ∧ z < 9223372036854775808) : TGood (tW l l.length).1 ∧ (uT (tW l l.length).1).l = l := by
  unfold TGood
  rw [times_back hn hl0]
  exact ⟨⟨he, rfl⟩, rfl⟩

end Go.Proofs.Ytpocfghkolppmaa
