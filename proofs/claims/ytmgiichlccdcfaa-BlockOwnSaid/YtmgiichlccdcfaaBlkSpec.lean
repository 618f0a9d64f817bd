/- Times and values as bits, in plain terms. -/
import Derived.Test.YtmgiichlccdcfaaWspec
set_option linter.unusedVariables false
set_option linter.unusedSimpArgs false
set_option maxRecDepth 100000
namespace Go.Proofs.Ytmgiichlccdcfaa
open Go

theorem pushBits_add (v : Int) (b : Nat) : ∀ (a : Nat) (s : List Int × Nat), pushBits v (a + b) s = pushBits v b (pushBits (v / 2 ^ b) a s)
  | 0, s => by rw [Nat.zero_add]; rfl
  | a + 1, s => by
    rw [show a + 1 + b = (a + b) + 1 by omega, pushBits, pushBits_add v b a]
    show _ = pushBits v b (pushBits (v / 2 ^ b) a (pushBit s.1 s.2 (v / 2 ^ b / 2 ^ a % 2)))
    rw [Int.ediv_ediv_of_nonneg (Int.le_of_lt (pow_pos2 b)), ← Int.pow_add, Nat.add_comm b a]
theorem pushBits_congr {v u : Int} : ∀ (k : Nat) (s : List Int × Nat), v % 2 ^ k = u % 2 ^ k → pushBits v k s = pushBits u k s
  | 0, s, _ => rfl
  | k + 1, s, h => by
    have hp := pow_pos2 k
    rw [mod_pow_succ v k, mod_pow_succ u k] at h
    have hv0 := Int.emod_nonneg v (Int.ne_of_gt hp)
    have hv1 := Int.emod_lt_of_pos v hp
    have hu0 := Int.emod_nonneg u (Int.ne_of_gt hp)
    have hu1 := Int.emod_lt_of_pos u hp
    have hb := bit_01 v k
    have hc := bit_01 u k
    have e : v / 2 ^ k % 2 = u / 2 ^ k % 2 ∧ v % 2 ^ k = u % 2 ^ k := by
      generalize v / 2 ^ k % 2 = x at *
      generalize u / 2 ^ k % 2 = y at *
      generalize v % 2 ^ k = r at *
      generalize u % 2 ^ k = q at *
      rcases hb with rfl | rfl <;> rcases hc with rfl | rfl <;> simp at h ⊢ <;> omega
    rw [pushBits, pushBits, e.1]
    exact pushBits_congr k _ e.2

/-- one difference. -/
def dput (d : Int) (s : List Int × Nat) : List Int × Nat :=
  if d = 0 then pushBits 0 1 s
  else if -63 ≤ d ∧ d ≤ 64 then pushBits (d + 63) 7 (pushBits 2 2 s)
  else if -255 ≤ d ∧ d ≤ 256 then pushBits (d + 255) 9 (pushBits 6 3 s)
  else if -2047 ≤ d ∧ d ≤ 2048 then pushBits (d + 2047) 12 (pushBits 14 4 s)
  else pushBits (d % 18446744073709551616) 64 (pushBits 15 4 s)
theorem dput_ok (d : Int) {s : List Int × Nat} (h : WOk s.1 s.2) : WOk (dput d s).1 (dput d s).2 := by
  unfold dput
  split
  · exact pushBits_ok _ _ _ h
  split
  · exact pushBits_ok _ _ _ (pushBits_ok _ _ _ h)
  split
  · exact pushBits_ok _ _ _ (pushBits_ok _ _ _ h)
  split
  · exact pushBits_ok _ _ _ (pushBits_ok _ _ _ h)
  · exact pushBits_ok _ _ _ (pushBits_ok _ _ _ h)
theorem dput_len (d : Int) (s : List Int × Nat) : (dput d s).1.length ≤ s.1.length + 68 := by
  unfold dput
  split
  · exact Nat.le_trans (pushBits_len _ _ _) (by omega)
  split
  · exact Nat.le_trans (pushBits_len _ _ _) (by have := pushBits_len 2 2 s; omega)
  split
  · exact Nat.le_trans (pushBits_len _ _ _) (by have := pushBits_len 6 3 s; omega)
  split
  · exact Nat.le_trans (pushBits_len _ _ _) (by have := pushBits_len 14 4 s; omega)
  · exact Nat.le_trans (pushBits_len _ _ _) (by have := pushBits_len 15 4 s; omega)

/-- the difference of differences at place i, as int64 has it. -/
def tD (l : List Int) (i : Nat) : Int := IntKind.i64.wrap (l.getD i 0 - l.getD (i - 1) 0 - (l.getD (i - 1) 0 - l.getD (i - 2) 0))
/-- what the first k times leave written. -/
def tW (l : List Int) : Nat → List Int × Nat
  | 0 => (uvar l.length, 0)
  | 1 => (uvar l.length ++ uvar (foldI (l.getD 0 0)).toNat, 0)
  | 2 => ((uvar l.length ++ uvar (foldI (l.getD 0 0)).toNat) ++ uvar ((l.getD 1 0 - l.getD 0 0) % 18446744073709551616).toNat, 0)
  | k + 3 => dput (tD l (k + 2)) (tW l (k + 2))
theorem tW_ok (l : List Int) : ∀ k, WOk (tW l k).1 (tW l k).2
  | 0 => by have := WOk.nil.app (uvar_byte l.length); show WOk (uvar l.length) 0; simpa using this
  | 1 => (show WOk (uvar l.length) 0 by have := WOk.nil.app (uvar_byte l.length); simpa using this).app (uvar_byte _)
  | 2 => ((show WOk (uvar l.length) 0 by have := WOk.nil.app (uvar_byte l.length); simpa using this).app (uvar_byte _)).app (uvar_byte _)
  | k + 3 => dput_ok _ (tW_ok l (k + 2))
theorem tW_len {l : List Int} (hl : l.length ≤ 1048576) (h0 : ∀ z ∈ l, -9223372036854775808 ≤ z ∧ z < 9223372036854775808) : ∀ k, (tW l k).1.length ≤ 30 + 68 * k
  | 0 => by have := uvar_len64 (v := l.length) (by omega); simp only [tW]; omega
  | 1 => by
    have h1 := uvar_len64 (v := l.length) (by omega)
    have h2 := uvar_len64 (v := (foldI (l.getD 0 0)).toNat) (fold_lt h0 0)
    simp only [tW, List.length_append]; omega
  | 2 => by
    have h1 := uvar_len64 (v := l.length) (by omega)
    have h2 := uvar_len64 (v := (foldI (l.getD 0 0)).toNat) (fold_lt h0 0)
    have h3 := uvar_len64 (v := ((l.getD 1 0 - l.getD 0 0) % 18446744073709551616).toNat) (by omega)
    simp only [tW, List.length_append]; omega
  | k + 3 => by
    have h1 := tW_len hl h0 (k + 2)
    have h2 := dput_len (tD l (k + 2)) (tW l (k + 2))
    simp only [tW]; omega
where
  fold_lt {l : List Int} (h0 : ∀ z ∈ l, -9223372036854775808 ≤ z ∧ z < 9223372036854775808) (i : Nat) : (foldI (l.getD i 0)).toNat < 18446744073709551616 := by
    have h : -9223372036854775808 ≤ l.getD i 0 ∧ l.getD i 0 < 9223372036854775808 := by
      rw [List.getD_eq_getElem?_getD]
      cases hh : l[i]? with
      | none => simp
      | some z => exact h0 z (List.mem_of_getElem? hh)
    have := foldI_range h.1 h.2
    omega
theorem i64_get {l : List Int} (h0 : ∀ z ∈ l, -9223372036854775808 ≤ z ∧ z < 9223372036854775808) (i : Nat) : -9223372036854775808 ≤ l.getD i 0 ∧ l.getD i 0 < 9223372036854775808 := by
  rw [List.getD_eq_getElem?_getD]
  cases hh : l[i]? with
  | none => simp
  | some z => exact h0 z (List.mem_of_getElem? hh)

/-- each of the first k is above the one ahead. -/
def Rises (l : List Int) (k : Nat) : Prop := ∀ i, i < k → 0 < i → l.getD (i - 1) 0 < l.getD i 0
open Classical in
/-- what is wrong with times, if anything. -/
noncomputable def tErr (l : List Int) : Option Int := if 1048576 < l.length then some 6 else if Rises l l.length then none else some 2
theorem tErr_long {l : List Int} (h : 1048576 < l.length) : tErr l = some 6 := if_pos h
theorem tErr_rise {l : List Int} (h : l.length ≤ 1048576) (hr : Rises l l.length) : tErr l = none := by unfold tErr; rw [if_neg (by omega), if_pos hr]
theorem tErr_fall {l : List Int} (h : l.length ≤ 1048576) {i : Nat} (h0 : 0 < i) (h1 : i < l.length) (hf : l.getD i 0 ≤ l.getD (i - 1) 0) : tErr l = some 2 := by
  unfold tErr
  rw [if_neg (by omega), if_neg]
  intro hr
  have := hr i h1 h0
  omega

end Go.Proofs.Ytmgiichlccdcfaa
