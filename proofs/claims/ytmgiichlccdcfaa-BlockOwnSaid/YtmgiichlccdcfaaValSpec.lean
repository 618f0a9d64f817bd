/- Values as bits, in plain terms. -/
import Derived.Test.YtmgiichlccdcfaaBlkSpec
set_option linter.unusedVariables false
set_option linter.unusedSimpArgs false
set_option maxRecDepth 100000
namespace Go.Proofs.Ytmgiichlccdcfaa
open Go

/-- how many bits a number has, one at least. -/
def vsize (z : Int) : Nat := Nat.log2 z.toNat + 1
theorem vsize_up {z : Int} (h0 : 0 ≤ z) : z < 2 ^ vsize z := by
  have h : z.toNat < 2 ^ (Nat.log2 z.toNat + 1) := Nat.lt_log2_self
  unfold vsize
  have : ((2 ^ (Nat.log2 z.toNat + 1) : Nat) : Int) = 2 ^ (Nat.log2 z.toNat + 1) := by simp
  omega
theorem vsize_lo {z : Int} (h0 : 0 ≤ z) (h : 1 < vsize z) : 2 ^ (vsize z - 1) ≤ z := by
  unfold vsize at *
  have hz : z.toNat ≠ 0 := by intro e; rw [e] at h; simp at h
  have h2 := Nat.log2_self_le hz
  have : ((2 ^ (Nat.log2 z.toNat) : Nat) : Int) = 2 ^ (Nat.log2 z.toNat) := by simp
  rw [show Nat.log2 z.toNat + 1 - 1 = Nat.log2 z.toNat by omega]
  omega
theorem pow_mono2 {a b : Nat} (h : a ≤ b) : (2 : Int) ^ a ≤ 2 ^ b := by
  have := Nat.pow_le_pow_right (show 0 < 2 by omega) h
  have h1 : ((2 ^ a : Nat) : Int) = 2 ^ a := by simp
  have h2 : ((2 ^ b : Nat) : Int) = 2 ^ b := by simp
  omega
theorem vsize_unique {z : Int} (h0 : 0 ≤ z) {n : Nat} (h1 : 1 ≤ n) (hu : z < 2 ^ n) (hl : 1 < n → 2 ^ (n - 1) ≤ z) : n = vsize z := by
  have u := vsize_up h0
  have l := vsize_lo h0
  rcases Nat.lt_trichotomy n (vsize z) with h | h | h
  · have := l (by omega)
    have := pow_mono2 (show n ≤ vsize z - 1 by omega)
    omega
  · exact h
  · have := hl (by unfold vsize at h; omega)
    have := pow_mono2 (show vsize z ≤ n - 1 by omega)
    omega
theorem vsize_pos (z : Int) : 1 ≤ vsize z := by unfold vsize; omega
theorem vsize_64 {z : Int} (h0 : 0 ≤ z) (h1 : z < 18446744073709551616) : vsize z ≤ 64 := by
  rcases Nat.lt_or_ge 64 (vsize z) with h | h
  · have := vsize_lo h0 (by omega)
    have := pow_mono2 (show 64 ≤ vsize z - 1 by omega)
    have : (2 : Int) ^ 64 = 18446744073709551616 := by decide
    omega
  · exact h

/-- a value: its kind and its number. -/
def vcells (v : Int × Int) : List Value := [.int .u8 v.1, .int .i64 v.2]
theorem vcells_len (v : Int × Int) : (vcells v).length = 2 := rfl
/-- what values' writing goes on from. -/
structure VS where
  q : List Int × Nat
  last : Int × Int
  ahead : Int
def vput (s : VS) (v : Int × Int) : List Int × Nat :=
  if v = s.last then pushBits 0 1 s.q
  else if v.1 = 0 then pushBits (foldI (IntKind.i64.wrap (v.2 - s.ahead))) (vsize (foldI (IntKind.i64.wrap (v.2 - s.ahead)))) (pushBits ((vsize (foldI (IntKind.i64.wrap (v.2 - s.ahead))) : Int) - 1) 6 (pushBits 2 2 s.q))
  else if v.1 = 1 then pushBits 6 3 s.q
  else pushBits 7 3 s.q
def vstep (s : VS) (v : Int × Int) : VS := ⟨vput s v, v, if v.1 = 0 then v.2 else s.ahead⟩
def vS (l : List (Int × Int)) : Nat → VS
  | 0 => ⟨(uvar l.length, 0), (0, 0), 0⟩
  | k + 1 => vstep (vS l k) (l.getD k (0, 0))
theorem vput_ok (s : VS) (v : Int × Int) (h : WOk s.q.1 s.q.2) : WOk (vput s v).1 (vput s v).2 := by
  unfold vput
  split
  · exact pushBits_ok _ _ _ h
  split
  · exact pushBits_ok _ _ _ (pushBits_ok _ _ _ (pushBits_ok _ _ _ h))
  split
  · exact pushBits_ok _ _ _ h
  · exact pushBits_ok _ _ _ h
theorem zrange (n a : Int) : 0 ≤ foldI (IntKind.i64.wrap (n - a)) ∧ foldI (IntKind.i64.wrap (n - a)) < 18446744073709551616 := by
  have h := wrap_i64 (n - a)
  exact foldI_range (by omega) (by omega)
theorem vput_len (s : VS) (v : Int × Int) : (vput s v).1.length ≤ s.q.1.length + 72 := by
  unfold vput
  split
  · exact Nat.le_trans (pushBits_len _ _ _) (by omega)
  split
  · have hz := zrange v.2 s.ahead
    have h64 := vsize_64 hz.1 hz.2
    refine Nat.le_trans (pushBits_len _ _ _) ?_
    have h1 := pushBits_len ((vsize (foldI (IntKind.i64.wrap (v.2 - s.ahead))) : Int) - 1) 6 (pushBits 2 2 s.q)
    have h2 := pushBits_len 2 2 s.q
    omega
  split
  · exact Nat.le_trans (pushBits_len _ _ _) (by omega)
  · exact Nat.le_trans (pushBits_len _ _ _) (by omega)
theorem vS_ok (l : List (Int × Int)) : ∀ k, WOk (vS l k).q.1 (vS l k).q.2
  | 0 => by have := WOk.nil.app (uvar_byte l.length); show WOk (uvar l.length) 0; simpa using this
  | k + 1 => vput_ok _ _ (vS_ok l k)
theorem vS_len {l : List (Int × Int)} (hl : l.length ≤ 1048576) : ∀ k, (vS l k).q.1.length ≤ 10 + 72 * k
  | 0 => by have := uvar_len64 (v := l.length) (by omega); simp only [vS]; omega
  | k + 1 => by
    have h1 := vS_len hl k
    have h2 := vput_len (vS l k) (l.getD k (0, 0))
    show (vput (vS l k) (l.getD k (0, 0))).1.length ≤ _
    omega
/-- the last number told is the last value, if that is a number. -/
theorem vS_ahead (l : List (Int × Int)) : ∀ k, (vS l k).last.1 = 0 → (vS l k).ahead = (vS l k).last.2
  | 0 => fun _ => rfl
  | k + 1 => fun h => by
    show (if (l.getD k (0, 0)).1 = 0 then (l.getD k (0, 0)).2 else (vS l k).ahead) = (l.getD k (0, 0)).2
    exact if_pos h
theorem two_three (v : Int) (h : v = 1 ∨ v = 2) (s : List Int × Nat) : pushBits (v - 1) 1 (pushBits 3 2 s) = pushBits (if v = 1 then 6 else 7) 3 s := by
  rcases h with rfl | rfl
  · rw [if_pos rfl]; exact (pushBits_add 6 1 2 s).symm
  · rw [if_neg (by omega)]
    have := pushBits_add 7 1 2 s
    rw [show (2 : Int) - 1 = 1 by omega]
    rw [this]
    exact pushBits_congr 1 _ (by decide)
/-- what a value may be: as the program's type holds it. -/
def VOk (v : Int × Int) : Prop := (0 ≤ v.1 ∧ v.1 < 256) ∧ -9223372036854775808 ≤ v.2 ∧ v.2 < 9223372036854775808
/-- is it right? -/
def VRight (v : Int × Int) : Prop := v.1 = 0 ∨ (v.1 = 1 ∨ v.1 = 2) ∧ v.2 = 0
theorem vok_get {l : List (Int × Int)} (h0 : ∀ v ∈ l, VOk v) (i : Nat) : VOk (l.getD i (0, 0)) := by
  rw [List.getD_eq_getElem?_getD]
  cases hh : l[i]? with
  | none => simp [VOk]
  | some z => exact h0 z (List.mem_of_getElem? hh)
theorem vahead {l : List (Int × Int)} (h0 : ∀ v ∈ l, VOk v) : ∀ k, -9223372036854775808 ≤ (vS l k).ahead ∧ (vS l k).ahead < 9223372036854775808
  | 0 => by simp [vS]
  | k + 1 => by
    show -9223372036854775808 ≤ (if (l.getD k (0, 0)).1 = 0 then (l.getD k (0, 0)).2 else (vS l k).ahead) ∧ (if (l.getD k (0, 0)).1 = 0 then (l.getD k (0, 0)).2 else (vS l k).ahead) < 9223372036854775808
    have h1 := vahead h0 k
    have h2 := vok_get h0 k
    split
    · exact h2.2
    · exact h1
open Classical in
/-- what is wrong with values, if anything. -/
noncomputable def vErr (l : List (Int × Int)) : Option Int := if 1048576 < l.length then some 6 else if ∀ i, i < l.length → VRight (l.getD i (0, 0)) then none else some 2
theorem vErr_long {l : List (Int × Int)} (h : 1048576 < l.length) : vErr l = some 6 := if_pos h
theorem vErr_right {l : List (Int × Int)} (h : l.length ≤ 1048576) (hr : ∀ i, i < l.length → VRight (l.getD i (0, 0))) : vErr l = none := by unfold vErr; rw [if_neg (by omega), if_pos hr]
theorem vErr_wrong {l : List (Int × Int)} (h : l.length ≤ 1048576) {i : Nat} (h1 : i < l.length) (hf : ¬ VRight (l.getD i (0, 0))) : vErr l = some 2 := by
  unfold vErr
  rw [if_neg (by omega), if_neg]
  intro hr
  exact hf (hr i h1)

end Go.Proofs.Ytmgiichlccdcfaa
