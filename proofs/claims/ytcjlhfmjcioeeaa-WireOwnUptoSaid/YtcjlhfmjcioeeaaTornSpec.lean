/- A frame in plain terms: opened it is itself; cut or turned it is told. -/
import Derived.Test.YtcjlhfmjcioeeaaOpen
set_option linter.unusedVariables false
set_option linter.unusedSimpArgs false
set_option maxRecDepth 100000
namespace Go.Proofs.Ytcjlhfmjcioeeaa
open Go

theorem xor_cancel {a b p : Nat} (h : a ^^^ p = b ^^^ p) : a = b := by
  have := congrArg (· ^^^ p) h
  simpa [Nat.xor_assoc] using this
theorem crcStep_inj {x y : Nat} (hx : x < 4294967296) (hy : y < 4294967296) (h : crcStep x = crcStep y) : x = y := by
  have hi : ∀ z, z < 2147483648 → (z ^^^ 3988292384).testBit 31 = true := fun z hz => by
    rw [Nat.testBit_xor, Nat.testBit_lt_two_pow (show z < 2 ^ 31 by omega)]
    decide
  have lo : ∀ z, z < 2147483648 → z.testBit 31 = false := fun z hz => Nat.testBit_lt_two_pow (show z < 2 ^ 31 by omega)
  unfold crcStep at h
  by_cases h1 : x % 2 = 1 <;> by_cases h2 : y % 2 = 1
  · rw [if_pos h1, if_pos h2] at h
    have := xor_cancel h
    omega
  · rw [if_pos h1, if_neg h2] at h
    have := hi (x / 2) (by omega)
    rw [h, lo (y / 2) (by omega)] at this
    cases this
  · rw [if_neg h1, if_pos h2] at h
    have := hi (y / 2) (by omega)
    rw [← h, lo (x / 2) (by omega)] at this
    cases this
  · rw [if_neg h1, if_neg h2] at h
    omega
theorem crcSteps_inj : ∀ (k : Nat) {x y : Nat}, x < 4294967296 → y < 4294967296 → crcSteps k x = crcSteps k y → x = y
  | 0, _, _, _, _, h => h
  | k + 1, _, _, hx, hy, h => crcStep_inj hx hy (crcSteps_inj k (crcStep_lt hx) (crcStep_lt hy) h)
theorem xor32 {c b : Nat} (hc : c < 4294967296) (hb : b < 256) : c ^^^ b < 4294967296 := Nat.xor_lt_two_pow (n := 32) (by omega) (by omega)
theorem crcByte_inj {c c' b b' : Nat} (hc : c < 4294967296) (hc' : c' < 4294967296) (hb : b < 256) (hb' : b' < 256) (h : crcByte c b = crcByte c' b') : c ^^^ b = c' ^^^ b' :=
  crcSteps_inj 8 (xor32 hc hb) (xor32 hc' hb') h
theorem crcAll_inj : ∀ (l : List Int) {c c' : Nat}, c < 4294967296 → c' < 4294967296 → (∀ z ∈ l, 0 ≤ z ∧ z < 256) → crcAll c l = crcAll c' l → c = c'
  | [], _, _, _, _, _, h => h
  | z :: l, c, c', hc, hc', hz, h => by
    have h0 := hz z (by simp)
    have hb : z.toNat < 256 := by omega
    have h1 := crcAll_inj l (crcByte_lt hc hb) (crcByte_lt hc' hb) (fun x hx => hz x (List.mem_cons_of_mem _ hx)) h
    exact xor_cancel (crcByte_inj hc hc' hb hb h1)
theorem crcAll_set : ∀ (l : List Int) {c : Nat} (i : Nat) (v : Int), c < 4294967296 → (∀ z ∈ l, 0 ≤ z ∧ z < 256) → i < l.length → 0 ≤ v → v < 256 → crcAll c (l.set i v) = crcAll c l → v = l.getD i 0
  | [], _, i, _, _, _, hi, _, _, _ => by simp at hi
  | z :: l, c, 0, v, hc, hz, hi, v0, v1, h => by
    have h0 := hz z (by simp)
    have h1 := crcAll_inj l (crcByte_lt hc (by omega)) (crcByte_lt hc (by omega)) (fun x hx => hz x (List.mem_cons_of_mem _ hx)) h
    have h2 := crcByte_inj hc hc (by omega) (by omega) h1
    rw [Nat.xor_comm c, Nat.xor_comm c] at h2
    have := xor_cancel h2
    simp
    omega
  | z :: l, c, i + 1, v, hc, hz, hi, v0, v1, h => by
    have h0 := hz z (by simp)
    have := crcAll_set l i v (crcByte_lt hc (by omega)) (fun x hx => hz x (List.mem_cons_of_mem _ hx)) (by simpa using hi) v0 v1 h
    simpa using this
theorem crcOf_set {l : List Int} {i : Nat} {v : Int} (hz : ∀ z ∈ l, 0 ≤ z ∧ z < 256) (hi : i < l.length) (v0 : 0 ≤ v) (v1 : v < 256) (h : crcOf (l.set i v) = crcOf l) : v = l.getD i 0 :=
  crcAll_set l i v (by omega) hz hi v0 v1 (xor_cancel h)

theorem beNat_inj : ∀ (n : Nat) (l r : List Int), l.length = n → r.length = n → (∀ z ∈ l, 0 ≤ z ∧ z < 256) → (∀ z ∈ r, 0 ≤ z ∧ z < 256) → beNat l = beNat r → l = r := by
  intro n
  induction n with
  | zero => intro l r hl hr _ _ _; rw [List.eq_nil_of_length_eq_zero hl, List.eq_nil_of_length_eq_zero hr]
  | succ n ih =>
    intro l r hl hr h1 h2 h
    rcases List.eq_nil_or_concat l with rfl | ⟨l', c, rfl⟩
    · simp at hl
    rcases List.eq_nil_or_concat r with rfl | ⟨r', d, rfl⟩
    · simp at hr
    rw [List.concat_eq_append] at *
    rw [List.concat_eq_append] at *
    rw [beNat_snoc, beNat_snoc] at h
    have hc := h1 c (by simp)
    have hd := h2 d (by simp)
    have e := ih l' r' (by simpa using hl) (by simpa using hr) (fun z hz => h1 z (by simp [hz])) (fun z hz => h2 z (by simp [hz])) (by omega)
    subst e
    rw [show c = d by omega]
theorem be32_back {v : Int} (h0 : 0 ≤ v) (h1 : v < 4294967296) : beNat (be32 v) = v := by
  simp only [beNat, be32, List.foldl_cons, List.foldl_nil]
  omega

/-- a row that opens well, of n bytes. -/
structure Good (X : List Int) (n : Nat) : Prop where
  len : X.length = 21 + n
  le : n ≤ 67108864
  nn : oN X = n
  c1 : beNat ((X.drop 13).take 4) = (crcOf (X.take 13) : Nat)
  c2 : beNat ((X.drop (17 + n)).take 4) = (crcOf (X.take (17 + n)) : Nat)
  bytes : ∀ z ∈ X, 0 ≤ z ∧ z < 256

theorem Good.none {X : List Int} {n : Nat} (h : Good X n) (B : List Int) : oErr (X ++ B) = none ∧ oN (X ++ B) = n := by
  have hl := h.len
  have t : ∀ k m, k + m ≤ 21 + n → ((X ++ B).drop k).take m = (X.drop k).take m := fun k m hk => by
    rw [List.drop_append_of_le_length (by omega), List.take_append_of_le_length (by rw [List.length_drop]; omega)]
  have t0 : ∀ m, m ≤ 21 + n → (X ++ B).take m = X.take m := fun m hm => List.take_append_of_le_length (by omega)
  have hN : oN (X ++ B) = n := by
    unfold oN; rw [t 1 4 (by omega)]; exact h.nn
  refine ⟨?_, hN⟩
  unfold oErr
  rw [if_neg (by rw [List.length_append]; omega), t 13 4 (by omega), t0 13 (by omega), if_neg (by simpa using h.c1), hN, if_neg (by have := h.le; omega), if_neg (by rw [List.length_append]; omega),
    t _ 4 (by omega), t0 _ (by omega), if_neg (by simpa using h.c2)]

theorem Good.cut {X : List Int} {n : Nat} (h : Good X n) {k : Nat} (hk : k < 21 + n) : oErr (X.take k) ≠ Option.none := by
  have hl := h.len
  unfold oErr
  by_cases h17 : k < 17
  · rw [if_pos (by rw [List.length_take]; omega)]; simp
  · have t : ∀ a m, a + m ≤ k → ((X.take k).drop a).take m = (X.drop a).take m := fun a m hm => take_take_drop hm
    have hN : oN (X.take k) = n := by unfold oN; rw [t 1 4 (by omega)]; exact h.nn
    rw [if_neg (by rw [List.length_take]; omega), t 13 4 (by omega), List.take_take, Nat.min_eq_left (by omega), if_neg (by simpa using h.c1), hN, if_neg (by have := h.le; omega), if_pos (by rw [List.length_take]; omega)]
    simp

theorem getD_drop_take {X : List Int} {a m i : Nat} (h0 : a ≤ i) (h1 : i < a + m) : ((X.drop a).take m).getD (i - a) 0 = X.getD i 0 := by
  rw [List.getD_eq_getElem?_getD, List.getD_eq_getElem?_getD, List.getElem?_take_of_lt (by omega), List.getElem?_drop, show a + (i - a) = i by omega]
theorem beNat_set {X : List Int} {a i : Nat} {v : Int} (hX : ∀ z ∈ X, 0 ≤ z ∧ z < 256) (hl : a + 4 ≤ X.length) (h0 : a ≤ i) (h1 : i < a + 4) (v0 : 0 ≤ v) (v1 : v < 256) (h : beNat (((X.set i v).drop a).take 4) = beNat ((X.drop a).take 4)) : v = X.getD i 0 := by
  have hb : ∀ z ∈ X.set i v, 0 ≤ z ∧ z < 256 := fun z hz => (List.mem_or_eq_of_mem_set hz).elim (hX z) (fun e => by subst e; exact ⟨v0, v1⟩)
  have := beNat_inj 4 _ _ (by rw [List.length_take, List.length_drop, List.length_set]; omega) (by rw [List.length_take, List.length_drop]; omega)
    (fun z hz => hb z (List.mem_of_mem_drop (List.mem_of_mem_take hz))) (fun z hz => hX z (List.mem_of_mem_drop (List.mem_of_mem_take hz))) h
  have h2 := congrArg (fun l => l.getD (i - a) 0) this
  rw [getD_drop_take h0 h1, getD_drop_take h0 h1] at h2
  rw [← h2, List.getD_eq_getElem?_getD, List.getElem?_set_self (by omega)]
  rfl
theorem set_drop_take {X : List Int} {a m i : Nat} {v : Int} (h : i < a ∨ a + m ≤ i) : ((X.set i v).drop a).take m = (X.drop a).take m := by
  apply List.ext_getElem?
  intro j
  rw [List.getElem?_take, List.getElem?_take]
  split
  · rw [List.getElem?_drop, List.getElem?_drop, List.getElem?_set_ne (by omega)]
  · rfl
theorem set_take {X : List Int} {m i : Nat} {v : Int} (h : m ≤ i) : (X.set i v).take m = X.take m := by
  have := set_drop_take (X := X) (a := 0) (m := m) (i := i) (v := v) (.inr (by omega))
  simpa using this

theorem Good.torn {X : List Int} {n : Nat} (h : Good X n) {i : Nat} (hi : i < 21 + n) {v : Int} (v0 : 0 ≤ v) (v1 : v < 256) (hv : oErr (X.set i v) = Option.none) : v = X.getD i 0 := by
  have hl := h.len
  have hle := h.le
  unfold oErr at hv
  rw [List.length_set, if_neg (by omega)] at hv
  split at hv
  · cases hv
  rename_i h1
  have h1 : beNat (((X.set i v).drop 13).take 4) = (crcOf ((X.set i v).take 13) : Nat) := by simpa using h1
  split at hv
  · cases hv
  split at hv
  · cases hv
  split at hv
  · cases hv
  rename_i h2
  have h2 : beNat (((X.set i v).drop (17 + oN (X.set i v))).take 4) = (crcOf ((X.set i v).take (17 + oN (X.set i v))) : Nat) := by simpa using h2
  by_cases c1 : i < 13
  · rw [set_drop_take (.inl c1), h.c1, List.take_set] at h1
    have := crcOf_set (l := X.take 13) (i := i) (fun z hz => h.bytes z (List.mem_of_mem_take hz)) (by rw [List.length_take]; omega) v0 v1 (by omega)
    rw [this, List.getD_eq_getElem?_getD, List.getElem?_take_of_lt c1, ← List.getD_eq_getElem?_getD]
  by_cases c2 : i < 17
  · rw [set_take (by omega), ← h.c1] at h1
    exact beNat_set h.bytes (by omega) (by omega) (by omega) v0 v1 h1
  have hN : oN (X.set i v) = n := by
    unfold oN; rw [set_drop_take (.inr (by omega))]; exact h.nn
  rw [hN] at h2
  by_cases c3 : i < 17 + n
  · rw [set_drop_take (.inl c3), h.c2, List.take_set] at h2
    have := crcOf_set (l := X.take (17 + n)) (i := i) (fun z hz => h.bytes z (List.mem_of_mem_take hz)) (by rw [List.length_take]; omega) v0 v1 (by omega)
    rw [this, List.getD_eq_getElem?_getD, List.getElem?_take_of_lt c3, ← List.getD_eq_getElem?_getD]
  · rw [set_take (by omega), ← h.c2] at h2
    exact beNat_set h.bytes (by omega) (by omega) (by omega) v0 v1 h2

theorem frameOf_byte {kind number : Int} {xs : List Int} (h0 : 0 ≤ kind) (h1 : kind < 256) (hx : ∀ z ∈ xs, 0 ≤ z ∧ z < 256) : ∀ z ∈ frameOf kind number xs, 0 ≤ z ∧ z < 256 :=
  mem_app (frameBody_byte h0 h1 hx) (be32_byte _)
theorem crcOf_range {l : List Int} (h : ∀ z ∈ l, 0 ≤ z ∧ z < 256) : crcOf l < 4294967296 := Nat.xor_lt_two_pow (n := 32) (crcAll_lt l _ (by omega) h) (by omega)
theorem frameOf_good {kind number : Int} {xs : List Int} (h0 : 0 ≤ kind) (h1 : kind < 256) (hx : ∀ z ∈ xs, 0 ≤ z ∧ z < 256) (hl : xs.length ≤ 67108864) : Good (frameOf kind number xs) xs.length := by
  have hh := frameHead_byte (number := number) (n := xs.length) h0 h1
  have e17 : frameOf kind number xs = (frameHead kind number xs.length ++ be32 (crcOf (frameHead kind number xs.length) : Nat)) ++ (xs ++ be32 (crcOf (frameBody kind number xs) : Nat)) := by
    simp only [frameOf, frameBody, List.append_assoc]
  refine ⟨frameOf_len _ _ _, hl, ?_, ?_, ?_, frameOf_byte h0 h1 hx⟩
  · unfold oN
    have : ((frameOf kind number xs).drop 1).take 4 = be32 ((xs.length : Int) % 4294967296) := by rw [e17]; rfl
    rw [this, be32_back (by omega) (by omega)]
    omega
  · have a : ((frameOf kind number xs).drop 13).take 4 = be32 (crcOf (frameHead kind number xs.length) : Nat) := by rw [e17]; rfl
    have b : (frameOf kind number xs).take 13 = frameHead kind number xs.length := by rw [e17]; rfl
    rw [a, b, be32_back (by omega) (by have := crcOf_range hh; omega)]
  · have hbl := frameBody_len kind number xs
    have a : ((frameOf kind number xs).drop (17 + xs.length)).take 4 = be32 (crcOf (frameBody kind number xs) : Nat) := by
      rw [← hbl, frameOf, List.drop_left]; rfl
    have b : (frameOf kind number xs).take (17 + xs.length) = frameBody kind number xs := by
      rw [← hbl, frameOf, List.take_left]
    rw [a, b, be32_back (by omega) (by have := crcOf_range (frameBody_byte (number := number) h0 h1 hx); omega)]
theorem frameOf_read {kind number : Int} {xs : List Int} (hn0 : 0 ≤ number) (hn1 : number < 18446744073709551616) (B : List Int) :
    (frameOf kind number xs ++ B).getD 0 0 = kind ∧ oNum (frameOf kind number xs ++ B) = number ∧ ((frameOf kind number xs ++ B).drop 17).take xs.length = xs := by
  have e17 : frameOf kind number xs ++ B = (frameHead kind number xs.length ++ be32 (crcOf (frameHead kind number xs.length) : Nat)) ++ (xs ++ (be32 (crcOf (frameBody kind number xs) : Nat) ++ B)) := by
    simp only [frameOf, frameBody, List.append_assoc]
  rw [e17]
  refine ⟨rfl, ?_, ?_⟩
  · unfold oNum
    have a : ∀ T : List Int, (((frameHead kind number xs.length ++ be32 (crcOf (frameHead kind number xs.length) : Nat)) ++ T).drop 5).take 4 = be32 (number / 4294967296 % 4294967296) := fun T => rfl
    have b : ∀ T : List Int, (((frameHead kind number xs.length ++ be32 (crcOf (frameHead kind number xs.length) : Nat)) ++ T).drop 9).take 4 = be32 (number % 4294967296) := fun T => rfl
    rw [a, b, be32_back (by omega) (by omega), be32_back (by omega) (by omega)]
    omega
  · have : ∀ T : List Int, ((frameHead kind number xs.length ++ be32 (crcOf (frameHead kind number xs.length) : Nat)) ++ T).drop 17 = T := fun T => rfl
    rw [this, List.take_left]

end Go.Proofs.Ytcjlhfmjcioeeaa
