/- What was written is read: a Reader beside a Writer's bytes, in plain terms. -/
import Derived.Test.YtpocfghkolppmaaRnums
set_option linter.unusedVariables false
set_option linter.unusedSimpArgs false
set_option maxRecDepth 100000
namespace Go.Proofs.Ytpocfghkolppmaa
open Go

/-- Z goes on from a Writer's bytes zs, of the last of which b bits are filled (0: all). -/
structure Ext (zs : List Int) (b : Nat) (Z : List Int) : Prop where
  len : zs.length ≤ Z.length
  same : ∀ i, i + 1 < zs.length ∨ (b = 0 ∧ i < zs.length) → Z.getD i 0 = zs.getD i 0
  high : b ≠ 0 → Z.getD (zs.length - 1) 0 / 2 ^ (8 - b) = zs.getD (zs.length - 1) 0 / 2 ^ (8 - b)

theorem Ext.refl (zs : List Int) (b : Nat) : Ext zs b zs := ⟨Nat.le_refl _, fun _ _ => rfl, fun _ => rfl⟩
theorem getD_app_l {zs xs : List Int} {i : Nat} (h : i < zs.length) : (zs ++ xs).getD i 0 = zs.getD i 0 := by
  rw [List.getD_eq_getElem?_getD, List.getElem?_append_left h, ← List.getD_eq_getElem?_getD]
theorem Ext.whole {zs xs Z : List Int} {b : Nat} (hok : WOk zs b) (h : Ext (zs ++ xs) 0 Z) : Ext zs b Z ∧ (∀ i, i < zs.length → Z.getD i 0 = zs.getD i 0) ∧ (Z.drop zs.length).take xs.length = xs := by
  have hl := h.len
  rw [List.length_append] at hl
  have hs : ∀ i, i < zs.length → Z.getD i 0 = zs.getD i 0 := fun i hi => by
    rw [h.same i (.inr ⟨rfl, by rw [List.length_append]; omega⟩), getD_app_l hi]
  refine ⟨⟨by omega, fun i hi => hs i (by omega), fun hb => ?_⟩, hs, ?_⟩
  · rcases Nat.eq_zero_or_pos zs.length with h0 | h0
    · exact absurd (List.eq_nil_of_length_eq_zero h0) (hok.2.2 hb).1
    · rw [hs _ (by omega)]
  · apply List.ext_getElem?
    intro i
    by_cases hi : i < xs.length
    · rw [List.getElem?_take_of_lt hi, List.getElem?_drop]
      have := h.same (zs.length + i) (.inr ⟨rfl, by rw [List.length_append]; omega⟩)
      rw [List.getD_eq_getElem?_getD, List.getD_eq_getElem?_getD, List.getElem?_append_right (by omega), show zs.length + i - zs.length = i by omega, List.getElem?_eq_getElem (by omega : zs.length + i < Z.length), List.getElem?_eq_getElem hi] at this
      rw [List.getElem?_eq_getElem (by omega : zs.length + i < Z.length), List.getElem?_eq_getElem hi]
      exact congrArg some this
    · rw [List.getElem?_eq_none (by rw [List.length_take, List.length_drop]; omega), List.getElem?_eq_none (by omega)]


/-- where a Reader stands that has read what a Writer had written so far. -/
def rs (Z : List Int) (zs : List Int) (b : Nat) : RS := ⟨Z, zs.length, b, none⟩

theorem rest_false {zs Z : List Int} {b : Nat} (hok : WOk zs b) (hs : ∀ i, i < zs.length → Z.getD i 0 = zs.getD i 0) : rRest (rs Z zs b) = false := by
  unfold rRest rs
  by_cases hb : b = 0
  · simp [hb]
  · obtain ⟨hne, hm⟩ := hok.2.2 hb
    have hl : 0 < zs.length := List.length_pos_iff.2 hne
    have h8 := hok.1
    simp only
    rw [hs _ (by omega)]
    have h0 := (getD_mem_range hok.2.1 (zs.length - 1))
    generalize zs.getD (zs.length - 1) 0 = z at hm h0
    have hbs : b = 1 ∨ b = 2 ∨ b = 3 ∨ b = 4 ∨ b = 5 ∨ b = 6 ∨ b = 7 := by omega
    have : z * 2 ^ b % 256 = 0 := by
      rcases hbs with rfl | rfl | rfl | rfl | rfl | rfl | rfl <;> simp at hm ⊢ <;> omega
    simp [this]
theorem rBegin_rs {zs Z : List Int} {b : Nat} (hok : WOk zs b) (hs : ∀ i, i < zs.length → Z.getD i 0 = zs.getD i 0) : rBegin (rs Z zs b) = (rs Z zs b, true) := by
  unfold rBegin
  rw [if_neg (by simp [rs]), if_neg (by rw [rest_false hok hs]; simp)]
/-- so many whole bytes are taken as were written. -/
theorem rTake_rs {zs xs Z : List Int} {b : Nat} (hok : WOk zs b) (h : Ext (zs ++ xs) 0 Z) : rTake xs.length (rs Z zs b) = (rs Z (zs ++ xs) 0, xs) := by
  obtain ⟨_, hs, ht⟩ := h.whole hok
  have hl := h.len
  rw [List.length_append] at hl
  unfold rTake
  rw [rBegin_rs hok hs, if_pos rfl, if_neg (by simp only [rs]; omega)]
  simp only [rs, ht, List.length_append]
theorem drop_rs {zs xs Z : List Int} {b : Nat} (hok : WOk zs b) (h : Ext (zs ++ xs) 0 Z) : ∃ T, Z.drop zs.length = xs ++ T := by
  obtain ⟨_, _, ht⟩ := h.whole hok
  refine ⟨(Z.drop zs.length).drop xs.length, ?_⟩
  have := List.take_append_drop xs.length (Z.drop zs.length)
  rw [ht] at this
  exact this.symm
/-- a number is read as it was written. -/
theorem rNumber_rs {zs Z : List Int} {b v : Nat} (hv : v < 18446744073709551616) (hok : WOk zs b) (h : Ext (zs ++ uvar v) 0 Z) {most above : Int} (hm : (v : Int) ≤ most) :
    rNumber most above (rs Z zs b) = (rs Z (zs ++ uvar v) 0, (v : Int)) := by
  obtain ⟨_, hs, _⟩ := h.whole hok
  obtain ⟨T, hT⟩ := drop_rs hok h
  unfold rNumber
  rw [rBegin_rs hok hs, if_pos rfl]
  simp only [rs]
  rw [hT, scan_uvar0 hv]
  simp only
  rw [if_neg (by omega), List.length_append]

theorem Ext.app {zs xs ys Z : List Int} (h : Ext (zs ++ (xs ++ ys)) 0 Z) : Ext (zs ++ xs) 0 Z := by
  have hl := h.len
  simp only [List.length_append] at hl
  refine ⟨by rw [List.length_append]; omega, fun i hi => ?_, fun h => absurd rfl h⟩
  have hi : i < (zs ++ xs).length := by omega
  rw [← List.append_assoc] at h
  rw [h.same i (.inr ⟨rfl, by rw [List.length_append]; omega⟩), getD_app_l hi]
theorem rLoad_rs {zs xs Z : List Int} {b : Nat} (hlen : xs.length < 9223372036854775808) (hok : WOk zs b) (h : Ext (zs ++ (uvar xs.length ++ xs)) 0 Z) :
    rLoad (xs.length : Nat) (rs Z zs b) = (rs Z (zs ++ (uvar xs.length ++ xs)) 0, xs) := by
  have h1 := h.app
  have hs := (h1.whole hok).2.1
  have hl := h.len
  simp only [List.length_append] at hl
  have hlim : rLim (xs.length : Nat) = (xs.length : Nat) := by unfold rLim; split <;> omega
  have hn := rNumber_rs (most := (xs.length : Nat)) (above := 6) (by omega) hok h1 (Int.le_refl _)
  have hN : rLoadN (xs.length : Nat) (rs Z zs b) = (xs.length : Nat) := by unfold rLoadN; rw [hlim, hn]
  have hS : rLoadS (xs.length : Nat) (rs Z zs b) = rs Z (zs ++ uvar xs.length) 0 := by
    unfold rLoadS
    rw [hN, hlim, hn]
    simp only
    unfold rLong
    rw [if_neg (by omega)]
    unfold rShort
    rw [if_neg]
    simp only [rs, List.length_append]
    omega
  have hok1 : WOk (zs ++ uvar xs.length) 0 := hok.app (uvar_byte _)
  have h2 : Ext ((zs ++ uvar xs.length) ++ xs) 0 Z := by rw [List.append_assoc]; exact h
  unfold rLoad
  rw [rBegin_rs hok hs, if_pos rfl, hS, hN, if_neg (by simp [rs]), Int.toNat_natCast, rTake_rs hok1 h2, List.append_assoc]

/-- one bit: what it leaves, and that it is read so. -/
theorem pushBit_rs {zs Z : List Int} {b : Nat} (hok : WOk zs b) {x : Int} (hx : x = 0 ∨ x = 1) (h : Ext (pushBit zs b x).1 (pushBit zs b x).2 Z) :
    Ext zs b Z ∧ bitAt (rs Z zs b) = x ∧ bitStep (rs Z zs b) = rs Z (pushBit zs b x).1 (pushBit zs b x).2 := by
  have h8 := hok.1
  have hne := bitPad_ne zs b hok
  have hby := bitPad_byte zs b hok
  have hlast := bitPad_last zs b hok
  have hpl : (bitPad zs b).length = bitPos (rs Z zs b) := by
    unfold bitPad bitPos rs
    split <;> simp
  have hl0 : 0 < (bitPad zs b).length := List.length_pos_iff.2 hne
  have hlen : (pushBit zs b x).1.length = (bitPad zs b).length := by simp [pushBit]
  have hr := getD_mem_range hby ((bitPad zs b).length - 1)
  have hval : (pushBit zs b x).1.getD ((bitPad zs b).length - 1) 0 = (bitPad zs b).getD ((bitPad zs b).length - 1) 0 + x * 2 ^ (7 - b) := by
    simp only [pushBit]
    rw [List.getD_eq_getElem?_getD, List.getElem?_set_self (by omega)]
    rfl
  have hz : Z.getD ((bitPad zs b).length - 1) 0 / 2 ^ (7 - b) = ((bitPad zs b).getD ((bitPad zs b).length - 1) 0 + x * 2 ^ (7 - b)) / 2 ^ (7 - b) := by
    by_cases h7 : b = 7
    · have e := h.same ((bitPad zs b).length - 1) (.inr ⟨by simp [pushBit, h7], by omega⟩)
      rw [e, hval]
    · have e := h.high (by simp [pushBit]; omega)
      rw [hlen, hval, show 8 - (pushBit zs b x).2 = 7 - b by simp [pushBit]; omega] at e
      exact e
  have hZl : (bitPad zs b).length ≤ Z.length := by have := h.len; omega
  have hbs : b = 0 ∨ b = 1 ∨ b = 2 ∨ b = 3 ∨ b = 4 ∨ b = 5 ∨ b = 6 ∨ b = 7 := by omega
  refine ⟨⟨?_, ?_, ?_⟩, ?_, ?_⟩
  · refine Nat.le_trans ?_ hZl
    unfold bitPad; split <;> simp
  · intro i hi
    have hp : i + 1 < (bitPad zs b).length ∧ (bitPad zs b).getD i 0 = zs.getD i 0 := by
      unfold bitPad
      split
      · rename_i hb
        have : i < zs.length := by omega
        exact ⟨by simp; omega, getD_app_l this⟩
      · rename_i hb
        exact ⟨by omega, rfl⟩
    rw [h.same i (.inl (by omega)), ← hp.2]
    simp only [pushBit]
    rw [List.getD_eq_getElem?_getD, List.getElem?_set_ne (by omega), ← List.getD_eq_getElem?_getD]
  · intro hb
    have e : bitPad zs b = zs := if_neg hb
    rw [e] at hz hlast hr
    generalize Z.getD (zs.length - 1) 0 = u at hz ⊢
    generalize zs.getD (zs.length - 1) 0 = z at hz hlast hr ⊢
    rcases hbs with rfl | rfl | rfl | rfl | rfl | rfl | rfl | rfl <;> rcases hx with rfl | rfl <;> simp at hz hlast hb ⊢ <;> omega
  · unfold bitAt
    rw [← hpl]
    simp only [rs]
    rw [hz]
    generalize (bitPad zs b).getD ((bitPad zs b).length - 1) 0 = z at hlast hr ⊢
    rcases hbs with rfl | rfl | rfl | rfl | rfl | rfl | rfl | rfl <;> rcases hx with rfl | rfl <;> simp at hlast ⊢ <;> omega
  · unfold bitStep
    rw [← hpl, ← hlen]
    rfl

theorem pushBits_rs (v : Int) : ∀ (k : Nat) (zs : List Int) (b : Nat) (Z : List Int) (a : Int), WOk zs b → Ext (pushBits v k (zs, b)).1 (pushBits v k (zs, b)).2 Z →
    Ext zs b Z ∧ rBitsN k (rs Z zs b) a = (rs Z (pushBits v k (zs, b)).1 (pushBits v k (zs, b)).2, a * 2 ^ k + v % 2 ^ k)
  | 0, zs, b, Z, a, hok, h => ⟨h, by simp [rBitsN, pushBits, Int.emod_one]⟩
  | k + 1, zs, b, Z, a, hok, h => by
    have hx := bit_01 v k
    have h2 : Ext (pushBits v k ((pushBit zs b (v / 2 ^ k % 2)).1, (pushBit zs b (v / 2 ^ k % 2)).2)).1 (pushBits v k ((pushBit zs b (v / 2 ^ k % 2)).1, (pushBit zs b (v / 2 ^ k % 2)).2)).2 Z := h
    obtain ⟨e1, r1⟩ := pushBits_rs v k _ _ Z (a * 2 + v / 2 ^ k % 2) (pushBit_ok hok hx) h2
    obtain ⟨e2, b1, b2⟩ := pushBit_rs hok hx e1
    refine ⟨e2, ?_⟩
    rw [rBitsN, b2, b1, r1]
    have : (a * 2 + v / 2 ^ k % 2) * 2 ^ k + v % 2 ^ k = a * 2 ^ (k + 1) + v % 2 ^ (k + 1) := by
      have e3 := mod_pow_succ v k
      rw [e3, Int.pow_succ]
      generalize (2 : Int) ^ k = q
      generalize v / q % 2 = c
      generalize v % q = d
      rw [Int.add_mul, Int.mul_assoc a 2 q, Int.mul_comm 2 q]
      omega
    rw [this]
    rfl

theorem rs_ok {w : World} {zs Z : List Int} {b : Nat} (hok : WOk zs b) (h : Ext zs b Z) (hZ : ∀ z ∈ Z, 0 ≤ z ∧ z < 256) (hl : Z.length ≤ 140737488355328) : RSok (rs Z zs b) :=
  ⟨h.len, hok.1, fun hb => List.length_pos_iff.2 (hok.2.2 (by simp only [rs] at hb; omega)).1, hl, hZ⟩
theorem done_rs {zs : List Int} {b : Nat} (hok : WOk zs b) : rDone (rs zs zs b) = none := by
  unfold rDone
  rw [if_neg (by simp [rs]), rest_false hok (fun _ _ => rfl), if_neg (by simp), if_neg (by simp [rs])]

theorem rBits_rs {v n : Int} {zs Z : List Int} {b : Nat} (hok : WOk zs b) (h : Ext (pushBits v (brought n) (zs, b)).1 (pushBits v (brought n) (zs, b)).2 Z) :
    rBits n (rs Z zs b) = (rs Z (pushBits v (brought n) (zs, b)).1 (pushBits v (brought n) (zs, b)).2, v % 2 ^ brought n) := by
  obtain ⟨e, r⟩ := pushBits_rs v (brought n) zs b Z 0 hok h
  have hc := pushBits_cap v (brought n) hok
  have hl := h.len
  have h0 : bitCap (pushBits v (brought n) (zs, b)) ≤ 8 * ((pushBits v (brought n) (zs, b)).1.length : Int) := by
    have h8 := (pushBits_ok v (brought n) (zs, b) hok).1
    unfold bitCap; split <;> omega
  have hz := e.len
  have h8 := hok.1
  unfold rBits
  rw [if_neg (by simp [rs]), if_neg, r]
  · simp
  · unfold bitsOpen rs
    simp only
    unfold bitCap at hc h0
    simp only at hc
    split <;> (try split at hc) <;> omega

end Go.Proofs.Ytpocfghkolppmaa
