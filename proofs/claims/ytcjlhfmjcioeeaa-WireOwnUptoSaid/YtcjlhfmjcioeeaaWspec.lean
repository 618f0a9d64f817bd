/- What is written, in plain terms: numbers in sevens, numbers in fours, bits. -/
import Derived.Test.YtcjlhfmjcioeeaaArith
set_option linter.unusedVariables false
set_option linter.unusedSimpArgs false
namespace Go.Proofs.Ytcjlhfmjcioeeaa
open Go

/-- a number without sign, seven bits a byte. -/
def uvar (v : Nat) : List Int := if h : v < 128 then [(v : Int)] else ((v % 128 + 128 : Nat) : Int) :: uvar (v / 128)
  termination_by v
  decreasing_by omega

theorem uvar_lt {v : Nat} (h : v < 128) : uvar v = [(v : Int)] := by rw [uvar, dif_pos h]
theorem uvar_ge {v : Nat} (h : ¬ v < 128) : uvar v = ((v % 128 + 128 : Nat) : Int) :: uvar (v / 128) := by rw [uvar, dif_neg h]
theorem uvar_len : ∀ (k v : Nat), v < 128 ^ (k + 1) → (uvar v).length ≤ k + 1
  | 0, v, h => by rw [uvar_lt (by omega)]; simp
  | k + 1, v, h => by
    by_cases hv : v < 128
    · rw [uvar_lt hv]; simp
    · rw [uvar_ge hv]
      have := uvar_len k (v / 128) (by rw [Nat.div_lt_iff_lt_mul (by omega)]; rw [Nat.pow_succ] at h; omega)
      simp; omega
theorem uvar_len64 {v : Nat} (h : v < 18446744073709551616) : (uvar v).length ≤ 10 :=
  uvar_len 9 v (Nat.lt_of_lt_of_le h (by decide))
theorem uvar_pos (v : Nat) : 1 ≤ (uvar v).length := by
  rw [uvar]; split <;> simp
theorem uvar_byte (v : Nat) : ∀ z ∈ uvar v, 0 ≤ z ∧ z < 256 := by
  induction v using Nat.strongRecOn with
  | _ v ih =>
    intro z hz
    by_cases hv : v < 128
    · rw [uvar_lt hv] at hz; simp at hz; omega
    · rw [uvar_ge hv] at hz
      rcases List.mem_cons.1 hz with h | h
      · omega
      · exact ih (v / 128) (by omega) z h

/-- four bytes, the highest first. -/
def be32 (v : Int) : List Int := [v / 16777216 % 256, v / 65536 % 256, v / 256 % 256, v % 256]
theorem be32_len (v : Int) : (be32 v).length = 4 := rfl
theorem be32_byte (v : Int) : ∀ z ∈ be32 v, 0 ≤ z ∧ z < 256 := by
  intro z hz
  simp only [be32, List.mem_cons, List.not_mem_nil, or_false] at hz
  omega

/-- a number with its sign as one without. -/
def foldI (v : Int) : Int := if 0 ≤ v then 2 * v else -2 * v - 1
theorem foldI_range {v : Int} (h0 : -9223372036854775808 ≤ v) (h1 : v < 9223372036854775808) : 0 ≤ foldI v ∧ foldI v < 18446744073709551616 := by unfold foldI; split <;> omega

/-- what was written is a row of bytes, and of a begun byte what is left is 0. -/
def WOk (zs : List Int) (b : Nat) : Prop := b < 8 ∧ (∀ z ∈ zs, 0 ≤ z ∧ z < 256) ∧ (b ≠ 0 → zs ≠ [] ∧ zs.getD (zs.length - 1) 0 % 2 ^ (8 - b) = 0)

def bitPad (zs : List Int) (b : Nat) : List Int := if b = 0 then zs ++ [0] else zs
/-- one bit more. -/
def pushBit (zs : List Int) (b : Nat) (x : Int) : List Int × Nat :=
  ((bitPad zs b).set ((bitPad zs b).length - 1) ((bitPad zs b).getD ((bitPad zs b).length - 1) 0 + x * 2 ^ (7 - b)), (b + 1) % 8)
/-- the lowest k bits of v, the highest of them first. -/
def pushBits (v : Int) : Nat → List Int × Nat → List Int × Nat
  | 0, s => s
  | k + 1, s => pushBits v k (pushBit s.1 s.2 (v / 2 ^ k % 2))
def brought (n : Int) : Nat := if n < 0 then 0 else if n > 64 then 64 else n.toNat
theorem brought_le (n : Int) : brought n ≤ 64 := by unfold brought; split <;> (try split) <;> omega

theorem getD_mem_range {zs : List Int} (h : ∀ z ∈ zs, 0 ≤ z ∧ z < 256) (k : Nat) : 0 ≤ zs.getD k 0 ∧ zs.getD k 0 < 256 := by
  rw [List.getD_eq_getElem?_getD]
  by_cases hk : k < zs.length
  · rw [List.getElem?_eq_getElem hk]; exact h _ (List.getElem_mem hk)
  · rw [List.getElem?_eq_none (by omega)]; simp

theorem bitPad_ne (zs : List Int) (b : Nat) (h : WOk zs b) : bitPad zs b ≠ [] := by
  unfold bitPad; split
  · simp
  · rename_i hb; exact (h.2.2 hb).1
theorem bitPad_byte (zs : List Int) (b : Nat) (h : WOk zs b) : ∀ z ∈ bitPad zs b, 0 ≤ z ∧ z < 256 := by
  unfold bitPad; split
  · intro z hz
    rcases List.mem_append.1 hz with hz | hz
    · exact h.2.1 z hz
    · simp at hz; omega
  · exact h.2.1
/-- the last byte's free bits are 0. -/
theorem bitPad_last (zs : List Int) (b : Nat) (h : WOk zs b) : (bitPad zs b).getD ((bitPad zs b).length - 1) 0 % 2 ^ (8 - b) = 0 := by
  unfold bitPad; split
  · rename_i hb
    subst hb
    simp
  · rename_i hb; exact (h.2.2 hb).2

theorem pow_pos2 (n : Nat) : (0 : Int) < 2 ^ n := Int.pow_pos (by omega)
theorem last_room {z : Int} {b : Nat} (hb : b < 8) (h0 : 0 ≤ z) (h1 : z < 256) (hm : z % 2 ^ (8 - b) = 0) {x : Int} (hx : x = 0 ∨ x = 1) : 0 ≤ z + x * 2 ^ (7 - b) ∧ z + x * 2 ^ (7 - b) < 256 ∧ (z + x * 2 ^ (7 - b)) % 2 ^ (7 - b) = 0 := by
  have hbs : b = 0 ∨ b = 1 ∨ b = 2 ∨ b = 3 ∨ b = 4 ∨ b = 5 ∨ b = 6 ∨ b = 7 := by omega
  rcases hbs with rfl | rfl | rfl | rfl | rfl | rfl | rfl | rfl <;> rcases hx with rfl | rfl <;> simp at hm ⊢ <;> omega

theorem pushBit_ok {zs : List Int} {b : Nat} (h : WOk zs b) {x : Int} (hx : x = 0 ∨ x = 1) : WOk (pushBit zs b x).1 (pushBit zs b x).2 := by
  have hne := bitPad_ne zs b h
  have hbt := bitPad_byte zs b h
  have hl := bitPad_last zs b h
  have hlen : 0 < (bitPad zs b).length := List.length_pos_iff.2 hne
  have hr := last_room h.1 (getD_mem_range hbt _).1 (getD_mem_range hbt _).2 hl hx
  refine ⟨Nat.mod_lt _ (by omega), ?_, fun hb => ⟨?_, ?_⟩⟩
  · intro z hz
    rcases List.mem_or_eq_of_mem_set hz with hz | rfl
    · exact hbt z hz
    · exact ⟨hr.1, hr.2.1⟩
  · intro he
    exact hne (by simpa [pushBit] using he)
  · have hb1 : (b + 1) % 8 = b + 1 := by
      have := h.1
      have : (pushBit zs b x).2 = (b + 1) % 8 := rfl
      rw [this] at hb
      omega
    have e : (pushBit zs b x).2 = b + 1 := hb1
    rw [e, show 8 - (b + 1) = 7 - b by omega]
    have : (pushBit zs b x).1.getD ((pushBit zs b x).1.length - 1) 0 = (bitPad zs b).getD ((bitPad zs b).length - 1) 0 + x * 2 ^ (7 - b) := by
      simp only [pushBit, List.length_set]
      rw [List.getD_eq_getElem?_getD, List.getElem?_set_self (by omega)]
      rfl
    rw [this]
    exact hr.2.2
theorem bit_01 (v : Int) (k : Nat) : v / 2 ^ k % 2 = 0 ∨ v / 2 ^ k % 2 = 1 := by omega
theorem pushBits_ok (v : Int) : ∀ (k : Nat) (s : List Int × Nat), WOk s.1 s.2 → WOk (pushBits v k s).1 (pushBits v k s).2
  | 0, s, h => h
  | k + 1, s, h => pushBits_ok v k _ (pushBit_ok h (bit_01 v k))
theorem pushBit_len (zs : List Int) (b : Nat) (x : Int) : (pushBit zs b x).1.length ≤ zs.length + 1 := by
  simp only [pushBit, List.length_set, bitPad]; split <;> simp
theorem pushBits_len (v : Int) : ∀ (k : Nat) (s : List Int × Nat), (pushBits v k s).1.length ≤ s.1.length + k
  | 0, s => by simp [pushBits]
  | k + 1, s => by
    have := pushBits_len v k (pushBit s.1 s.2 (v / 2 ^ k % 2))
    have := pushBit_len s.1 s.2 (v / 2 ^ k % 2)
    simp only [pushBits]; omega
theorem WOk.app {zs xs : List Int} {b : Nat} (h : WOk zs b) (hx : ∀ z ∈ xs, 0 ≤ z ∧ z < 256) : WOk (zs ++ xs) 0 :=
  ⟨by omega, fun z hz => (List.mem_append.1 hz).elim (h.2.1 z) (hx z), fun h => absurd rfl h⟩
theorem WOk.nil : WOk [] 0 := ⟨by omega, by simp, fun h => absurd rfl h⟩

/-! ### the machine's ways to the same -/

theorem fdiv_pow (a : Int) (k : Nat) : a.fdiv (2 ^ k) = a / 2 ^ k := Int.fdiv_eq_ediv_of_nonneg _ (Int.le_of_lt (pow_pos2 k))
theorem shr_u64 (a : Int) {k : Nat} (hk : k ≤ 64) : shrOp .u64 a (k : Int) = a / 2 ^ k := shr_eq .u64 a k hk _ rfl
theorem div_pow_range {v : Int} (h0 : 0 ≤ v) (h1 : v < 18446744073709551616) (k : Nat) : 0 ≤ v / 2 ^ k ∧ v / 2 ^ k < 18446744073709551616 :=
  ⟨Int.ediv_nonneg h0 (Int.le_of_lt (pow_pos2 k)), Int.lt_of_le_of_lt (Int.ediv_le_self _ h0) h1⟩
/-- w.b[len-1] |= byte(v>>i & 1) << (7 - w.bits). -/
theorem or_bit {z : Int} {b : Nat} (hb : b < 8) (h0 : 0 ≤ z) (h1 : z < 256) (hm : z % 2 ^ (8 - b) = 0) {x : Int} (hx : x = 0 ∨ x = 1) :
    bitsOp .or .u8 z (shlOp .u8 (IntKind.u8.wrap x) ((7 : Int) - b)) = z + x * 2 ^ (7 - b) := by
  have hs : shlOp .u8 (IntKind.u8.wrap x) ((7 : Int) - b) = x * 2 ^ (7 - b) := by
    rw [show (7 : Int) - b = ((7 - b : Nat) : Int) by omega, shl_eq .u8 _ (7 - b) (by simp [IntKind.bits]; omega) _ rfl, wrap_u8, wrap_u8]
    have hbs : b = 0 ∨ b = 1 ∨ b = 2 ∨ b = 3 ∨ b = 4 ∨ b = 5 ∨ b = 6 ∨ b = 7 := by omega
    rcases hbs with rfl | rfl | rfl | rfl | rfl | rfl | rfl | rfl <;> rcases hx with rfl | rfl <;> simp
  rw [hs]
  have hr : 0 ≤ x * 2 ^ (7 - b) ∧ x * 2 ^ (7 - b) < 256 ∧ (x * 2 ^ (7 - b)).toNat < 2 ^ (8 - b) := by
    have hbs : b = 0 ∨ b = 1 ∨ b = 2 ∨ b = 3 ∨ b = 4 ∨ b = 5 ∨ b = 6 ∨ b = 7 := by omega
    rcases hbs with rfl | rfl | rfl | rfl | rfl | rfl | rfl | rfl <;> rcases hx with rfl | rfl <;> simp
  rw [bitsOp_eq _ _ _ _ (by simp), u8_or z _ h0 h1 hr.1 hr.2.1]
  have hz : z.toNat % 2 ^ (8 - b) = 0 := by
    have : ((z.toNat % 2 ^ (8 - b) : Nat) : Int) = 0 := by
      rw [Int.natCast_emod, Int.toNat_of_nonneg h0]
      simpa using hm
    omega
  rw [nat_join (8 - b) _ _ hz hr.2.2]
  omega

/-! ### how many bits a Writer holds -/
theorem mod_pow_succ (v : Int) (k : Nat) : v % 2 ^ (k + 1) = v / 2 ^ k % 2 * 2 ^ k + v % 2 ^ k := by
  have key : ∀ (P q c r : Int), 0 < P → (c = 0 ∨ c = 1) → 0 ≤ r → r < P → (P * (2 * q + c) + r) % (P * 2) = c * P + r := by
    intro P q c r hP hc h0 h1
    have e : P * (2 * q + c) + r = (c * P + r) + (P * 2) * q := by
      rw [Int.mul_add, ← Int.mul_assoc, Int.mul_comm P c]; omega
    rw [e, Int.add_mul_emod_self_left]
    rcases hc with rfl | rfl
    · rw [Int.zero_mul]; exact Int.emod_eq_of_lt (by omega) (by omega)
    · rw [Int.one_mul]; exact Int.emod_eq_of_lt (by omega) (by omega)
  have hp := pow_pos2 k
  have hd := Int.mul_ediv_add_emod v (2 ^ k)
  have hd2 := Int.mul_ediv_add_emod (v / 2 ^ k) 2
  have h := key (2 ^ k) (v / 2 ^ k / 2) (v / 2 ^ k % 2) (v % 2 ^ k) hp (bit_01 v k) (Int.emod_nonneg v (Int.ne_of_gt hp)) (Int.emod_lt_of_pos v hp)
  rw [hd2, hd, ← Int.pow_succ] at h
  exact h

def bitCap (s : List Int × Nat) : Int := 8 * (s.1.length : Int) - (if 0 < s.2 then 8 - (s.2 : Int) else 0)
theorem pushBit_cap {zs : List Int} {b : Nat} (hok : WOk zs b) (x : Int) : bitCap (pushBit zs b x) = bitCap (zs, b) + 1 := by
  have h8 := hok.1
  unfold bitCap pushBit bitPad
  simp only [List.length_set]
  by_cases h0 : b = 0
  · subst h0; simp; omega
  · have hne := (hok.2.2 h0).1
    rw [if_neg h0, if_pos (show 0 < b by omega)]
    by_cases h7 : b = 7
    · subst h7; simp
    · rw [show (b + 1) % 8 = b + 1 by omega, if_pos (by omega)]; omega
theorem pushBits_cap (v : Int) : ∀ (k : Nat) {zs : List Int} {b : Nat}, WOk zs b → bitCap (pushBits v k (zs, b)) = bitCap (zs, b) + k
  | 0, zs, b, _ => by simp [pushBits]
  | k + 1, zs, b, hok => by
    have h1 := pushBits_cap v k (zs := (pushBit zs b (v / 2 ^ k % 2)).1) (b := (pushBit zs b (v / 2 ^ k % 2)).2) (pushBit_ok hok (bit_01 v k))
    have h2 := pushBit_cap hok (v / 2 ^ k % 2)
    have e : pushBits v (k + 1) (zs, b) = pushBits v k ((pushBit zs b (v / 2 ^ k % 2)).1, (pushBit zs b (v / 2 ^ k % 2)).2) := rfl
    rw [e, h1]
    have h3 : bitCap ((pushBit zs b (v / 2 ^ k % 2)).1, (pushBit zs b (v / 2 ^ k % 2)).2) = bitCap (pushBit zs b (v / 2 ^ k % 2)) := rfl
    omega
end Go.Proofs.Ytcjlhfmjcioeeaa
