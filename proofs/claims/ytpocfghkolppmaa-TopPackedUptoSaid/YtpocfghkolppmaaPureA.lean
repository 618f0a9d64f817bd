/- Arithmetic of the machine's integers in plain terms: shifts, bit operations, wrapping. -/
/- What is written, in plain terms: numbers in sevens, numbers in fours, bits. -/
/- Samples in plain terms. -/
/- A Reader in plain terms: the bytes, where it stands, the bits read of the byte ahead, the fault; what each read makes of it. -/
/- A number read, in plain terms; and back. -/
/- Times and values as bits, in plain terms. -/
/- Values as bits, in plain terms. -/
/- Samples as bytes, in plain terms. -/
import Derived.Test.YtpocfghkolppmaaDen
import Derived.Laws.BitsAllLaws
set_option linter.unusedVariables false
set_option linter.unusedSimpArgs false
set_option maxRecDepth 100000
namespace Go.Proofs.Ytpocfghkolppmaa
open Go

theorem bitsOp_eq (op : BinOp) (k : IntKind) (a b : Int) (h : op = .and ∨ op = .or ∨ op = .xor ∨ op = .andNot) : bitsOp op k a b = bits op k a b := by
  rcases h with rfl | rfl | rfl | rfl <;> rfl

theorem wrap_u8 (n : Int) : IntKind.u8.wrap n = n % 256 := IntKind.wrap_u8' n
theorem wrap_u32 (n : Int) : IntKind.u32.wrap n = n % 4294967296 := IntKind.wrap_u32' n
theorem wrap_u64 (n : Int) : IntKind.u64.wrap n = n % 18446744073709551616 := by simp [IntKind.wrap, IntKind.bits, IntKind.signed]
theorem wrap_i64 (n : Int) : IntKind.i64.wrap n = (n + 9223372036854775808) % 18446744073709551616 - 9223372036854775808 := IntKind.wrap_i64 n
theorem wrap_i64_in {n : Int} (h0 : -9223372036854775808 ≤ n) (h1 : n < 9223372036854775808) : IntKind.i64.wrap n = n := by rw [wrap_i64]; omega

/-- a shift right by a constant. -/
theorem shr_eq (k : IntKind) (a : Int) (n : Nat) (h : n ≤ k.bits) (d : Int) (hd : (2 : Int) ^ n = d) : shrOp k a (n : Int) = a / d := by
  unfold shrOp
  rw [Int.toNat_natCast, show Nat.min n k.bits = n from Nat.min_eq_left h, hd, Int.fdiv_eq_ediv_of_nonneg]
  rw [← hd]; exact Int.pow_nonneg (by omega)
theorem shl_eq (k : IntKind) (a : Int) (n : Nat) (h : n ≤ k.bits) (d : Int) (hd : (2 : Int) ^ n = d) : shlOp k a (n : Int) = k.wrap (a * d) := by
  unfold shlOp
  rw [Int.toNat_natCast, show Nat.min n k.bits = n from Nat.min_eq_left h, hd]
theorem shr_u32_24 (a : Int) : shrOp .u32 a 24 = a / 16777216 := shr_eq .u32 a 24 (by decide) _ (by decide)
theorem shr_u32_16 (a : Int) : shrOp .u32 a 16 = a / 65536 := shr_eq .u32 a 16 (by decide) _ (by decide)
theorem shr_u32_8 (a : Int) : shrOp .u32 a 8 = a / 256 := shr_eq .u32 a 8 (by decide) _ (by decide)
theorem shr_u32_4 (a : Int) : shrOp .u32 a 4 = a / 16 := shr_eq .u32 a 4 (by decide) _ (by decide)
theorem shr_u64_7 (a : Int) : shrOp .u64 a 7 = a / 128 := shr_eq .u64 a 7 (by decide) _ (by decide)
theorem shr_u64_32 (a : Int) : shrOp .u64 a 32 = a / 4294967296 := shr_eq .u64 a 32 (by decide) _ (by decide)
theorem shr_u64_1 (a : Int) : shrOp .u64 a 1 = a / 2 := shr_eq .u64 a 1 (by decide) _ (by decide)
theorem shr_i64_63 (a : Int) : shrOp .i64 a 63 = a / 9223372036854775808 := shr_eq .i64 a 63 (by decide) _ (by decide)
theorem shl_u64_1 (a : Int) : shlOp .u64 a 1 = a * 2 % 18446744073709551616 := (shl_eq .u64 a 1 (by decide) 2 (by decide)).trans (wrap_u64 _)
theorem shl_u64_32 (a : Int) : shlOp .u64 a 32 = a * 4294967296 % 18446744073709551616 := (shl_eq .u64 a 32 (by decide) 4294967296 (by decide)).trans (wrap_u64 _)
theorem shl_u32_8 (a : Int) : shlOp .u32 a 8 = a * 256 % 4294967296 := (shl_eq .u32 a 8 (by decide) 256 (by decide)).trans (wrap_u32 _)

theorem or_u8_128 {x : Int} (h0 : 0 ≤ x) (h1 : x < 256) : bitsOp .or .u8 x 128 = x % 128 + 128 := by
  rw [bitsOp_eq _ _ _ _ (by simp), u8_or x 128 h0 h1 (by omega) (by omega)]
  have key : ∀ n : Fin 256, (n.val ||| 128) = n.val % 128 + 128 := by decide +kernel
  have := key ⟨x.toNat, by omega⟩
  simp only at this
  rw [show (128 : Int).toNat = 128 from rfl, this]
  omega
theorem and_u8_127 {x : Int} (h0 : 0 ≤ x) (h1 : x < 256) : bitsOp .and .u8 x 127 = x % 128 := by
  rw [bitsOp_eq _ _ _ _ (by simp), u8_and x 127 h0 h1 (by omega) (by omega)]
  rw [show (127 : Int).toNat = 127 from rfl, nat_mask7]
  omega
theorem and_u32_15 {x : Int} (h0 : 0 ≤ x) (h1 : x < 4294967296) : bitsOp .and .u32 x 15 = x % 16 := by
  rw [bitsOp_eq _ _ _ _ (by simp), u32_and x 15 h0 h1 (by omega) (by omega)]
  rw [show (15 : Int).toNat = 15 from rfl, nat_mask4]
  omega
theorem and_u64_1 {x : Int} (h0 : 0 ≤ x) (h1 : x < 18446744073709551616) : bitsOp .and .u64 x 1 = x % 2 := by
  rw [bitsOp_eq _ _ _ _ (by simp), u64_and x 1 h0 h1 (by omega) (by omega)]
  rw [show (1 : Int).toNat = 1 from rfl, nat_mask1]
  omega
theorem xor_u64_zero {x : Int} (h0 : 0 ≤ x) (h1 : x < 18446744073709551616) : bitsOp .xor .u64 x 0 = x := by
  rw [bitsOp_eq _ _ _ _ (by simp), u64_xor x 0 h0 h1 (by omega) (by omega)]
  rw [show (0 : Int).toNat = 0 from rfl, Nat.xor_zero]
  omega
theorem xor_u64_ones {x : Int} (h0 : 0 ≤ x) (h1 : x < 18446744073709551616) : bitsOp .xor .u64 x 18446744073709551615 = 18446744073709551615 - x := by
  rw [bitsOp_eq _ _ _ _ (by simp), u64_xor x _ h0 h1 (by omega) (by omega)]
  rw [show (18446744073709551615 : Int).toNat = 2 ^ 64 - 1 from rfl]
  have hx : x.toNat < 2 ^ 64 := by have : (2 : Nat) ^ 64 = 18446744073709551616 := by decide
                                   omega
  have : x.toNat ^^^ (2 ^ 64 - 1) = 2 ^ 64 - 1 - x.toNat := by
    apply Nat.eq_of_testBit_eq
    intro i
    rw [Nat.testBit_xor, Nat.testBit_two_pow_sub_one, Nat.sub_sub, Nat.add_comm 1, Nat.testBit_two_pow_sub_succ hx]
    by_cases hi : i < 64
    · simp [hi]
    · have : x.toNat.testBit i = false := Nat.testBit_lt_two_pow (Nat.lt_of_lt_of_le hx (Nat.pow_le_pow_right (by omega) (by omega)))
      simp [hi, this]
  rw [this]
  have : (2 : Nat) ^ 64 = 18446744073709551616 := by decide
  omega

theorem toNat_mod_pow {x : Int} (h0 : 0 ≤ x) {k : Nat} (hm : x % 2 ^ k = 0) : x.toNat % 2 ^ k = 0 := by
  have : ((x.toNat % 2 ^ k : Nat) : Int) = 0 := by
    rw [Int.natCast_emod, Int.toNat_of_nonneg h0]
    simpa using hm
  omega
theorem toNat_lt_pow {y : Int} (h0 : 0 ≤ y) {k : Nat} (h : y < 2 ^ k) : y.toNat < 2 ^ k := by
  have : ((y.toNat : Nat) : Int) < ((2 ^ k : Nat) : Int) := by
    rw [Int.toNat_of_nonneg h0]; simpa using h
  omega
theorem or_join_u64 (k : Nat) {x y : Int} (h0 : 0 ≤ x) (h1 : x < 18446744073709551616) (hm : x % 2 ^ k = 0) (g0 : 0 ≤ y) (g1 : y < 2 ^ k) (g2 : y < 18446744073709551616) : bitsOp .or .u64 x y = x + y := by
  rw [bitsOp_eq _ _ _ _ (by simp), u64_or x y h0 h1 g0 g2, nat_join k _ _ (toNat_mod_pow h0 hm) (toNat_lt_pow g0 g1)]
  omega
theorem or_join_u64' (k : Nat) {x y : Int} (h0 : 0 ≤ x) (h1 : x < 18446744073709551616) (hm : x % 2 ^ k = 0) (g0 : 0 ≤ y) (g1 : y < 2 ^ k) (g2 : y < 18446744073709551616) : bitsOp .or .u64 y x = y + x := by
  rw [bitsOp_eq _ _ _ _ (by simp), u64_or y x g0 g2 h0 h1, Nat.or_comm, nat_join k _ _ (toNat_mod_pow h0 hm) (toNat_lt_pow g0 g1)]
  omega
theorem or_join_u32 (k : Nat) {x y : Int} (h0 : 0 ≤ x) (h1 : x < 4294967296) (hm : x % 2 ^ k = 0) (g0 : 0 ≤ y) (g1 : y < 2 ^ k) (g2 : y < 4294967296) : bitsOp .or .u32 x y = x + y := by
  rw [bitsOp_eq _ _ _ _ (by simp), u32_or x y h0 h1 g0 g2, nat_join k _ _ (toNat_mod_pow h0 hm) (toNat_lt_pow g0 g1)]
  omega

end Go.Proofs.Ytpocfghkolppmaa

namespace Go.Proofs.Ytpocfghkolppmaa
open Go

/-- a number without sign, seven bits a byte. -/
def uvar (v : Nat) : List Int := if h : v < 128 then [(v : Int)] else ((v % 128 + 128 : Nat) : Int) :: uvar (v / 128)
  termination_by v
  decreasing_by omega

theorem uvar_lt {v : Nat} (h : v < 128) : uvar v = [(v : Int)] := by rw [uvar, dif_pos h]
theorem uvar_ge {v : Nat} (h : ¬ v < 128) : uvar v = ((v % 128 + 128 : Nat) : Int) :: uvar (v / 128) := by rw [uvar, dif_neg h]
theorem uvar_len : ∀ (k v : Nat), v < 128 ^ (k + 1) → (uvar v).length ≤ k + 1
  | 0, v, h => by rw [uvar_lt (by omega)]; simp
  | k + 1, v, h => by
    by_cases hv : v < 128
    · rw [uvar_lt hv]; simp
    · rw [uvar_ge hv]
      have := uvar_len k (v / 128) (by rw [Nat.div_lt_iff_lt_mul (by omega)]; rw [Nat.pow_succ] at h; omega)
      simp; omega
theorem uvar_len64 {v : Nat} (h : v < 18446744073709551616) : (uvar v).length ≤ 10 :=
  uvar_len 9 v (Nat.lt_of_lt_of_le h (by decide))
theorem uvar_pos (v : Nat) : 1 ≤ (uvar v).length := by
  rw [uvar]; split <;> simp
theorem uvar_byte (v : Nat) : ∀ z ∈ uvar v, 0 ≤ z ∧ z < 256 := by
  induction v using Nat.strongRecOn with
  | _ v ih =>
    intro z hz
    by_cases hv : v < 128
    · rw [uvar_lt hv] at hz; simp at hz; omega
    · rw [uvar_ge hv] at hz
      rcases List.mem_cons.1 hz with h | h
      · omega
      · exact ih (v / 128) (by omega) z h

/-- four bytes, the highest first. -/
def be32 (v : Int) : List Int := [v / 16777216 % 256, v / 65536 % 256, v / 256 % 256, v % 256]
theorem be32_len (v : Int) : (be32 v).length = 4 := rfl
theorem be32_byte (v : Int) : ∀ z ∈ be32 v, 0 ≤ z ∧ z < 256 := by
  intro z hz
  simp only [be32, List.mem_cons, List.not_mem_nil, or_false] at hz
  omega

/-- a number with its sign as one without. -/
def foldI (v : Int) : Int := if 0 ≤ v then 2 * v else -2 * v - 1
theorem foldI_range {v : Int} (h0 : -9223372036854775808 ≤ v) (h1 : v < 9223372036854775808) : 0 ≤ foldI v ∧ foldI v < 18446744073709551616 := by unfold foldI; split <;> omega

/-- what was written is a row of bytes, and of a begun byte what is left is 0. -/
def WOk (zs : List Int) (b : Nat) : Prop := b < 8 ∧ (∀ z ∈ zs, 0 ≤ z ∧ z < 256) ∧ (b ≠ 0 → zs ≠ [] ∧ zs.getD (zs.length - 1) 0 % 2 ^ (8 - b) = 0)

def bitPad (zs : List Int) (b : Nat) : List Int := if b = 0 then zs ++ [0] else zs
/-- one bit more. -/
def pushBit (zs : List Int) (b : Nat) (x : Int) : List Int × Nat :=
  ((bitPad zs b).set ((bitPad zs b).length - 1) ((bitPad zs b).getD ((bitPad zs b).length - 1) 0 + x * 2 ^ (7 - b)), (b + 1) % 8)
/-- the lowest k bits of v, the highest of them first. -/
def pushBits (v : Int) : Nat → List Int × Nat → List Int × Nat
  | 0, s => s
  | k + 1, s => pushBits v k (pushBit s.1 s.2 (v / 2 ^ k % 2))
def brought (n : Int) : Nat := if n < 0 then 0 else if n > 64 then 64 else n.toNat
theorem brought_le (n : Int) : brought n ≤ 64 := by unfold brought; split <;> (try split) <;> omega

theorem getD_mem_range {zs : List Int} (h : ∀ z ∈ zs, 0 ≤ z ∧ z < 256) (k : Nat) : 0 ≤ zs.getD k 0 ∧ zs.getD k 0 < 256 := by
  rw [List.getD_eq_getElem?_getD]
  by_cases hk : k < zs.length
  · rw [List.getElem?_eq_getElem hk]; exact h _ (List.getElem_mem hk)
  · rw [List.getElem?_eq_none (by omega)]; simp

theorem bitPad_ne (zs : List Int) (b : Nat) (h : WOk zs b) : bitPad zs b ≠ [] := by
  unfold bitPad; split
  · simp
  · rename_i hb; exact (h.2.2 hb).1
theorem bitPad_byte (zs : List Int) (b : Nat) (h : WOk zs b) : ∀ z ∈ bitPad zs b, 0 ≤ z ∧ z < 256 := by
  unfold bitPad; split
  · intro z hz
    rcases List.mem_append.1 hz with hz | hz
    · exact h.2.1 z hz
    · simp at hz; omega
  · exact h.2.1
/-- the last byte's free bits are 0. -/
theorem bitPad_last (zs : List Int) (b : Nat) (h : WOk zs b) : (bitPad zs b).getD ((bitPad zs b).length - 1) 0 % 2 ^ (8 - b) = 0 := by
  unfold bitPad; split
  · rename_i hb
    subst hb
    simp
  · rename_i hb; exact (h.2.2 hb).2

theorem pow_pos2 (n : Nat) : (0 : Int) < 2 ^ n := Int.pow_pos (by omega)
theorem last_room {z : Int} {b : Nat} (hb : b < 8) (h0 : 0 ≤ z) (h1 : z < 256) (hm : z % 2 ^ (8 - b) = 0) {x : Int} (hx : x = 0 ∨ x = 1) : 0 ≤ z + x * 2 ^ (7 - b) ∧ z + x * 2 ^ (7 - b) < 256 ∧ (z + x * 2 ^ (7 - b)) % 2 ^ (7 - b) = 0 := by
  have hbs : b = 0 ∨ b = 1 ∨ b = 2 ∨ b = 3 ∨ b = 4 ∨ b = 5 ∨ b = 6 ∨ b = 7 := by omega
  rcases hbs with rfl | rfl | rfl | rfl | rfl | rfl | rfl | rfl <;> rcases hx with rfl | rfl <;> simp at hm ⊢ <;> omega

theorem pushBit_ok {zs : List Int} {b : Nat} (h : WOk zs b) {x : Int} (hx : x = 0 ∨ x = 1) : WOk (pushBit zs b x).1 (pushBit zs b x).2 := by
  have hne := bitPad_ne zs b h
  have hbt := bitPad_byte zs b h
  have hl := bitPad_last zs b h
  have hlen : 0 < (bitPad zs b).length := List.length_pos_iff.2 hne
  have hr := last_room h.1 (getD_mem_range hbt _).1 (getD_mem_range hbt _).2 hl hx
  refine ⟨Nat.mod_lt _ (by omega), ?_, fun hb => ⟨?_, ?_⟩⟩
  · intro z hz
    rcases List.mem_or_eq_of_mem_set hz with hz | rfl
    · exact hbt z hz
    · exact ⟨hr.1, hr.2.1⟩
  · intro he
    exact hne (by simpa [pushBit] using he)
  · have hb1 : (b + 1) % 8 = b + 1 := by
      have := h.1
      have : (pushBit zs b x).2 = (b + 1) % 8 := rfl
      rw [this] at hb
      omega
    have e : (pushBit zs b x).2 = b + 1 := hb1
    rw [e, show 8 - (b + 1) = 7 - b by omega]
    have : (pushBit zs b x).1.getD ((pushBit zs b x).1.length - 1) 0 = (bitPad zs b).getD ((bitPad zs b).length - 1) 0 + x * 2 ^ (7 - b) := by
      simp only [pushBit, List.length_set]
      rw [List.getD_eq_getElem?_getD, List.getElem?_set_self (by omega)]
      rfl
    rw [this]
    exact hr.2.2
theorem bit_01 (v : Int) (k : Nat) : v / 2 ^ k % 2 = 0 ∨ v / 2 ^ k % 2 = 1 := by omega
theorem pushBits_ok (v : Int) : ∀ (k : Nat) (s : List Int × Nat), WOk s.1 s.2 → WOk (pushBits v k s).1 (pushBits v k s).2
  | 0, s, h => h
  | k + 1, s, h => pushBits_ok v k _ (pushBit_ok h (bit_01 v k))
theorem pushBit_len (zs : List Int) (b : Nat) (x : Int) : (pushBit zs b x).1.length ≤ zs.length + 1 := by
  simp only [pushBit, List.length_set, bitPad]; split <;> simp
theorem pushBits_len (v : Int) : ∀ (k : Nat) (s : List Int × Nat), (pushBits v k s).1.length ≤ s.1.length + k
  | 0, s => by simp [pushBits]
  | k + 1, s => by
    have := pushBits_len v k (pushBit s.1 s.2 (v / 2 ^ k % 2))
    have := pushBit_len s.1 s.2 (v / 2 ^ k % 2)
    simp only [pushBits]; omega
theorem WOk.app {zs xs : List Int} {b : Nat} (h : WOk zs b) (hx : ∀ z ∈ xs, 0 ≤ z ∧ z < 256) : WOk (zs ++ xs) 0 :=
  ⟨by omega, fun z hz => (List.mem_append.1 hz).elim (h.2.1 z) (hx z), fun h => absurd rfl h⟩
theorem WOk.nil : WOk [] 0 := ⟨by omega, by simp, fun h => absurd rfl h⟩

/-! ### the machine's ways to the same -/

theorem fdiv_pow (a : Int) (k : Nat) : a.fdiv (2 ^ k) = a / 2 ^ k := Int.fdiv_eq_ediv_of_nonneg _ (Int.le_of_lt (pow_pos2 k))
theorem shr_u64 (a : Int) {k : Nat} (hk : k ≤ 64) : shrOp .u64 a (k : Int) = a / 2 ^ k := shr_eq .u64 a k hk _ rfl
theorem div_pow_range {v : Int} (h0 : 0 ≤ v) (h1 : v < 18446744073709551616) (k : Nat) : 0 ≤ v / 2 ^ k ∧ v / 2 ^ k < 18446744073709551616 :=
  ⟨Int.ediv_nonneg h0 (Int.le_of_lt (pow_pos2 k)), Int.lt_of_le_of_lt (Int.ediv_le_self _ h0) h1⟩
/-- w.b[len-1] |= byte(v>>i & 1) << (7 - w.bits). -/
theorem or_bit {z : Int} {b : Nat} (hb : b < 8) (h0 : 0 ≤ z) (h1 : z < 256) (hm : z % 2 ^ (8 - b) = 0) {x : Int} (hx : x = 0 ∨ x = 1) :
    bitsOp .or .u8 z (shlOp .u8 (IntKind.u8.wrap x) ((7 : Int) - b)) = z + x * 2 ^ (7 - b) := by
  have hs : shlOp .u8 (IntKind.u8.wrap x) ((7 : Int) - b) = x * 2 ^ (7 - b) := by
    rw [show (7 : Int) - b = ((7 - b : Nat) : Int) by omega, shl_eq .u8 _ (7 - b) (by simp [IntKind.bits]; omega) _ rfl, wrap_u8, wrap_u8]
    have hbs : b = 0 ∨ b = 1 ∨ b = 2 ∨ b = 3 ∨ b = 4 ∨ b = 5 ∨ b = 6 ∨ b = 7 := by omega
    rcases hbs with rfl | rfl | rfl | rfl | rfl | rfl | rfl | rfl <;> rcases hx with rfl | rfl <;> simp
  rw [hs]
  have hr : 0 ≤ x * 2 ^ (7 - b) ∧ x * 2 ^ (7 - b) < 256 ∧ (x * 2 ^ (7 - b)).toNat < 2 ^ (8 - b) := by
    have hbs : b = 0 ∨ b = 1 ∨ b = 2 ∨ b = 3 ∨ b = 4 ∨ b = 5 ∨ b = 6 ∨ b = 7 := by omega
    rcases hbs with rfl | rfl | rfl | rfl | rfl | rfl | rfl | rfl <;> rcases hx with rfl | rfl <;> simp
  rw [bitsOp_eq _ _ _ _ (by simp), u8_or z _ h0 h1 hr.1 hr.2.1]
  have hz : z.toNat % 2 ^ (8 - b) = 0 := by
    have : ((z.toNat % 2 ^ (8 - b) : Nat) : Int) = 0 := by
      rw [Int.natCast_emod, Int.toNat_of_nonneg h0]
      simpa using hm
    omega
  rw [nat_join (8 - b) _ _ hz hr.2.2]
  omega

/-! ### how many bits a Writer holds -/
theorem mod_pow_succ (v : Int) (k : Nat) : v % 2 ^ (k + 1) = v / 2 ^ k % 2 * 2 ^ k + v % 2 ^ k := by
  have key : ∀ (P q c r : Int), 0 < P → (c = 0 ∨ c = 1) → 0 ≤ r → r < P → (P * (2 * q + c) + r) % (P * 2) = c * P + r := by
    intro P q c r hP hc h0 h1
    have e : P * (2 * q + c) + r = (c * P + r) + (P * 2) * q := by
      rw [Int.mul_add, ← Int.mul_assoc, Int.mul_comm P c]; omega
    rw [e, Int.add_mul_emod_self_left]
    rcases hc with rfl | rfl
    · rw [Int.zero_mul]; exact Int.emod_eq_of_lt (by omega) (by omega)
    · rw [Int.one_mul]; exact Int.emod_eq_of_lt (by omega) (by omega)
  have hp := pow_pos2 k
  have hd := Int.mul_ediv_add_emod v (2 ^ k)
  have hd2 := Int.mul_ediv_add_emod (v / 2 ^ k) 2
  have h := key (2 ^ k) (v / 2 ^ k / 2) (v / 2 ^ k % 2) (v % 2 ^ k) hp (bit_01 v k) (Int.emod_nonneg v (Int.ne_of_gt hp)) (Int.emod_lt_of_pos v hp)
  rw [hd2, hd, ← Int.pow_succ] at h
  exact h

def bitCap (s : List Int × Nat) : Int := 8 * (s.1.length : Int) - (if 0 < s.2 then 8 - (s.2 : Int) else 0)
theorem pushBit_cap {zs : List Int} {b : Nat} (hok : WOk zs b) (x : Int) : bitCap (pushBit zs b x) = bitCap (zs, b) + 1 := by
  have h8 := hok.1
  unfold bitCap pushBit bitPad
  simp only [List.length_set]
  by_cases h0 : b = 0
  · subst h0; simp; omega
  · have hne := (hok.2.2 h0).1
    rw [if_neg h0, if_pos (show 0 < b by omega)]
    by_cases h7 : b = 7
    · subst h7; simp
    · rw [show (b + 1) % 8 = b + 1 by omega, if_pos (by omega)]; omega
theorem pushBits_cap (v : Int) : ∀ (k : Nat) {zs : List Int} {b : Nat}, WOk zs b → bitCap (pushBits v k (zs, b)) = bitCap (zs, b) + k
  | 0, zs, b, _ => by simp [pushBits]
  | k + 1, zs, b, hok => by
    have h1 := pushBits_cap v k (zs := (pushBit zs b (v / 2 ^ k % 2)).1) (b := (pushBit zs b (v / 2 ^ k % 2)).2) (pushBit_ok hok (bit_01 v k))
    have h2 := pushBit_cap hok (v / 2 ^ k % 2)
    have e : pushBits v (k + 1) (zs, b) = pushBits v k ((pushBit zs b (v / 2 ^ k % 2)).1, (pushBit zs b (v / 2 ^ k % 2)).2) := rfl
    rw [e, h1]
    have h3 : bitCap ((pushBit zs b (v / 2 ^ k % 2)).1, (pushBit zs b (v / 2 ^ k % 2)).2) = bitCap (pushBit zs b (v / 2 ^ k % 2)) := rfl
    omega
end Go.Proofs.Ytpocfghkolppmaa

namespace Go.Proofs.Ytpocfghkolppmaa
open Go

/-- what a value may be: as the program's type holds it. -/
def VOk (v : Int × Int) : Prop := (0 ≤ v.1 ∧ v.1 < 256) ∧ -9223372036854775808 ≤ v.2 ∧ v.2 < 9223372036854775808
/-- a sample: its time, and its value's kind and number. -/
def scells (s : Int × Int × Int) : List Value := [.int .i64 s.1, .int .u8 s.2.1, .int .i64 s.2.2]
def vcells (v : Int × Int) : List Value := [.int .u8 v.1, .int .i64 v.2]
theorem scells_len (s : Int × Int × Int) : (scells s).length = 3 := rfl
def SOk (s : Int × Int × Int) : Prop := (-9223372036854775808 ≤ s.1 ∧ s.1 < 9223372036854775808) ∧ VOk s.2
theorem sok_get {l : List (Int × Int × Int)} (h0 : ∀ v ∈ l, SOk v) (i : Nat) : SOk (l.getD i (0, 0, 0)) := by
  rw [List.getD_eq_getElem?_getD]
  cases hh : l[i]? with
  | none => simp [SOk, VOk]
  | some z => exact h0 z (List.mem_of_getElem? hh)
theorem take_snoc {α : Type} {l : List α} {k : Nat} (d : α) (h : k < l.length) : l.take (k + 1) = l.take k ++ [l.getD k d] := by
  rw [List.take_succ_eq_append_getElem h, List.getD_eq_getElem?_getD, List.getElem?_eq_getElem h]; rfl

end Go.Proofs.Ytpocfghkolppmaa

namespace Go.Proofs.Ytpocfghkolppmaa
open Go

structure RS where
  xs : List Int
  pos : Nat
  bits : Nat
  fault : Option (TypeId × Value)
def errV : Option (TypeId × Value) → Value
  | none => .nilIface
  | some (t, v) => .iface t v
structure RSok (s : RS) : Prop where
  le : s.pos ≤ s.xs.length
  b8 : s.bits < 8
  b1 : 0 < s.bits → 0 < s.pos
  len : s.xs.length ≤ 140737488355328
  bytes : ∀ z ∈ s.xs, 0 ≤ z ∧ z < 256

def rRest (s : RS) : Bool := decide (0 < s.bits) && !decide (s.xs.getD (s.pos - 1) 0 * 2 ^ s.bits % 256 = 0)
def rFail (s : RS) (e : Option (TypeId × Value)) : RS := if s.fault = none then { s with fault := e } else s
/-- the parts of an error with a place: by the seat's type numbers. -/
def errAt (pos : Nat) (e : Int) : Option (TypeId × Value) := some (131, .agg #[.int .i64 pos, .iface 77 (.int .i64 e)])
def rBegin (s : RS) : RS × Bool :=
  if s.fault ≠ none then (s, false)
  else if rRest s then (rFail s (errAt (s.pos - 1) 31), false)
  else (s, true)
/-- the next n bytes. -/
def rTake (n : Nat) (s : RS) : RS × List Int :=
  if (rBegin s).2 then
    if s.xs.length - s.pos < n then (rFail s (errAt s.xs.length 30), [])
    else ({ s with pos := s.pos + n, bits := 0 }, (s.xs.drop s.pos).take n)
  else ((rBegin s).1, [])

theorem RSok.fail {s : RS} (h : RSok s) (e : Option (TypeId × Value)) : RSok (rFail s e) := by
  unfold rFail; split
  · exact ⟨h.le, h.b8, h.b1, h.len, h.bytes⟩
  · exact h
theorem RSok.begin {s : RS} (h : RSok s) : RSok (rBegin s).1 := by
  unfold rBegin; split
  · exact h
  split
  · exact h.fail _
  · exact h
theorem RSok.take {s : RS} (h : RSok s) (n : Nat) : RSok (rTake n s).1 := by
  unfold rTake; split
  · split
    · exact h.fail _
    · have := h.le
      exact ⟨by simp only; omega, by simp, by simp, h.len, h.bytes⟩
  · exact h.begin
theorem rBegin_true {s : RS} (h : (rBegin s).2 = true) : (rBegin s).1 = s ∧ s.fault = none ∧ rRest s = false := by
  unfold rBegin at h ⊢
  split at h
  · cases h
  · rename_i h0
    split at h
    · cases h
    · rename_i h1
      exact ⟨by rw [if_neg h0, if_neg h1], by simpa using h0, by simpa using h1⟩
theorem rBegin_ok {s : RS} (h0 : s.fault = none) (h1 : s.bits = 0) : rBegin s = (s, true) := by
  unfold rBegin rRest
  simp [h0, h1]
theorem rTake_ok {s : RS} {n : Nat} (h0 : s.fault = none) (h1 : s.bits = 0) (h2 : s.pos + n ≤ s.xs.length) : rTake n s = ({ s with pos := s.pos + n, bits := 0 }, (s.xs.drop s.pos).take n) := by
  unfold rTake
  rw [rBegin_ok h0 h1, if_pos rfl, if_neg (by omega)]
theorem rTake_len {s : RS} {n : Nat} : (rTake n s).2.length = 0 ∨ (rTake n s).2.length = n := by
  unfold rTake
  split
  · split
    · left; rfl
    · right; rw [List.length_take, List.length_drop]; omega
  · left; rfl
/-- bytes read as one number, the highest first. -/
def beNat (l : List Int) : Int := l.foldl (fun v c => v * 256 + c) 0

end Go.Proofs.Ytpocfghkolppmaa

namespace Go.Proofs.Ytpocfghkolppmaa
open Go

/-- a number's bytes, from the byte at place i on: what is read so far, or where it goes wrong. -/
def scan : List Int → Nat → Int → Nat → Except (Nat × Int) (Int × Nat)
  | [], k, v, i => .error (i, 30)
  | c :: r, k, v, i => if (k = 9 ∧ 1 < c) ∨ (0 < k ∧ c = 0) then .error (i, 31) else if c < 128 then .ok (v + c % 128 * 2 ^ (7 * k), i + 1) else scan r (k + 1) (v + c % 128 * 2 ^ (7 * k)) (i + 1)
def rNumber (most : Int) (above : Int) (s : RS) : RS × Int :=
  if (rBegin s).2 then match scan (s.xs.drop s.pos) 0 0 s.pos with
    | .error (i, e) => (rFail s (errAt i e), 0)
    | .ok (v, i) => if most < v then (rFail s (errAt s.pos above), 0) else ({ s with pos := i, bits := 0 }, v)
  else ((rBegin s).1, 0)

theorem scan_pos : ∀ (l : List Int) (k : Nat) (v : Int) (i : Nat) {u : Int} {j : Nat}, scan l k v i = .ok (u, j) → i < j ∧ j ≤ i + l.length
  | [], k, v, i, u, j, h => by cases h
  | c :: r, k, v, i, u, j, h => by
    unfold scan at h
    split at h
    · cases h
    split at h
    · injection h with h
      injection h with h1 h2
      subst h2
      simp only [List.length_cons]; omega
    · have := scan_pos r _ _ _ h
      simp only [List.length_cons]; omega
theorem scan_range : ∀ (l : List Int) (k : Nat) (v : Int) (i : Nat) {u : Int} {j : Nat}, (∀ z ∈ l, 0 ≤ z ∧ z < 256) → k ≤ 9 → 0 ≤ v → v < 2 ^ (7 * k) → scan l k v i = .ok (u, j) → 0 ≤ u ∧ u < 18446744073709551616
  | [], k, v, i, u, j, _, _, _, _, h => by cases h
  | c :: r, k, v, i, u, j, hb, hk, h0, h1, h => by
    have hc := hb c (by simp)
    unfold scan at h
    split at h
    · cases h
    rename_i hn
    have hks : k = 0 ∨ k = 1 ∨ k = 2 ∨ k = 3 ∨ k = 4 ∨ k = 5 ∨ k = 6 ∨ k = 7 ∨ k = 8 ∨ k = 9 := by omega
    split at h
    · injection h with h
      injection h with h2 _
      subst h2
      rcases hks with rfl | rfl | rfl | rfl | rfl | rfl | rfl | rfl | rfl | rfl <;> simp at h1 hn ⊢ <;> omega
    · rename_i hlt
      refine scan_range r (k + 1) _ _ (fun z hz => hb z (List.mem_cons_of_mem _ hz)) (by omega) ?_ ?_ h
      · rcases hks with rfl | rfl | rfl | rfl | rfl | rfl | rfl | rfl | rfl | rfl <;> simp at h1 hn ⊢ <;> omega
      · rcases hks with rfl | rfl | rfl | rfl | rfl | rfl | rfl | rfl | rfl | rfl <;> simp at h1 hn ⊢ <;> omega
theorem RSok.number {s : RS} (h : RSok s) (most above : Int) : RSok (rNumber most above s).1 := by
  unfold rNumber
  split
  · split
    · exact h.fail _
    · rename_i v i hs
      split
      · exact h.fail _
      · have := scan_pos _ _ _ _ hs
        rw [List.length_drop] at this
        have := h.le
        exact ⟨by simp only; omega, by simp, by simp, h.len, h.bytes⟩
  · exact h.begin

/-- what uvar wrote is read so. -/
theorem scan_uvar : ∀ (n v k : Nat) (acc : Int) (i : Nat) (rest : List Int), v ≤ n → (0 < k → 0 < v) → v < 2 ^ (64 - 7 * k) → k ≤ 9 → scan (uvar v ++ rest) k acc i = .ok (acc + v * 2 ^ (7 * k), i + (uvar v).length) := by
  intro n
  induction n with
  | zero =>
    intro v k acc i rest hv hk _ _
    obtain rfl : v = 0 := by omega
    have : k = 0 := by rcases Nat.eq_zero_or_pos k with h | h; exact h; have := hk h; omega
    subst this
    rw [uvar_lt (by omega)]
    simp [scan]
  | succ n ih =>
    intro v k acc i rest hv hk hlt hk9
    have h9 : k = 9 → v < 2 := fun h => by subst h; simpa using hlt
    by_cases h128 : v < 128
    · rw [uvar_lt h128, List.singleton_append, scan, if_neg, if_pos (by omega), List.length_singleton, show ((v : Int)) % 128 = v by omega]
      rintro (⟨h, h1⟩ | ⟨h, h1⟩)
      · have := h9 h; omega
      · have := hk h; omega
    · have hk8 : k ≤ 8 := by rcases Nat.lt_or_ge 8 k with h | h; · have := h9 (by omega); omega
                             · exact h
      rw [uvar_ge h128, List.cons_append, scan, if_neg, if_neg (by omega), ih (v / 128) (k + 1) _ _ _ (by omega) (fun _ => by omega) ?_ (by omega), List.length_cons]
      · have e : acc + ((v % 128 + 128 : Nat) : Int) % 128 * 2 ^ (7 * k) + ((v / 128 : Nat) : Int) * 2 ^ (7 * (k + 1)) = acc + (v : Int) * 2 ^ (7 * k) := by
          rw [show 7 * (k + 1) = 7 * k + 7 by omega, Int.pow_add, show ((v % 128 + 128 : Nat) : Int) % 128 = ((v % 128 : Nat) : Int) by omega]
          have hv : (v : Int) = (v % 128 : Nat) + (v / 128 : Nat) * 128 := by omega
          generalize ((v % 128 : Nat) : Int) = a at hv ⊢
          generalize ((v / 128 : Nat) : Int) = b at hv ⊢
          generalize (2 : Int) ^ (7 * k) = q
          rw [hv, Int.add_mul, Int.add_assoc, show (2 : Int) ^ 7 = 128 from rfl, Int.mul_assoc b 128 q, Int.mul_comm 128 q]
        rw [e]
        congr 2
        omega
      · have hks : k = 0 ∨ k = 1 ∨ k = 2 ∨ k = 3 ∨ k = 4 ∨ k = 5 ∨ k = 6 ∨ k = 7 ∨ k = 8 := by omega
        rcases hks with rfl | rfl | rfl | rfl | rfl | rfl | rfl | rfl | rfl <;> simp at hlt ⊢ <;> omega
      · rintro (⟨h, h1⟩ | ⟨h, h1⟩)
        · omega
        · omega
theorem scan_uvar0 {v : Nat} (h : v < 18446744073709551616) (i : Nat) (rest : List Int) : scan (uvar v ++ rest) 0 0 i = .ok ((v : Int), i + (uvar v).length) := by
  have := scan_uvar v v 0 0 i rest (Nat.le_refl _) (fun h => absurd h (by omega)) (by simpa using h) (by omega)
  simpa using this

/-- what is read was written so. -/
theorem scan_back : ∀ (l : List Int) (k : Nat) (acc : Int) (i : Nat) {u : Int} {j : Nat}, (∀ z ∈ l, 0 ≤ z ∧ z < 256) → scan l k acc i = .ok (u, j) →
    ∃ v : Nat, u = acc + v * 2 ^ (7 * k) ∧ l.take (j - i) = uvar v ∧ (0 < k → 0 < v)
  | [], k, v, i, u, j, _, h => by cases h
  | c :: r, k, acc, i, u, j, hb, h => by
    have hc := hb c (by simp)
    have hp := scan_pos _ _ _ _ h
    unfold scan at h
    split at h
    · cases h
    rename_i hn
    split at h
    · injection h with h
      injection h with h2 h3
      subst h3
      refine ⟨c.toNat, ?_, ?_, ?_⟩
      · rw [← h2, show c % 128 = c by omega, Int.toNat_of_nonneg hc.1]
      · rw [uvar_lt (by omega), show i + 1 - i = 1 by omega]
        simp; omega
      · intro hk; omega
    · obtain ⟨v, hu, ht, hv⟩ := scan_back r (k + 1) _ (i + 1) (fun z hz => hb z (List.mem_cons_of_mem _ hz)) h
      have hv := hv (by omega)
      have hp2 := scan_pos _ _ _ _ h
      refine ⟨(c % 128).toNat + 128 * v, ?_, ?_, fun _ => by omega⟩
      · rw [hu, show 7 * (k + 1) = 7 * k + 7 by omega, Int.pow_add]
        have e : (((c % 128).toNat + 128 * v : Nat) : Int) = c % 128 + 128 * (v : Int) := by omega
        rw [e]
        generalize c % 128 = a
        generalize (v : Int) = b
        generalize (2 : Int) ^ (7 * k) = q
        rw [Int.add_mul, Int.add_assoc, show (2 : Int) ^ 7 = 128 from rfl, Int.mul_comm q 128, ← Int.mul_assoc b 128 q, Int.mul_comm b 128]
      · rw [uvar_ge (by omega), show j - i = (j - (i + 1)) + 1 by omega, List.take_succ_cons, ht]
        congr 1
        · omega
        · congr 1; omega

end Go.Proofs.Ytpocfghkolppmaa

namespace Go.Proofs.Ytpocfghkolppmaa
open Go

theorem pushBits_add (v : Int) (b : Nat) : ∀ (a : Nat) (s : List Int × Nat), pushBits v (a + b) s = pushBits v b (pushBits (v / 2 ^ b) a s)
  | 0, s => by rw [Nat.zero_add]; rfl
  | a + 1, s => by
    rw [show a + 1 + b = (a + b) + 1 by omega, pushBits, pushBits_add v b a]
    show _ = pushBits v b (pushBits (v / 2 ^ b) a (pushBit s.1 s.2 (v / 2 ^ b / 2 ^ a % 2)))
    rw [Int.ediv_ediv_of_nonneg (Int.le_of_lt (pow_pos2 b)), ← Int.pow_add, Nat.add_comm b a]
theorem pushBits_congr {v u : Int} : ∀ (k : Nat) (s : List Int × Nat), v % 2 ^ k = u % 2 ^ k → pushBits v k s = pushBits u k s
  | 0, s, _ => rfl
  | k + 1, s, h => by
    have hp := pow_pos2 k
    rw [mod_pow_succ v k, mod_pow_succ u k] at h
    have hv0 := Int.emod_nonneg v (Int.ne_of_gt hp)
    have hv1 := Int.emod_lt_of_pos v hp
    have hu0 := Int.emod_nonneg u (Int.ne_of_gt hp)
    have hu1 := Int.emod_lt_of_pos u hp
    have hb := bit_01 v k
    have hc := bit_01 u k
    have e : v / 2 ^ k % 2 = u / 2 ^ k % 2 ∧ v % 2 ^ k = u % 2 ^ k := by
      generalize v / 2 ^ k % 2 = x at *
      generalize u / 2 ^ k % 2 = y at *
      generalize v % 2 ^ k = r at *
      generalize u % 2 ^ k = q at *
      rcases hb with rfl | rfl <;> rcases hc with rfl | rfl <;> simp at h ⊢ <;> omega
    rw [pushBits, pushBits, e.1]
    exact pushBits_congr k _ e.2

/-- one difference. -/
def dput (d : Int) (s : List Int × Nat) : List Int × Nat :=
  if d = 0 then pushBits 0 1 s
  else if -63 ≤ d ∧ d ≤ 64 then pushBits (d + 63) 7 (pushBits 2 2 s)
  else if -255 ≤ d ∧ d ≤ 256 then pushBits (d + 255) 9 (pushBits 6 3 s)
  else if -2047 ≤ d ∧ d ≤ 2048 then pushBits (d + 2047) 12 (pushBits 14 4 s)
  else pushBits (d % 18446744073709551616) 64 (pushBits 15 4 s)
theorem dput_ok (d : Int) {s : List Int × Nat} (h : WOk s.1 s.2) : WOk (dput d s).1 (dput d s).2 := by
  unfold dput
  split
  · exact pushBits_ok _ _ _ h
  split
  · exact pushBits_ok _ _ _ (pushBits_ok _ _ _ h)
  split
  · exact pushBits_ok _ _ _ (pushBits_ok _ _ _ h)
  split
  · exact pushBits_ok _ _ _ (pushBits_ok _ _ _ h)
  · exact pushBits_ok _ _ _ (pushBits_ok _ _ _ h)
theorem dput_len (d : Int) (s : List Int × Nat) : (dput d s).1.length ≤ s.1.length + 68 := by
  unfold dput
  split
  · exact Nat.le_trans (pushBits_len _ _ _) (by omega)
  split
  · exact Nat.le_trans (pushBits_len _ _ _) (by have := pushBits_len 2 2 s; omega)
  split
  · exact Nat.le_trans (pushBits_len _ _ _) (by have := pushBits_len 6 3 s; omega)
  split
  · exact Nat.le_trans (pushBits_len _ _ _) (by have := pushBits_len 14 4 s; omega)
  · exact Nat.le_trans (pushBits_len _ _ _) (by have := pushBits_len 15 4 s; omega)

/-- the difference of differences at place i, as int64 has it. -/
def tD (l : List Int) (i : Nat) : Int := IntKind.i64.wrap (l.getD i 0 - l.getD (i - 1) 0 - (l.getD (i - 1) 0 - l.getD (i - 2) 0))
/-- what the first k times leave written. -/
def tW (l : List Int) : Nat → List Int × Nat
  | 0 => (uvar l.length, 0)
  | 1 => (uvar l.length ++ uvar (foldI (l.getD 0 0)).toNat, 0)
  | 2 => ((uvar l.length ++ uvar (foldI (l.getD 0 0)).toNat) ++ uvar ((l.getD 1 0 - l.getD 0 0) % 18446744073709551616).toNat, 0)
  | k + 3 => dput (tD l (k + 2)) (tW l (k + 2))
theorem tW_ok (l : List Int) : ∀ k, WOk (tW l k).1 (tW l k).2
  | 0 => by have := WOk.nil.app (uvar_byte l.length); show WOk (uvar l.length) 0; simpa using this
  | 1 => (show WOk (uvar l.length) 0 by have := WOk.nil.app (uvar_byte l.length); simpa using this).app (uvar_byte _)
  | 2 => ((show WOk (uvar l.length) 0 by have := WOk.nil.app (uvar_byte l.length); simpa using this).app (uvar_byte _)).app (uvar_byte _)
  | k + 3 => dput_ok _ (tW_ok l (k + 2))
theorem tW_len {l : List Int} (hl : l.length ≤ 1048576) (h0 : ∀ z ∈ l, -9223372036854775808 ≤ z ∧ z < 9223372036854775808) : ∀ k, (tW l k).1.length ≤ 30 + 68 * k
  | 0 => by have := uvar_len64 (v := l.length) (by omega); simp only [tW]; omega
  | 1 => by
    have h1 := uvar_len64 (v := l.length) (by omega)
    have h2 := uvar_len64 (v := (foldI (l.getD 0 0)).toNat) (fold_lt h0 0)
    simp only [tW, List.length_append]; omega
  | 2 => by
    have h1 := uvar_len64 (v := l.length) (by omega)
    have h2 := uvar_len64 (v := (foldI (l.getD 0 0)).toNat) (fold_lt h0 0)
    have h3 := uvar_len64 (v := ((l.getD 1 0 - l.getD 0 0) % 18446744073709551616).toNat) (by omega)
    simp only [tW, List.length_append]; omega
  | k + 3 => by
    have h1 := tW_len hl h0 (k + 2)
    have h2 := dput_len (tD l (k + 2)) (tW l (k + 2))
    simp only [tW]; omega
where
  fold_lt {l : List Int} (h0 : ∀ z ∈ l, -9223372036854775808 ≤ z ∧ z < 9223372036854775808) (i : Nat) : (foldI (l.getD i 0)).toNat < 18446744073709551616 := by
    have h : -9223372036854775808 ≤ l.getD i 0 ∧ l.getD i 0 < 9223372036854775808 := by
      rw [List.getD_eq_getElem?_getD]
      cases hh : l[i]? with
      | none => simp
      | some z => exact h0 z (List.mem_of_getElem? hh)
    have := foldI_range h.1 h.2
    omega
theorem i64_get {l : List Int} (h0 : ∀ z ∈ l, -9223372036854775808 ≤ z ∧ z < 9223372036854775808) (i : Nat) : -9223372036854775808 ≤ l.getD i 0 ∧ l.getD i 0 < 9223372036854775808 := by
  rw [List.getD_eq_getElem?_getD]
  cases hh : l[i]? with
  | none => simp
  | some z => exact h0 z (List.mem_of_getElem? hh)

/-- each of the first k is above the one ahead. -/
def Rises (l : List Int) (k : Nat) : Prop := ∀ i, i < k → 0 < i → l.getD (i - 1) 0 < l.getD i 0
open Classical in
/-- what is wrong with times, if anything. -/
noncomputable def tErr (l : List Int) : Option Int := if 1048576 < l.length then some 6 else if Rises l l.length then none else some 2
theorem tErr_long {l : List Int} (h : 1048576 < l.length) : tErr l = some 6 := if_pos h
theorem tErr_rise {l : List Int} (h : l.length ≤ 1048576) (hr : Rises l l.length) : tErr l = none := by unfold tErr; rw [if_neg (by omega), if_pos hr]
theorem tErr_fall {l : List Int} (h : l.length ≤ 1048576) {i : Nat} (h0 : 0 < i) (h1 : i < l.length) (hf : l.getD i 0 ≤ l.getD (i - 1) 0) : tErr l = some 2 := by
  unfold tErr
  rw [if_neg (by omega), if_neg]
  intro hr
  have := hr i h1 h0
  omega

end Go.Proofs.Ytpocfghkolppmaa

namespace Go.Proofs.Ytpocfghkolppmaa
open Go

/-- how many bits a number has, one at least. -/
def vsize (z : Int) : Nat := Nat.log2 z.toNat + 1
theorem vsize_up {z : Int} (h0 : 0 ≤ z) : z < 2 ^ vsize z := by
  have h : z.toNat < 2 ^ (Nat.log2 z.toNat + 1) := Nat.lt_log2_self
  unfold vsize
  have : ((2 ^ (Nat.log2 z.toNat + 1) : Nat) : Int) = 2 ^ (Nat.log2 z.toNat + 1) := by simp
  omega
theorem vsize_lo {z : Int} (h0 : 0 ≤ z) (h : 1 < vsize z) : 2 ^ (vsize z - 1) ≤ z := by
  unfold vsize at *
  have hz : z.toNat ≠ 0 := by intro e; rw [e] at h; simp at h
  have h2 := Nat.log2_self_le hz
  have : ((2 ^ (Nat.log2 z.toNat) : Nat) : Int) = 2 ^ (Nat.log2 z.toNat) := by simp
  rw [show Nat.log2 z.toNat + 1 - 1 = Nat.log2 z.toNat by omega]
  omega
theorem pow_mono2 {a b : Nat} (h : a ≤ b) : (2 : Int) ^ a ≤ 2 ^ b := by
  have := Nat.pow_le_pow_right (show 0 < 2 by omega) h
  have h1 : ((2 ^ a : Nat) : Int) = 2 ^ a := by simp
  have h2 : ((2 ^ b : Nat) : Int) = 2 ^ b := by simp
  omega
theorem vsize_unique {z : Int} (h0 : 0 ≤ z) {n : Nat} (h1 : 1 ≤ n) (hu : z < 2 ^ n) (hl : 1 < n → 2 ^ (n - 1) ≤ z) : n = vsize z := by
  have u := vsize_up h0
  have l := vsize_lo h0
  rcases Nat.lt_trichotomy n (vsize z) with h | h | h
  · have := l (by omega)
    have := pow_mono2 (show n ≤ vsize z - 1 by omega)
    omega
  · exact h
  · have := hl (by unfold vsize at h; omega)
    have := pow_mono2 (show vsize z ≤ n - 1 by omega)
    omega
theorem vsize_pos (z : Int) : 1 ≤ vsize z := by unfold vsize; omega
theorem vsize_64 {z : Int} (h0 : 0 ≤ z) (h1 : z < 18446744073709551616) : vsize z ≤ 64 := by
  rcases Nat.lt_or_ge 64 (vsize z) with h | h
  · have := vsize_lo h0 (by omega)
    have := pow_mono2 (show 64 ≤ vsize z - 1 by omega)
    have : (2 : Int) ^ 64 = 18446744073709551616 := by decide
    omega
  · exact h

/-- a value: its kind and its number. -/
theorem vcells_len (v : Int × Int) : (vcells v).length = 2 := rfl
/-- what values' writing goes on from. -/
structure VS where
  q : List Int × Nat
  last : Int × Int
  ahead : Int
def vput (s : VS) (v : Int × Int) : List Int × Nat :=
  if v = s.last then pushBits 0 1 s.q
  else if v.1 = 0 then pushBits (foldI (IntKind.i64.wrap (v.2 - s.ahead))) (vsize (foldI (IntKind.i64.wrap (v.2 - s.ahead)))) (pushBits ((vsize (foldI (IntKind.i64.wrap (v.2 - s.ahead))) : Int) - 1) 6 (pushBits 2 2 s.q))
  else if v.1 = 1 then pushBits 6 3 s.q
  else pushBits 7 3 s.q
def vstep (s : VS) (v : Int × Int) : VS := ⟨vput s v, v, if v.1 = 0 then v.2 else s.ahead⟩
def vS (l : List (Int × Int)) : Nat → VS
  | 0 => ⟨(uvar l.length, 0), (0, 0), 0⟩
  | k + 1 => vstep (vS l k) (l.getD k (0, 0))
theorem vput_ok (s : VS) (v : Int × Int) (h : WOk s.q.1 s.q.2) : WOk (vput s v).1 (vput s v).2 := by
  unfold vput
  split
  · exact pushBits_ok _ _ _ h
  split
  · exact pushBits_ok _ _ _ (pushBits_ok _ _ _ (pushBits_ok _ _ _ h))
  split
  · exact pushBits_ok _ _ _ h
  · exact pushBits_ok _ _ _ h
theorem zrange (n a : Int) : 0 ≤ foldI (IntKind.i64.wrap (n - a)) ∧ foldI (IntKind.i64.wrap (n - a)) < 18446744073709551616 := by
  have h := wrap_i64 (n - a)
  exact foldI_range (by omega) (by omega)
theorem vput_len (s : VS) (v : Int × Int) : (vput s v).1.length ≤ s.q.1.length + 72 := by
  unfold vput
  split
  · exact Nat.le_trans (pushBits_len _ _ _) (by omega)
  split
  · have hz := zrange v.2 s.ahead
    have h64 := vsize_64 hz.1 hz.2
    refine Nat.le_trans (pushBits_len _ _ _) ?_
    have h1 := pushBits_len ((vsize (foldI (IntKind.i64.wrap (v.2 - s.ahead))) : Int) - 1) 6 (pushBits 2 2 s.q)
    have h2 := pushBits_len 2 2 s.q
    omega
  split
  · exact Nat.le_trans (pushBits_len _ _ _) (by omega)
  · exact Nat.le_trans (pushBits_len _ _ _) (by omega)
theorem vS_ok (l : List (Int × Int)) : ∀ k, WOk (vS l k).q.1 (vS l k).q.2
  | 0 => by have := WOk.nil.app (uvar_byte l.length); show WOk (uvar l.length) 0; simpa using this
  | k + 1 => vput_ok _ _ (vS_ok l k)
theorem vS_len {l : List (Int × Int)} (hl : l.length ≤ 1048576) : ∀ k, (vS l k).q.1.length ≤ 10 + 72 * k
  | 0 => by have := uvar_len64 (v := l.length) (by omega); simp only [vS]; omega
  | k + 1 => by
    have h1 := vS_len hl k
    have h2 := vput_len (vS l k) (l.getD k (0, 0))
    show (vput (vS l k) (l.getD k (0, 0))).1.length ≤ _
    omega
/-- the last number told is the last value, if that is a number. -/
theorem vS_ahead (l : List (Int × Int)) : ∀ k, (vS l k).last.1 = 0 → (vS l k).ahead = (vS l k).last.2
  | 0 => fun _ => rfl
  | k + 1 => fun h => by
    show (if (l.getD k (0, 0)).1 = 0 then (l.getD k (0, 0)).2 else (vS l k).ahead) = (l.getD k (0, 0)).2
    exact if_pos h
theorem two_three (v : Int) (h : v = 1 ∨ v = 2) (s : List Int × Nat) : pushBits (v - 1) 1 (pushBits 3 2 s) = pushBits (if v = 1 then 6 else 7) 3 s := by
  rcases h with rfl | rfl
  · rw [if_pos rfl]; exact (pushBits_add 6 1 2 s).symm
  · rw [if_neg (by omega)]
    have := pushBits_add 7 1 2 s
    rw [show (2 : Int) - 1 = 1 by omega]
    rw [this]
    exact pushBits_congr 1 _ (by decide)
/-- is it right? -/
def VRight (v : Int × Int) : Prop := v.1 = 0 ∨ (v.1 = 1 ∨ v.1 = 2) ∧ v.2 = 0
theorem vok_get {l : List (Int × Int)} (h0 : ∀ v ∈ l, VOk v) (i : Nat) : VOk (l.getD i (0, 0)) := by
  rw [List.getD_eq_getElem?_getD]
  cases hh : l[i]? with
  | none => simp [VOk]
  | some z => exact h0 z (List.mem_of_getElem? hh)
theorem vahead {l : List (Int × Int)} (h0 : ∀ v ∈ l, VOk v) : ∀ k, -9223372036854775808 ≤ (vS l k).ahead ∧ (vS l k).ahead < 9223372036854775808
  | 0 => by simp [vS]
  | k + 1 => by
    show -9223372036854775808 ≤ (if (l.getD k (0, 0)).1 = 0 then (l.getD k (0, 0)).2 else (vS l k).ahead) ∧ (if (l.getD k (0, 0)).1 = 0 then (l.getD k (0, 0)).2 else (vS l k).ahead) < 9223372036854775808
    have h1 := vahead h0 k
    have h2 := vok_get h0 k
    split
    · exact h2.2
    · exact h1
open Classical in
/-- what is wrong with values, if anything. -/
noncomputable def vErr (l : List (Int × Int)) : Option Int := if 1048576 < l.length then some 6 else if ∀ i, i < l.length → VRight (l.getD i (0, 0)) then none else some 2
theorem vErr_long {l : List (Int × Int)} (h : 1048576 < l.length) : vErr l = some 6 := if_pos h
theorem vErr_right {l : List (Int × Int)} (h : l.length ≤ 1048576) (hr : ∀ i, i < l.length → VRight (l.getD i (0, 0))) : vErr l = none := by unfold vErr; rw [if_neg (by omega), if_pos hr]
theorem vErr_wrong {l : List (Int × Int)} (h : l.length ≤ 1048576) {i : Nat} (h1 : i < l.length) (hf : ¬ VRight (l.getD i (0, 0))) : vErr l = some 2 := by
  unfold vErr
  rw [if_neg (by omega), if_neg]
  intro hr
  exact hf (hr i h1)

end Go.Proofs.Ytpocfghkolppmaa

namespace Go.Proofs.Ytpocfghkolppmaa
open Go

def tms (l : List (Int × Int × Int)) : List Int := l.map (fun s => s.1)
def vls (l : List (Int × Int × Int)) : List (Int × Int) := l.map (fun s => s.2)
theorem tms_len (l : List (Int × Int × Int)) : (tms l).length = l.length := List.length_map _
theorem vls_len (l : List (Int × Int × Int)) : (vls l).length = l.length := List.length_map _
theorem sok_tms {l : List (Int × Int × Int)} (h : ∀ s ∈ l, SOk s) : ∀ z ∈ tms l, -9223372036854775808 ≤ z ∧ z < 9223372036854775808 := by
  intro z hz
  obtain ⟨s, hs, rfl⟩ := List.mem_map.1 hz
  exact (h s hs).1
theorem sok_vls {l : List (Int × Int × Int)} (h : ∀ s ∈ l, SOk s) : ∀ v ∈ vls l, VOk v := by
  intro v hv
  obtain ⟨s, hs, rfl⟩ := List.mem_map.1 hv
  exact (h s hs).2
def rawB (b : List Int) : List Int := uvar b.length ++ b
/-- what is wrong with samples, if anything. -/
noncomputable def pErr (l : List (Int × Int × Int)) : Option Int := match tErr (tms l) with
  | some e => some e
  | none => vErr (vls l)
def pOut (l : List (Int × Int × Int)) : List Int := rawB (tW (tms l) l.length).1 ++ rawB (vS (vls l) l.length).q.1
theorem pErr_none {l : List (Int × Int × Int)} (h : pErr l = none) : tErr (tms l) = none ∧ vErr (vls l) = none := by
  unfold pErr at h
  cases ht : tErr (tms l) with
  | none => rw [ht] at h; exact ⟨rfl, h⟩
  | some e => rw [ht] at h; cases h
theorem pErr_t {l : List (Int × Int × Int)} {e : Int} (h : tErr (tms l) = some e) : pErr l = some e := by unfold pErr; rw [h]
theorem pErr_v {l : List (Int × Int × Int)} (h : tErr (tms l) = none) : pErr l = vErr (vls l) := by unfold pErr; rw [h]
theorem pOut_len {l : List (Int × Int × Int)} (hl : l.length ≤ 1048576) (h0 : ∀ s ∈ l, SOk s) : (pOut l).length ≤ 60 + 140 * l.length := by
  have h1 := tW_len (l := tms l) (by rw [tms_len]; exact hl) (sok_tms h0) l.length
  have h2 := vS_len (l := vls l) (by rw [vls_len]; exact hl) l.length
  have h3 := uvar_len64 (v := (tW (tms l) l.length).1.length) (by omega)
  have h4 := uvar_len64 (v := (vS (vls l) l.length).q.1.length) (by omega)
  simp only [pOut, rawB, List.length_append]
  omega

/-! ### a thousand samples of one step, with one value -/

theorem bitCap0 (zs : List Int) : bitCap (zs, 0) = 8 * (zs.length : Int) := by simp [bitCap]
theorem bitCap_len {s : List Int × Nat} (h : WOk s.1 s.2) : bitCap s ≤ 8 * (s.1.length : Int) ∧ 8 * (s.1.length : Int) ≤ bitCap s + 7 := by
  have h8 := h.1
  unfold bitCap
  split <;> omega
def even (f st : Int) (v : Int) (n : Nat) : List (Int × Int × Int) := (List.range n).map (fun i : Nat => (f + (i : Int) * st, (0 : Int), v))
theorem even_len (f st v : Int) (n : Nat) : (even f st v n).length = n := by simp [even]
theorem even_t (f st v : Int) {n i : Nat} (h : i < n) : (tms (even f st v n)).getD i 0 = f + i * st := by
  rw [List.getD_eq_getElem?_getD]
  simp [tms, even, h]
theorem even_v (f st v : Int) {n i : Nat} (h : i < n) : (vls (even f st v n)).getD i (0, 0) = (0, v) := by
  rw [List.getD_eq_getElem?_getD]
  simp [vls, even, h]
theorem even_rises {f st v : Int} {n : Nat} (hs : 0 < st) : Rises (tms (even f st v n)) n := by
  intro i hi h0
  rw [even_t f st v hi, even_t f st v (by omega)]
  have : ((i : Nat) : Int) * st = ((i - 1 : Nat) : Int) * st + st := by
    rw [show ((i : Nat) : Int) = ((i - 1 : Nat) : Int) + 1 by omega, Int.add_mul, Int.one_mul]
  omega
theorem even_tD {f st v : Int} {n i : Nat} (h2 : 2 ≤ i) (h : i < n) : tD (tms (even f st v n)) i = 0 := by
  unfold tD
  rw [even_t f st v h, even_t f st v (by omega), even_t f st v (by omega)]
  have e1 : ((i : Nat) : Int) * st = ((i - 2 : Nat) : Int) * st + 2 * st := by
    rw [show ((i : Nat) : Int) = ((i - 2 : Nat) : Int) + 2 by omega, Int.add_mul]
  have e2 : ((i - 1 : Nat) : Int) * st = ((i - 2 : Nat) : Int) * st + st := by
    rw [show ((i - 1 : Nat) : Int) = ((i - 2 : Nat) : Int) + 1 by omega, Int.add_mul, Int.one_mul]
  rw [e1, e2, show f + (((i - 2 : Nat) : Int) * st + 2 * st) - (f + (((i - 2 : Nat) : Int) * st + st)) - (f + (((i - 2 : Nat) : Int) * st + st) - (f + ((i - 2 : Nat) : Int) * st)) = 0 by omega]
  decide
theorem even_tcap {f st v : Int} {n : Nat} : ∀ k, k + 2 ≤ n → bitCap (tW (tms (even f st v n)) (k + 2)) = bitCap (tW (tms (even f st v n)) 2) + k
  | 0, _ => by simp
  | k + 1, h => by
    have ih := even_tcap (f := f) (st := st) (v := v) (n := n) k (by omega)
    have hd := even_tD (f := f) (st := st) (v := v) (n := n) (i := k + 2) (by omega) (by omega)
    have e : tW (tms (even f st v n)) (k + 1 + 2) = pushBits 0 1 (tW (tms (even f st v n)) (k + 2)) := by
      show dput (tD (tms (even f st v n)) (k + 2)) _ = _
      rw [hd]; rfl
    rw [e]
    have := pushBits_cap 0 1 (tW_ok (tms (even f st v n)) (k + 2))
    have this : bitCap (pushBits 0 1 (tW (tms (even f st v n)) (k + 2))) = bitCap (tW (tms (even f st v n)) (k + 2)) + ((1 : Nat) : Int) := this
    rw [this, ih]
    omega
theorem even_vlast {f st v : Int} {n : Nat} : ∀ k, k + 1 ≤ n → (vS (vls (even f st v n)) (k + 1)).last = (0, v) := by
  intro k h
  show (vls (even f st v n)).getD k (0, 0) = _
  exact even_v f st v (by omega)
theorem even_vcap {f st v : Int} {n : Nat} : ∀ k, k + 1 ≤ n → bitCap (vS (vls (even f st v n)) (k + 1)).q = bitCap (vS (vls (even f st v n)) 1).q + k
  | 0, _ => by simp
  | k + 1, h => by
    have ih := even_vcap (f := f) (st := st) (v := v) (n := n) k (by omega)
    have hl := even_vlast (f := f) (st := st) (v := v) (n := n) k (by omega)
    have e : (vS (vls (even f st v n)) (k + 1 + 1)).q = pushBits 0 1 (vS (vls (even f st v n)) (k + 1)).q := by
      show vput (vS (vls (even f st v n)) (k + 1)) ((vls (even f st v n)).getD (k + 1) (0, 0)) = _
      rw [even_v f st v (by omega)]
      unfold vput
      rw [hl, if_pos rfl]
    rw [e]
    have := pushBits_cap 0 1 (vS_ok (vls (even f st v n)) (k + 1))
    have this : bitCap (pushBits 0 1 (vS (vls (even f st v n)) (k + 1)).q) = bitCap (vS (vls (even f st v n)) (k + 1)).q + ((1 : Nat) : Int) := this
    rw [this, ih]
    omega
/-- P9.5: a thousand of them take few bytes. -/
theorem even_few {f st v : Int} (s0 : 1 ≤ st) (s1 : st ≤ 1125899906842624) (f0 : -4611686018427387904 ≤ f) (f1 : f ≤ 4611686018427387904) (v0 : -9223372036854775808 ≤ v) (v1 : v < 9223372036854775808) :
    200 < (pOut (even f st v 1000)).length ∧ (pOut (even f st v 1000)).length ≤ 300 := by
  have ht := even_tcap (f := f) (st := st) (v := v) (n := 1000) 998 (by omega)
  have hv := even_vcap (f := f) (st := st) (v := v) (n := 1000) 999 (by omega)
  have htl := bitCap_len (tW_ok (tms (even f st v 1000)) 1000)
  have hvl := bitCap_len (vS_ok (vls (even f st v 1000)) 1000)
  have hlt : (tms (even f st v 1000)).length = 1000 := by rw [tms_len, even_len]
  have hlv : (vls (even f st v 1000)).length = 1000 := by rw [vls_len, even_len]
  have u1 : (uvar 1000).length ≤ 2 := uvar_len 1 1000 (by decide)
  have t2 : 0 ≤ bitCap (tW (tms (even f st v 1000)) 2) ∧ bitCap (tW (tms (even f st v 1000)) 2) ≤ 8 * 22 := by
    have e : tW (tms (even f st v 1000)) 2 = ((uvar 1000 ++ uvar (foldI f).toNat) ++ uvar (st % 18446744073709551616).toNat, 0) := by
      show ((uvar (tms (even f st v 1000)).length ++ uvar (foldI ((tms (even f st v 1000)).getD 0 0)).toNat) ++ uvar (((tms (even f st v 1000)).getD 1 0 - (tms (even f st v 1000)).getD 0 0) % 18446744073709551616).toNat, 0) = _
      rw [hlt, even_t f st v (by omega), even_t f st v (by omega), show f + ((0 : Nat) : Int) * st = f by simp, show f + ((1 : Nat) : Int) * st - f = st by simp; omega]
    rw [e, bitCap0]
    have h1 := uvar_len64 (v := (foldI f).toNat) (by have := foldI_range (v := f) (by omega) (by omega); omega)
    have h2 := uvar_len64 (v := (st % 18446744073709551616).toNat) (by omega)
    simp only [List.length_append]
    omega
  have v2 : 0 ≤ bitCap (vS (vls (even f st v 1000)) 1).q ∧ bitCap (vS (vls (even f st v 1000)) 1).q ≤ 16 + 72 := by
    have e : vS (vls (even f st v 1000)) 0 = ⟨(uvar 1000, 0), (0, 0), 0⟩ := by
      show VS.mk (uvar (vls (even f st v 1000)).length, 0) (0, 0) 0 = _
      rw [hlv]
    have hq : (vS (vls (even f st v 1000)) 1).q = vput ⟨(uvar 1000, 0), (0, 0), 0⟩ (0, v) := by
      show vput (vS (vls (even f st v 1000)) 0) ((vls (even f st v 1000)).getD 0 (0, 0)) = _
      rw [e, even_v f st v (by omega)]
    rw [hq]
    have hok : WOk (uvar 1000) 0 := by have := WOk.nil.app (uvar_byte 1000); simpa using this
    have hc0 : bitCap (uvar 1000, 0) = 8 * ((uvar 1000).length : Int) := bitCap0 _
    unfold vput
    split
    · have c1 : bitCap (pushBits 0 1 (uvar 1000, 0)) = bitCap (uvar 1000, 0) + ((1 : Nat) : Int) := pushBits_cap 0 1 hok
      show 0 ≤ bitCap (pushBits 0 1 (uvar 1000, 0)) ∧ bitCap (pushBits 0 1 (uvar 1000, 0)) ≤ 16 + 72
      omega
    · rw [if_pos rfl]
      have hz := zrange v 0
      have h64 := vsize_64 hz.1 hz.2
      show 0 ≤ bitCap (pushBits (foldI (IntKind.i64.wrap (v - 0))) (vsize (foldI (IntKind.i64.wrap (v - 0)))) (pushBits ((vsize (foldI (IntKind.i64.wrap (v - 0))) : Int) - 1) 6 (pushBits 2 2 (uvar 1000, 0)))) ∧
        bitCap (pushBits (foldI (IntKind.i64.wrap (v - 0))) (vsize (foldI (IntKind.i64.wrap (v - 0)))) (pushBits ((vsize (foldI (IntKind.i64.wrap (v - 0))) : Int) - 1) 6 (pushBits 2 2 (uvar 1000, 0)))) ≤ 16 + 72
      generalize foldI (IntKind.i64.wrap (v - 0)) = z at hz h64
      have c1 := pushBits_cap 2 2 hok
      have k1 := pushBits_ok 2 2 (uvar 1000, 0) hok
      have c2 : bitCap (pushBits ((vsize z : Int) - 1) 6 (pushBits 2 2 (uvar 1000, 0))) = bitCap (pushBits 2 2 (uvar 1000, 0)) + ((6 : Nat) : Int) := pushBits_cap ((vsize z : Int) - 1) 6 k1
      have k2 := pushBits_ok ((vsize z : Int) - 1) 6 _ k1
      have c3 : bitCap (pushBits z (vsize z) (pushBits ((vsize z : Int) - 1) 6 (pushBits 2 2 (uvar 1000, 0)))) = bitCap (pushBits ((vsize z : Int) - 1) 6 (pushBits 2 2 (uvar 1000, 0))) + ((vsize z : Nat) : Int) := pushBits_cap z (vsize z) k2
      omega
  have hL : (even f st v 1000).length = 1000 := even_len _ _ _ _
  have e : (pOut (even f st v 1000)).length = (uvar (tW (tms (even f st v 1000)) 1000).1.length).length + (tW (tms (even f st v 1000)) 1000).1.length + ((uvar (vS (vls (even f st v 1000)) 1000).q.1.length).length + (vS (vls (even f st v 1000)) 1000).q.1.length) := by
    simp only [pOut, rawB, List.length_append, hL]
  rw [e]
  have ht : bitCap (tW (tms (even f st v 1000)) 1000) = bitCap (tW (tms (even f st v 1000)) 2) + 998 := ht
  have hv : bitCap (vS (vls (even f st v 1000)) 1000).q = bitCap (vS (vls (even f st v 1000)) 1).q + 999 := hv
  have w1 := uvar_len 1 (tW (tms (even f st v 1000)) 1000).1.length (by omega)
  have w2 := uvar_len 1 (vS (vls (even f st v 1000)) 1000).q.1.length (by omega)
  omega

end Go.Proofs.Ytpocfghkolppmaa
