/- Arithmetic of the machine's integers in plain terms: shifts, bit operations, wrapping. -/
import Derived.Test.YtcnebgokbjpjnaaGreatDen
import Derived.Laws.BitsAllLaws
set_option linter.unusedVariables false
set_option linter.unusedSimpArgs false
namespace Go.Proofs.YtcnebgokbjpjnaaGreat
open Go

theorem bitsOp_eq (op : BinOp) (k : IntKind) (a b : Int) (h : op = .and ∨ op = .or ∨ op = .xor ∨ op = .andNot) : bitsOp op k a b = bits op k a b := by
  rcases h with rfl | rfl | rfl | rfl <;> rfl

theorem wrap_u8 (n : Int) : IntKind.u8.wrap n = n % 256 := IntKind.wrap_u8' n
theorem wrap_u32 (n : Int) : IntKind.u32.wrap n = n % 4294967296 := IntKind.wrap_u32' n
theorem wrap_u64 (n : Int) : IntKind.u64.wrap n = n % 18446744073709551616 := by simp [IntKind.wrap, IntKind.bits, IntKind.signed]
theorem wrap_i64 (n : Int) : IntKind.i64.wrap n = (n + 9223372036854775808) % 18446744073709551616 - 9223372036854775808 := IntKind.wrap_i64 n
theorem wrap_i64_in {n : Int} (h0 : -9223372036854775808 ≤ n) (h1 : n < 9223372036854775808) : IntKind.i64.wrap n = n := by rw [wrap_i64]; omega

/-- a shift right by a constant. -/
theorem shr_eq (k : IntKind) (a : Int) (n : Nat) (h : n ≤ k.bits) (d : Int) (hd : (2 : Int) ^ n = d) : shrOp k a (n : Int) = a / d := by
  unfold shrOp
  rw [Int.toNat_natCast, show Nat.min n k.bits = n from Nat.min_eq_left h, hd, Int.fdiv_eq_ediv_of_nonneg]
  rw [← hd]; exact Int.pow_nonneg (by omega)
theorem shl_eq (k : IntKind) (a : Int) (n : Nat) (h : n ≤ k.bits) (d : Int) (hd : (2 : Int) ^ n = d) : shlOp k a (n : Int) = k.wrap (a * d) := by
  unfold shlOp
  rw [Int.toNat_natCast, show Nat.min n k.bits = n from Nat.min_eq_left h, hd]
theorem shr_u32_24 (a : Int) : shrOp .u32 a 24 = a / 16777216 := shr_eq .u32 a 24 (by decide) _ (by decide)
theorem shr_u32_16 (a : Int) : shrOp .u32 a 16 = a / 65536 := shr_eq .u32 a 16 (by decide) _ (by decide)
theorem shr_u32_8 (a : Int) : shrOp .u32 a 8 = a / 256 := shr_eq .u32 a 8 (by decide) _ (by decide)
theorem shr_u32_4 (a : Int) : shrOp .u32 a 4 = a / 16 := shr_eq .u32 a 4 (by decide) _ (by decide)
theorem shr_u64_7 (a : Int) : shrOp .u64 a 7 = a / 128 := shr_eq .u64 a 7 (by decide) _ (by decide)
theorem shr_u64_32 (a : Int) : shrOp .u64 a 32 = a / 4294967296 := shr_eq .u64 a 32 (by decide) _ (by decide)
theorem shr_u64_1 (a : Int) : shrOp .u64 a 1 = a / 2 := shr_eq .u64 a 1 (by decide) _ (by decide)
theorem shr_i64_63 (a : Int) : shrOp .i64 a 63 = a / 9223372036854775808 := shr_eq .i64 a 63 (by decide) _ (by decide)
theorem shl_u64_1 (a : Int) : shlOp .u64 a 1 = a * 2 % 18446744073709551616 := (shl_eq .u64 a 1 (by decide) 2 (by decide)).trans (wrap_u64 _)
theorem shl_u64_32 (a : Int) : shlOp .u64 a 32 = a * 4294967296 % 18446744073709551616 := (shl_eq .u64 a 32 (by decide) 4294967296 (by decide)).trans (wrap_u64 _)
theorem shl_u32_8 (a : Int) : shlOp .u32 a 8 = a * 256 % 4294967296 := (shl_eq .u32 a 8 (by decide) 256 (by decide)).trans (wrap_u32 _)

theorem or_u8_128 {x : Int} (h0 : 0 ≤ x) (h1 : x < 256) : bitsOp .or .u8 x 128 = x % 128 + 128 := by
  rw [bitsOp_eq _ _ _ _ (by simp), u8_or x 128 h0 h1 (by omega) (by omega)]
  have key : ∀ n : Fin 256, (n.val ||| 128) = n.val % 128 + 128 := by decide +kernel
  have := key ⟨x.toNat, by omega⟩
  simp only at this
  rw [show (128 : Int).toNat = 128 from rfl, this]
  omega
theorem and_u8_127 {x : Int} (h0 : 0 ≤ x) (h1 : x < 256) : bitsOp .and .u8 x 127 = x % 128 := by
  rw [bitsOp_eq _ _ _ _ (by simp), u8_and x 127 h0 h1 (by omega) (by omega)]
  rw [show (127 : Int).toNat = 127 from rfl, nat_mask7]
  omega
theorem and_u32_15 {x : Int} (h0 : 0 ≤ x) (h1 : x < 4294967296) : bitsOp .and .u32 x 15 = x % 16 := by
  rw [bitsOp_eq _ _ _ _ (by simp), u32_and x 15 h0 h1 (by omega) (by omega)]
  rw [show (15 : Int).toNat = 15 from rfl, nat_mask4]
  omega
theorem and_u64_1 {x : Int} (h0 : 0 ≤ x) (h1 : x < 18446744073709551616) : bitsOp .and .u64 x 1 = x % 2 := by
  rw [bitsOp_eq _ _ _ _ (by simp), u64_and x 1 h0 h1 (by omega) (by omega)]
  rw [show (1 : Int).toNat = 1 from rfl, nat_mask1]
  omega
theorem xor_u64_zero {x : Int} (h0 : 0 ≤ x) (h1 : x < 18446744073709551616) : bitsOp .xor .u64 x 0 = x := by
  rw [bitsOp_eq _ _ _ _ (by simp), u64_xor x 0 h0 h1 (by omega) (by omega)]
  rw [show (0 : Int).toNat = 0 from rfl, Nat.xor_zero]
  omega
theorem xor_u64_ones {x : Int} (h0 : 0 ≤ x) (h1 : x < 18446744073709551616) : bitsOp .xor .u64 x 18446744073709551615 = 18446744073709551615 - x := by
  rw [bitsOp_eq _ _ _ _ (by simp), u64_xor x _ h0 h1 (by omega) (by omega)]
  rw [show (18446744073709551615 : Int).toNat = 2 ^ 64 - 1 from rfl]
  have hx : x.toNat < 2 ^ 64 := by have : (2 : Nat) ^ 64 = 18446744073709551616 := by decide
                                   omega
  have : x.toNat ^^^ (2 ^ 64 - 1) = 2 ^ 64 - 1 - x.toNat := by
    apply Nat.eq_of_testBit_eq
    intro i
    rw [Nat.testBit_xor, Nat.testBit_two_pow_sub_one, Nat.sub_sub, Nat.add_comm 1, Nat.testBit_two_pow_sub_succ hx]
    by_cases hi : i < 64
    · simp [hi]
    · have : x.toNat.testBit i = false := Nat.testBit_lt_two_pow (Nat.lt_of_lt_of_le hx (Nat.pow_le_pow_right (by omega) (by omega)))
      simp [hi, this]
  rw [this]
  have : (2 : Nat) ^ 64 = 18446744073709551616 := by decide
  omega

theorem toNat_mod_pow {x : Int} (h0 : 0 ≤ x) {k : Nat} (hm : x % 2 ^ k = 0) : x.toNat % 2 ^ k = 0 := by
  have : ((x.toNat % 2 ^ k : Nat) : Int) = 0 := by
    rw [Int.natCast_emod, Int.toNat_of_nonneg h0]
    simpa using hm
  omega
theorem toNat_lt_pow {y : Int} (h0 : 0 ≤ y) {k : Nat} (h : y < 2 ^ k) : y.toNat < 2 ^ k := by
  have : ((y.toNat : Nat) : Int) < ((2 ^ k : Nat) : Int) := by
    rw [Int.toNat_of_nonneg h0]; simpa using h
  omega
theorem or_join_u64 (k : Nat) {x y : Int} (h0 : 0 ≤ x) (h1 : x < 18446744073709551616) (hm : x % 2 ^ k = 0) (g0 : 0 ≤ y) (g1 : y < 2 ^ k) (g2 : y < 18446744073709551616) : bitsOp .or .u64 x y = x + y := by
  rw [bitsOp_eq _ _ _ _ (by simp), u64_or x y h0 h1 g0 g2, nat_join k _ _ (toNat_mod_pow h0 hm) (toNat_lt_pow g0 g1)]
  omega
theorem or_join_u64' (k : Nat) {x y : Int} (h0 : 0 ≤ x) (h1 : x < 18446744073709551616) (hm : x % 2 ^ k = 0) (g0 : 0 ≤ y) (g1 : y < 2 ^ k) (g2 : y < 18446744073709551616) : bitsOp .or .u64 y x = y + x := by
  rw [bitsOp_eq _ _ _ _ (by simp), u64_or y x g0 g2 h0 h1, Nat.or_comm, nat_join k _ _ (toNat_mod_pow h0 hm) (toNat_lt_pow g0 g1)]
  omega
theorem or_join_u32 (k : Nat) {x y : Int} (h0 : 0 ≤ x) (h1 : x < 4294967296) (hm : x % 2 ^ k = 0) (g0 : 0 ≤ y) (g1 : y < 2 ^ k) (g2 : y < 4294967296) : bitsOp .or .u32 x y = x + y := by
  rw [bitsOp_eq _ _ _ _ (by simp), u32_or x y h0 h1 g0 g2, nat_join k _ _ (toNat_mod_pow h0 hm) (toNat_lt_pow g0 g1)]
  omega

end Go.Proofs.YtcnebgokbjpjnaaGreat
