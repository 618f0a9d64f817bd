/- block.Values: what it writes, or what is wrong. -/
import Derived.Test.YtpocfghkolppmaaPureA
import Derived.Test.YtpocfghkolppmaaBits
import Derived.Test.YtpocfghkolppmaaSame
import Derived.Test.YtpocfghkolppmaaReader
set_option linter.unusedVariables false
set_option linter.unusedSimpArgs false
set_option maxRecDepth 100000
namespace Go.Proofs.Ytpocfghkolppmaa
open Go

instance (v : Int × Int) : Decidable (VRight v) := by unfold VRight; infer_instance
theorem right_ok {w : World} {k n : Int} {R : VWK} (h : ∀ w', Grow w w' → R (.bool (decide (VRight (k, n)))) w') : CallsV Try.prog 34 [.agg #[.int .u8 k, .int .i64 n]] w R := by
  have hB := Blk.new' w 35 #[.int .u8 k, .int .i64 n]
  have g := Grow.alloc w (.cells #[.int .u8 k, .int .i64 n] 35)
  generalize hw1 : w.alloc (.cells #[.int .u8 k, .int .i64 n] 35) = w1 at hB g
  have h := h w1 g
  refine calls_of_wpC mixed Try.func34 rfl (by kernel_rfl) ?_
  intro e he
  have he0 := he 0
  simp only [List.getD_cons_zero, List.getD_cons_succ] at he0
  clear he
  by_cases c0 : k = 0
  · rw [show decide (VRight (k, n)) = true from decide_eq_true (.inl c0)] at h
    have q0 := decide_eq_true c0
    try simp -dsimp only [↓RE,↓c_seq,RU,RL,if_true,if_false,forall_const,implies_true,Nat.reduceLeDiff,Nat.reduceLT,pureOp,binPure,intBin,strBin,eqPure,isConstO,unPure,sliceLo,sliceHi,slicePure,slice3Pure,lenPure,capPure,minPure,maxPure,buildP,resK,endV,yieldE,↓reduceIte,Nat.reduceEqDiff,reduceCtorEq,Nat.reduceAdd,Nat.reduceMul,Nat.reduceSub,Int.reduceLT,Int.reduceLE,Int.reduceToNat,Int.reduceAdd,Int.reduceSub,Int.reduceMul,ne_eq,decide_true,decide_false,tf34, he0, hw1, hB.cell, q0, undef]
    exact h
  have q0 := decide_eq_false c0
  by_cases c1 : k = 1
  · have q1 := decide_eq_true c1
    by_cases cn : n = 0
    · rw [show decide (VRight (k, n)) = true from decide_eq_true (.inr ⟨.inl c1, cn⟩)] at h
      have qn := decide_eq_true cn
      try simp -dsimp only [↓RE,↓c_seq,RU,RL,if_true,if_false,forall_const,implies_true,Nat.reduceLeDiff,Nat.reduceLT,pureOp,binPure,intBin,strBin,eqPure,isConstO,unPure,sliceLo,sliceHi,slicePure,slice3Pure,lenPure,capPure,minPure,maxPure,buildP,resK,endV,yieldE,↓reduceIte,Nat.reduceEqDiff,reduceCtorEq,Nat.reduceAdd,Nat.reduceMul,Nat.reduceSub,Int.reduceLT,Int.reduceLE,Int.reduceToNat,Int.reduceAdd,Int.reduceSub,Int.reduceMul,ne_eq,decide_true,decide_false,tf34, he0, hw1, hB.cell, q0, q1, qn, undef]
      exact h
    · rw [show decide (VRight (k, n)) = false from decide_eq_false (fun h => h.elim c0 (fun h => cn h.2))] at h
      have qn := decide_eq_false cn
      try simp -dsimp only [↓RE,↓c_seq,RU,RL,if_true,if_false,forall_const,implies_true,Nat.reduceLeDiff,Nat.reduceLT,pureOp,binPure,intBin,strBin,eqPure,isConstO,unPure,sliceLo,sliceHi,slicePure,slice3Pure,lenPure,capPure,minPure,maxPure,buildP,resK,endV,yieldE,↓reduceIte,Nat.reduceEqDiff,reduceCtorEq,Nat.reduceAdd,Nat.reduceMul,Nat.reduceSub,Int.reduceLT,Int.reduceLE,Int.reduceToNat,Int.reduceAdd,Int.reduceSub,Int.reduceMul,ne_eq,decide_true,decide_false,tf34, he0, hw1, hB.cell, q0, q1, qn, undef]
      exact h
  have q1 := decide_eq_false c1
  by_cases c2 : k = 2
  · have q2 := decide_eq_true c2
    by_cases cn : n = 0
    · rw [show decide (VRight (k, n)) = true from decide_eq_true (.inr ⟨.inr c2, cn⟩)] at h
      have qn := decide_eq_true cn
      try simp -dsimp only [↓RE,↓c_seq,RU,RL,if_true,if_false,forall_const,implies_true,Nat.reduceLeDiff,Nat.reduceLT,pureOp,binPure,intBin,strBin,eqPure,isConstO,unPure,sliceLo,sliceHi,slicePure,slice3Pure,lenPure,capPure,minPure,maxPure,buildP,resK,endV,yieldE,↓reduceIte,Nat.reduceEqDiff,reduceCtorEq,Nat.reduceAdd,Nat.reduceMul,Nat.reduceSub,Int.reduceLT,Int.reduceLE,Int.reduceToNat,Int.reduceAdd,Int.reduceSub,Int.reduceMul,ne_eq,decide_true,decide_false,tf34, he0, hw1, hB.cell, q0, q1, q2, qn, undef]
      exact h
    · rw [show decide (VRight (k, n)) = false from decide_eq_false (fun h => h.elim c0 (fun h => cn h.2))] at h
      have qn := decide_eq_false cn
      try simp -dsimp only [↓RE,↓c_seq,RU,RL,if_true,if_false,forall_const,implies_true,Nat.reduceLeDiff,Nat.reduceLT,pureOp,binPure,intBin,strBin,eqPure,isConstO,unPure,sliceLo,sliceHi,slicePure,slice3Pure,lenPure,capPure,minPure,maxPure,buildP,resK,endV,yieldE,↓reduceIte,Nat.reduceEqDiff,reduceCtorEq,Nat.reduceAdd,Nat.reduceMul,Nat.reduceSub,Int.reduceLT,Int.reduceLE,Int.reduceToNat,Int.reduceAdd,Int.reduceSub,Int.reduceMul,ne_eq,decide_true,decide_false,tf34, he0, hw1, hB.cell, q0, q1, q2, qn, undef]
      exact h
  · have q2 := decide_eq_false c2
    rw [show decide (VRight (k, n)) = false from decide_eq_false (fun h => h.elim c0 (fun h => h.1.elim c1 c2))] at h
    try simp -dsimp only [↓RE,↓c_seq,RU,RL,if_true,if_false,forall_const,implies_true,Nat.reduceLeDiff,Nat.reduceLT,pureOp,binPure,intBin,strBin,eqPure,isConstO,unPure,sliceLo,sliceHi,slicePure,slice3Pure,lenPure,capPure,minPure,maxPure,buildP,resK,endV,yieldE,↓reduceIte,Nat.reduceEqDiff,reduceCtorEq,Nat.reduceAdd,Nat.reduceMul,Nat.reduceSub,Int.reduceLT,Int.reduceLE,Int.reduceToNat,Int.reduceAdd,Int.reduceSub,Int.reduceMul,ne_eq,decide_true,decide_false,tf34, he0, hw1, hB.cell, q0, q1, q2, undef]
    exact h

theorem bfold_ok {w : World} {v : Int} (h0 : -9223372036854775808 ≤ v) (h1 : v < 9223372036854775808) {R : VWK} (h : R (.int .u64 (foldI v)) w) : CallsV Try.prog 36 [.int .i64 v] w R := by
  have hf := foldI_range h0 h1
  have q : bitsOp .xor .u64 (v % 18446744073709551616 * 2 % 18446744073709551616) (v / 9223372036854775808 % 18446744073709551616) = foldI v := by
    unfold foldI
    by_cases hv : 0 ≤ v
    · rw [if_pos hv, show v / 9223372036854775808 % 18446744073709551616 = 0 by omega, xor_u64_zero (by omega) (by omega)]; omega
    · rw [if_neg hv, show v / 9223372036854775808 % 18446744073709551616 = 18446744073709551615 by omega, xor_u64_ones (by omega) (by omega)]; omega
  refine calls_of_wpC mixed Try.func36 rfl (by kernel_rfl) ?_
  intro e he
  have he0 := he 0
  simp only [List.getD_cons_zero, List.getD_cons_succ] at he0
  clear he
  try simp -dsimp only [↓RE,↓c_seq,RU,RL,if_true,if_false,forall_const,implies_true,Nat.reduceLeDiff,Nat.reduceLT,pureOp,binPure,intBin,strBin,eqPure,isConstO,unPure,sliceLo,sliceHi,slicePure,slice3Pure,lenPure,capPure,minPure,maxPure,buildP,resK,endV,yieldE,↓reduceIte,Nat.reduceEqDiff,reduceCtorEq,Nat.reduceAdd,Nat.reduceMul,Nat.reduceSub,Int.reduceLT,Int.reduceLE,Int.reduceToNat,Int.reduceAdd,Int.reduceSub,Int.reduceMul,ne_eq,decide_true,decide_false,tf36, he0, wrap_u64, shl_u64_1, shr_i64_63, q]
  exact h

/-- how many bits a number has. -/
def blen (z : Int) : Nat := if z = 0 then 0 else vsize z
theorem blen_unique {z : Int} (h0 : 0 ≤ z) {n : Nat} (hu : z < 2 ^ n) (hl : 0 < n → 2 ^ (n - 1) ≤ z) : n = blen z := by
  unfold blen
  split
  · rename_i hz
    rcases Nat.eq_zero_or_pos n with h | h
    · exact h
    · have := hl h
      have := pow_pos2 (n - 1)
      omega
  · refine vsize_unique h0 ?_ hu (fun h => hl (by omega))
    rcases Nat.eq_zero_or_pos n with h | h
    · subst h; simp at hu; omega
    · exact h
theorem blen_up {z : Int} (h0 : 0 ≤ z) : z < 2 ^ blen z := by
  unfold blen
  split
  · rename_i h; subst h; decide
  · exact vsize_up h0
theorem blen_lo {z : Int} (h0 : 0 ≤ z) (h : 0 < blen z) : 2 ^ (blen z - 1) ≤ z := by
  unfold blen at *
  split at h
  · omega
  · rename_i hz
    rw [if_neg hz]
    rcases Nat.lt_or_ge 1 (vsize z) with h1 | h1
    · exact vsize_lo h0 h1
    · rw [show vsize z - 1 = 0 by omega]; simp; omega
theorem blen_max (z : Int) : max 1 (blen z) = vsize z := by
  have := vsize_pos z
  unfold blen
  split
  · rename_i h; subst h; decide
  · omega
theorem blen_div {z : Int} (h0 : 0 ≤ z) {n : Nat} (h : n = 0 ∨ 1 ≤ z / 2 ^ n) : n + blen (z / 2 ^ n) = blen z := by
  have hx0 : 0 ≤ z / 2 ^ n := Int.ediv_nonneg h0 (Int.le_of_lt (pow_pos2 n))
  have hp := pow_pos2 n
  refine blen_unique h0 ?_ (fun hn => ?_)
  · have := blen_up hx0
    rw [Int.pow_add, Int.mul_comm]
    exact (Int.ediv_lt_iff_lt_mul hp).1 this
  · rcases Nat.eq_zero_or_pos (blen (z / 2 ^ n)) with hb | hb
    · rcases h with h | h
      · omega
      · have := blen_up hx0
        rw [hb] at this; simp at this; omega
    · have := blen_lo hx0 hb
      rw [show n + blen (z / 2 ^ n) - 1 = (blen (z / 2 ^ n) - 1) + n by omega, Int.pow_add]
      exact (Int.le_ediv_iff_mul_le hp).1 this

def len8 : List UInt8 := [0, 1, 2, 2, 3, 3, 3, 3, 4, 4, 4, 4, 4, 4, 4, 4, 5, 5, 5, 5, 5, 5, 5, 5, 5, 5, 5, 5, 5, 5, 5, 5, 6, 6, 6, 6, 6, 6, 6, 6, 6, 6, 6, 6, 6, 6, 6, 6, 6, 6, 6, 6, 6, 6, 6, 6, 6, 6, 6, 6, 6, 6, 6, 6, 7, 7, 7, 7, 7, 7, 7, 7, 7, 7, 7, 7, 7, 7, 7, 7, 7, 7, 7, 7, 7, 7, 7, 7, 7, 7, 7, 7, 7, 7, 7, 7, 7, 7, 7, 7, 7, 7, 7, 7, 7, 7, 7, 7, 7, 7, 7, 7, 7, 7, 7, 7, 7, 7, 7, 7, 7, 7, 7, 7, 7, 7, 7, 7, 8, 8, 8, 8, 8, 8, 8, 8, 8, 8, 8, 8, 8, 8, 8, 8, 8, 8, 8, 8, 8, 8, 8, 8, 8, 8, 8, 8, 8, 8, 8, 8, 8, 8, 8, 8, 8, 8, 8, 8, 8, 8, 8, 8, 8, 8, 8, 8, 8, 8, 8, 8, 8, 8, 8, 8, 8, 8, 8, 8, 8, 8, 8, 8, 8, 8, 8, 8, 8, 8, 8, 8, 8, 8, 8, 8, 8, 8, 8, 8, 8, 8, 8, 8, 8, 8, 8, 8, 8, 8, 8, 8, 8, 8, 8, 8, 8, 8, 8, 8, 8, 8, 8, 8, 8, 8, 8, 8, 8, 8, 8, 8, 8, 8, 8, 8, 8, 8, 8, 8, 8, 8, 8, 8, 8, 8, 8, 8]
theorem len8_blen : ∀ x : Nat, x < 256 → (len8.getD x 0).toNat = blen x := by
  intro x hx
  have h : ((List.range 256).all fun x => decide ((len8.getD x 0).toNat = blen x)) = true := by kernel_rfl
  exact of_decide_eq_true (List.all_eq_true.1 h x (List.mem_range.2 hx))

theorem len64_ok {w : World} {z : Int} (h0 : 0 ≤ z) (h1 : z < 18446744073709551616) {R : VWK} (h : R (.int .i64 (blen z)) w) : CallsV Try.prog 37 [.int .u64 z] w R := by
  have p32 : (2 : Int) ^ 32 = 4294967296 := by decide
  have p16 : (2 : Int) ^ 16 = 65536 := by decide
  have p8 : (2 : Int) ^ 8 = 256 := by decide
  have s32 : ∀ x : Int, shrOp .u64 x 32 = x / 4294967296 := fun x => shr_u64_32 x
  have s16 : ∀ x : Int, shrOp .u64 x 16 = x / 65536 := fun x => (shr_u64 x (k := 16) (by omega)).trans (by rw [p16])
  have s8 : ∀ x : Int, shrOp .u64 x 8 = x / 256 := fun x => (shr_u64 x (k := 8) (by omega)).trans (by rw [p8])
  refine calls_of_wpC mixed Try.func37 rfl (by kernel_rfl) ?_
  intro e he
  have he0 := he 0
  simp only [List.getD_cons_zero, List.getD_cons_succ] at he0
  clear he
  rw [c_seq]
  simp -dsimp only [↓RE,RU,RL,if_true,if_false,forall_const,implies_true,Nat.reduceLeDiff,Nat.reduceLT,pureOp,binPure,intBin,strBin,eqPure,isConstO,unPure,sliceLo,sliceHi,slicePure,slice3Pure,lenPure,capPure,minPure,maxPure,buildP,resK,endV,yieldE,↓reduceIte,Nat.reduceEqDiff,reduceCtorEq,Nat.reduceAdd,Nat.reduceMul,Nat.reduceSub,Int.reduceLT,Int.reduceLE,Int.reduceToNat,Int.reduceAdd,Int.reduceSub,Int.reduceMul,ne_eq,decide_true,decide_false,tf37, he0]
  refine c_seq_cut (fun e' w' => w = w' ∧ ∃ n : Nat, n ≤ 32 ∧ e' 0 = .int .u64 (z / 2 ^ n) ∧ e' 2 = .int .i64 n ∧ z / 2 ^ n < 4294967296 ∧ (n = 0 ∨ 1 ≤ z / 2 ^ n)) ?_ ?_
  · try simp -dsimp only [↓RE,↓c_seq,RU,RL,if_true,if_false,forall_const,implies_true,Nat.reduceLeDiff,Nat.reduceLT,pureOp,binPure,intBin,strBin,eqPure,isConstO,unPure,sliceLo,sliceHi,slicePure,slice3Pure,lenPure,capPure,minPure,maxPure,buildP,resK,endV,yieldE,↓reduceIte,Nat.reduceEqDiff,reduceCtorEq,Nat.reduceAdd,Nat.reduceMul,Nat.reduceSub,Int.reduceLT,Int.reduceLE,Int.reduceToNat,Int.reduceAdd,Int.reduceSub,Int.reduceMul,ne_eq,decide_true,decide_false,tf37, he0]
    refine ⟨fun hc => ?_, fun hc => ?_⟩
    · try simp -dsimp only [↓RE,↓c_seq,RU,RL,if_true,if_false,forall_const,implies_true,Nat.reduceLeDiff,Nat.reduceLT,pureOp,binPure,intBin,strBin,eqPure,isConstO,unPure,sliceLo,sliceHi,slicePure,slice3Pure,lenPure,capPure,minPure,maxPure,buildP,resK,endV,yieldE,↓reduceIte,Nat.reduceEqDiff,reduceCtorEq,Nat.reduceAdd,Nat.reduceMul,Nat.reduceSub,Int.reduceLT,Int.reduceLE,Int.reduceToNat,Int.reduceAdd,Int.reduceSub,Int.reduceMul,ne_eq,decide_true,decide_false,tf37, he0, s32]
      refine hold_intro ⟨rfl, 32, by omega, ?_, ?_, by omega, .inr (by omega)⟩
      · simp -dsimp only [↓RE,RU,RL,if_true,if_false,↓reduceIte,Nat.reduceEqDiff,reduceCtorEq,decide_true,decide_false, he0, s32, p32]
      · simp -dsimp only [↓RE,RU,RL,if_true,if_false,↓reduceIte,Nat.reduceEqDiff,reduceCtorEq,decide_true,decide_false, he0, s32, Int.cast_ofNat_Int]
    · try simp -dsimp only [↓RE,↓c_seq,RU,RL,if_true,if_false,forall_const,implies_true,Nat.reduceLeDiff,Nat.reduceLT,pureOp,binPure,intBin,strBin,eqPure,isConstO,unPure,sliceLo,sliceHi,slicePure,slice3Pure,lenPure,capPure,minPure,maxPure,buildP,resK,endV,yieldE,↓reduceIte,Nat.reduceEqDiff,reduceCtorEq,Nat.reduceAdd,Nat.reduceMul,Nat.reduceSub,Int.reduceLT,Int.reduceLE,Int.reduceToNat,Int.reduceAdd,Int.reduceSub,Int.reduceMul,ne_eq,decide_true,decide_false,tf37, he0]
      refine hold_intro ⟨rfl, 0, by omega, ?_, ?_, by omega, .inl rfl⟩
      · simp -dsimp only [↓RE,RU,RL,if_true,if_false,↓reduceIte,Nat.reduceEqDiff,reduceCtorEq,decide_true,decide_false, he0, Int.pow_zero, Int.ediv_one]
      · simp -dsimp only [↓RE,RU,RL,if_true,if_false,↓reduceIte,Nat.reduceEqDiff,reduceCtorEq,decide_true,decide_false, he0, Int.cast_ofNat_Int]
  rintro e w' ⟨rfl, n, hn, he0, he2, hlt, hnz⟩
  refine c_seq_cut (fun e' w' => w = w' ∧ ∃ m : Nat, m ≤ 48 ∧ e' 0 = .int .u64 (z / 2 ^ m) ∧ e' 2 = .int .i64 m ∧ z / 2 ^ m < 65536 ∧ (m = 0 ∨ 1 ≤ z / 2 ^ m)) ?_ ?_
  · try simp -dsimp only [↓RE,↓c_seq,RU,RL,if_true,if_false,forall_const,implies_true,Nat.reduceLeDiff,Nat.reduceLT,pureOp,binPure,intBin,strBin,eqPure,isConstO,unPure,sliceLo,sliceHi,slicePure,slice3Pure,lenPure,capPure,minPure,maxPure,buildP,resK,endV,yieldE,↓reduceIte,Nat.reduceEqDiff,reduceCtorEq,Nat.reduceAdd,Nat.reduceMul,Nat.reduceSub,Int.reduceLT,Int.reduceLE,Int.reduceToNat,Int.reduceAdd,Int.reduceSub,Int.reduceMul,ne_eq,decide_true,decide_false,tf37, he0, he2]
    refine ⟨fun hc => ?_, fun hc => ?_⟩
    · have hd : z / 2 ^ n / 65536 = z / 2 ^ (n + 16) := by rw [← p16, Int.ediv_ediv_of_nonneg (Int.le_of_lt (pow_pos2 n)), ← Int.pow_add]
      have hw : IntKind.i64.wrap ((n : Int) + 16) = ((n + 16 : Nat) : Int) := by rw [wrap_i64_in (by omega) (by omega)]; omega
      try simp -dsimp only [↓RE,↓c_seq,RU,RL,if_true,if_false,forall_const,implies_true,Nat.reduceLeDiff,Nat.reduceLT,pureOp,binPure,intBin,strBin,eqPure,isConstO,unPure,sliceLo,sliceHi,slicePure,slice3Pure,lenPure,capPure,minPure,maxPure,buildP,resK,endV,yieldE,↓reduceIte,Nat.reduceEqDiff,reduceCtorEq,Nat.reduceAdd,Nat.reduceMul,Nat.reduceSub,Int.reduceLT,Int.reduceLE,Int.reduceToNat,Int.reduceAdd,Int.reduceSub,Int.reduceMul,ne_eq,decide_true,decide_false,tf37, he0, he2, s16, hd, hw]
      refine hold_intro ⟨rfl, n + 16, by omega, ?_, ?_, by omega, .inr (by omega)⟩
      · simp -dsimp only [↓RE,RU,RL,if_true,if_false,↓reduceIte,Nat.reduceEqDiff,reduceCtorEq,decide_true,decide_false, he0, s16, hd]
      · simp -dsimp only [↓RE,RU,RL,if_true,if_false,↓reduceIte,Nat.reduceEqDiff,reduceCtorEq,decide_true,decide_false, he0, he2, hw]
    · try simp -dsimp only [↓RE,↓c_seq,RU,RL,if_true,if_false,forall_const,implies_true,Nat.reduceLeDiff,Nat.reduceLT,pureOp,binPure,intBin,strBin,eqPure,isConstO,unPure,sliceLo,sliceHi,slicePure,slice3Pure,lenPure,capPure,minPure,maxPure,buildP,resK,endV,yieldE,↓reduceIte,Nat.reduceEqDiff,reduceCtorEq,Nat.reduceAdd,Nat.reduceMul,Nat.reduceSub,Int.reduceLT,Int.reduceLE,Int.reduceToNat,Int.reduceAdd,Int.reduceSub,Int.reduceMul,ne_eq,decide_true,decide_false,tf37, he0, he2]
      refine hold_intro ⟨rfl, n, by omega, ?_, ?_, by omega, hnz⟩
      · simp -dsimp only [↓RE,RU,RL,if_true,if_false,↓reduceIte,Nat.reduceEqDiff,reduceCtorEq,decide_true,decide_false, he0]
      · simp -dsimp only [↓RE,RU,RL,if_true,if_false,↓reduceIte,Nat.reduceEqDiff,reduceCtorEq,decide_true,decide_false, he2]
  clear hn hlt hnz he0 he2 n
  rintro e w' ⟨rfl, n, hn, he0, he2, hlt, hnz⟩
  refine c_seq_cut (fun e' w' => w = w' ∧ ∃ m : Nat, m ≤ 56 ∧ e' 0 = .int .u64 (z / 2 ^ m) ∧ e' 2 = .int .i64 m ∧ z / 2 ^ m < 256 ∧ (m = 0 ∨ 1 ≤ z / 2 ^ m)) ?_ ?_
  · try simp -dsimp only [↓RE,↓c_seq,RU,RL,if_true,if_false,forall_const,implies_true,Nat.reduceLeDiff,Nat.reduceLT,pureOp,binPure,intBin,strBin,eqPure,isConstO,unPure,sliceLo,sliceHi,slicePure,slice3Pure,lenPure,capPure,minPure,maxPure,buildP,resK,endV,yieldE,↓reduceIte,Nat.reduceEqDiff,reduceCtorEq,Nat.reduceAdd,Nat.reduceMul,Nat.reduceSub,Int.reduceLT,Int.reduceLE,Int.reduceToNat,Int.reduceAdd,Int.reduceSub,Int.reduceMul,ne_eq,decide_true,decide_false,tf37, he0, he2]
    refine ⟨fun hc => ?_, fun hc => ?_⟩
    · have hd : z / 2 ^ n / 256 = z / 2 ^ (n + 8) := by rw [← p8, Int.ediv_ediv_of_nonneg (Int.le_of_lt (pow_pos2 n)), ← Int.pow_add]
      have hw : IntKind.i64.wrap ((n : Int) + 8) = ((n + 8 : Nat) : Int) := by rw [wrap_i64_in (by omega) (by omega)]; omega
      try simp -dsimp only [↓RE,↓c_seq,RU,RL,if_true,if_false,forall_const,implies_true,Nat.reduceLeDiff,Nat.reduceLT,pureOp,binPure,intBin,strBin,eqPure,isConstO,unPure,sliceLo,sliceHi,slicePure,slice3Pure,lenPure,capPure,minPure,maxPure,buildP,resK,endV,yieldE,↓reduceIte,Nat.reduceEqDiff,reduceCtorEq,Nat.reduceAdd,Nat.reduceMul,Nat.reduceSub,Int.reduceLT,Int.reduceLE,Int.reduceToNat,Int.reduceAdd,Int.reduceSub,Int.reduceMul,ne_eq,decide_true,decide_false,tf37, he0, he2, s8, hd, hw]
      refine hold_intro ⟨rfl, n + 8, by omega, ?_, ?_, by omega, .inr (by omega)⟩
      · simp -dsimp only [↓RE,RU,RL,if_true,if_false,↓reduceIte,Nat.reduceEqDiff,reduceCtorEq,decide_true,decide_false, he0, s8, hd]
      · simp -dsimp only [↓RE,RU,RL,if_true,if_false,↓reduceIte,Nat.reduceEqDiff,reduceCtorEq,decide_true,decide_false, he0, he2, hw]
    · try simp -dsimp only [↓RE,↓c_seq,RU,RL,if_true,if_false,forall_const,implies_true,Nat.reduceLeDiff,Nat.reduceLT,pureOp,binPure,intBin,strBin,eqPure,isConstO,unPure,sliceLo,sliceHi,slicePure,slice3Pure,lenPure,capPure,minPure,maxPure,buildP,resK,endV,yieldE,↓reduceIte,Nat.reduceEqDiff,reduceCtorEq,Nat.reduceAdd,Nat.reduceMul,Nat.reduceSub,Int.reduceLT,Int.reduceLE,Int.reduceToNat,Int.reduceAdd,Int.reduceSub,Int.reduceMul,ne_eq,decide_true,decide_false,tf37, he0, he2]
      refine hold_intro ⟨rfl, n, by omega, ?_, ?_, by omega, hnz⟩
      · simp -dsimp only [↓RE,RU,RL,if_true,if_false,↓reduceIte,Nat.reduceEqDiff,reduceCtorEq,decide_true,decide_false, he0]
      · simp -dsimp only [↓RE,RU,RL,if_true,if_false,↓reduceIte,Nat.reduceEqDiff,reduceCtorEq,decide_true,decide_false, he2]
  clear hn hlt hnz he0 he2 n
  rintro e w' ⟨rfl, n, hn, he0, he2, hlt, hnz⟩
  have hx0 : 0 ≤ z / 2 ^ n := Int.ediv_nonneg h0 (Int.le_of_lt (pow_pos2 n))
  have hw : IntKind.u8.wrap (z / 2 ^ n) = z / 2 ^ n := by rw [wrap_u8]; omega
  try simp -dsimp only [↓RE,↓c_seq,RU,RL,if_true,if_false,forall_const,implies_true,Nat.reduceLeDiff,Nat.reduceLT,pureOp,binPure,intBin,strBin,eqPure,isConstO,unPure,sliceLo,sliceHi,slicePure,slice3Pure,lenPure,capPure,minPure,maxPure,buildP,resK,endV,yieldE,↓reduceIte,Nat.reduceEqDiff,reduceCtorEq,Nat.reduceAdd,Nat.reduceMul,Nat.reduceSub,Int.reduceLT,Int.reduceLE,Int.reduceToNat,Int.reduceAdd,Int.reduceSub,Int.reduceMul,ne_eq,decide_true,decide_false,tf37, he0, he2, hw]
  have hb := blen_div h0 hnz
  have hg := len8_blen (z / 2 ^ n).toNat (by omega)
  rw [Int.toNat_of_nonneg hx0] at hg
  have h64 : blen z ≤ 64 := by
    have := blen_max z
    have := vsize_64 h0 h1
    omega
  have hr : IntKind.i64.wrap ((n : Int) + IntKind.i64.wrap (((len8.getD (z / 2 ^ n).toNat 0).toNat : Nat) : Int)) = (blen z : Nat) := by
    rw [hg, wrap_i64_in (n := ((blen (z / 2 ^ n) : Nat) : Int)) (by omega) (by omega), wrap_i64_in (by omega) (by omega)]; omega
  rw [← hr] at h
  refine ⟨⟨hx0, ?_⟩, h⟩
  show z / 2 ^ n < ((256 : Nat) : Int)
  omega

theorem Rd.flat2 {w : World} {A : Option Addr} {n : Nat} {l : List (Int × Int)} (h : Rd w A n 2 (l.flatMap vcells)) : l.length = n := by
  have h1 := h.1
  rw [flat_len (size := 2) vcells l (fun _ _ => rfl)] at h1
  omega
/-- an element is read as a whole. -/
theorem Rd.val {w : World} {A : Option Addr} {n : Nat} {l : List (Int × Int)} (h : Rd w A n 2 (l.flatMap vcells)) {k : Nat} (hk : k < n) :
    ∃ ad, A = some ad ∧ ∀ {K : VK} {tk : Tok K}, K (.agg #[.int .u8 (l.getD k (0, 0)).1, .int .i64 (l.getD k (0, 0)).2]) → aggK w (ad.add (k * 2)) (some 2) K tk := by
  have hl := h.flat2
  have hg : l[k]? = some (l.getD k (0, 0)) := by rw [List.getD_eq_getElem?_getD, List.getElem?_eq_getElem (by omega)]; rfl
  obtain ⟨_, ad, hA, hc⟩ := h.flat (size := 2) (fun _ _ => rfl) hg (by omega)
  exact ⟨ad, hA, fun hK => ⟨vcells (l.getD k (0, 0)), rfl, fun j v hv => hc j v hv, hK⟩⟩

theorem values_ok {w : World} {A : Option Addr} {n c : Nat} {l : List (Int × Int)} (hR : Rd w A n 2 (l.flatMap vcells)) (hl0 : ∀ v ∈ l, VOk v) (hn : n ≤ 140737488355328) {R : VWK}
    (herr : ∀ er w', vErr l = some er → Grow w w' → R (.tuple #[.slice none 0 0, .iface 77 (.int .i64 er)]) w')
    (h : vErr l = none → ∀ w' A' c', w'.ownsRow 0 5 1 (.slice A' (vS l n).q.1.length c') (vS l n).q.1.length ((vS l n).q.1.map (Value.int .u8)) → Grow w w' → (∀ k, fpA A' k → w.heap.size ≤ k) →
      R (.tuple #[.slice A' (vS l n).q.1.length c', .nilIface]) w') :
    CallsV Try.prog 18 [.slice A n c] w R := by
  have hl := hR.flat2
  refine calls_of_wpC mixed Try.func18 rfl (by kernel_rfl) ?_
  intro e he
  have he0 := he 0
  simp only [List.getD_cons_zero, List.getD_cons_succ] at he0
  clear he
  try simp -dsimp only [↓RE,↓c_seq,RU,RL,if_true,if_false,forall_const,implies_true,Nat.reduceLeDiff,Nat.reduceLT,pureOp,binPure,intBin,strBin,eqPure,isConstO,unPure,sliceLo,sliceHi,slicePure,slice3Pure,lenPure,capPure,minPure,maxPure,buildP,resK,endV,yieldE,↓reduceIte,Nat.reduceEqDiff,reduceCtorEq,Nat.reduceAdd,Nat.reduceMul,Nat.reduceSub,Int.reduceLT,Int.reduceLE,Int.reduceToNat,Int.reduceAdd,Int.reduceSub,Int.reduceMul,ne_eq,decide_true,decide_false,tf18, he0]
  refine ⟨fun hgt => ?_, fun hle => ?_⟩
  · try simp -dsimp only [↓RE,↓c_seq,RU,RL,if_true,if_false,forall_const,implies_true,Nat.reduceLeDiff,Nat.reduceLT,pureOp,binPure,intBin,strBin,eqPure,isConstO,unPure,sliceLo,sliceHi,slicePure,slice3Pure,lenPure,capPure,minPure,maxPure,buildP,resK,endV,yieldE,↓reduceIte,Nat.reduceEqDiff,reduceCtorEq,Nat.reduceAdd,Nat.reduceMul,Nat.reduceSub,Int.reduceLT,Int.reduceLE,Int.reduceToNat,Int.reduceAdd,Int.reduceSub,Int.reduceMul,ne_eq,decide_true,decide_false,tf18, he0]
    refine fnew_ok (by decide) ?_
    try simp -dsimp only [↓RE,↓c_seq,RU,RL,if_true,if_false,forall_const,implies_true,Nat.reduceLeDiff,Nat.reduceLT,pureOp,binPure,intBin,strBin,eqPure,isConstO,unPure,sliceLo,sliceHi,slicePure,slice3Pure,lenPure,capPure,minPure,maxPure,buildP,resK,endV,yieldE,↓reduceIte,Nat.reduceEqDiff,reduceCtorEq,Nat.reduceAdd,Nat.reduceMul,Nat.reduceSub,Int.reduceLT,Int.reduceLE,Int.reduceToNat,Int.reduceAdd,Int.reduceSub,Int.reduceMul,ne_eq,decide_true,decide_false,tf18, he0]
    exact herr 6 w (vErr_long (by omega)) (Keep.refl _ _)
  have hn2 : n ≤ 1048576 := by omega
  have hB1 := Blk.new' w 65 #[.slice none 0 0, .int .i64 0]
  have g1 := Grow.alloc w (.cells #[.slice none 0 0, .int .i64 0] 65)
  have hW0 : WAt 65 (w.alloc (.cells #[.slice none 0 0, .int .i64 0] 65)) (fun k => k = w.heap.size ∨ fpV (.slice none 0 0) k) w.heap.size [] 0 := ⟨_, hB1, own_nil _ _ _, rfl⟩
  have hge : ∀ k, (k = w.heap.size ∨ fpV (.slice none 0 0) k) → w.heap.size ≤ k := by
    rintro k (rfl | hk)
    · exact Nat.le_refl _
    · exact absurd hk (fpV_none _)
  have q0 : IntKind.u64.wrap (n : Int) = (n : Int) := by rw [wrap_u64]; omega
  try simp -dsimp only [↓RE,↓c_seq,RU,RL,if_true,if_false,forall_const,implies_true,Nat.reduceLeDiff,Nat.reduceLT,pureOp,binPure,intBin,strBin,eqPure,isConstO,unPure,sliceLo,sliceHi,slicePure,slice3Pure,lenPure,capPure,minPure,maxPure,buildP,resK,endV,yieldE,↓reduceIte,Nat.reduceEqDiff,reduceCtorEq,Nat.reduceAdd,Nat.reduceMul,Nat.reduceSub,Int.reduceLT,Int.reduceLE,Int.reduceToNat,Int.reduceAdd,Int.reduceSub,Int.reduceMul,ne_eq,decide_true,decide_false,tf18, he0, q0]
  refine uint_ok (v := (n : Int)) hW0 (by omega) (by omega) (by simp) (fun w2 F2 hW2 hS2 => ?_)
  have hW2 : WAt 65 w2 F2 w.heap.size (vS l 0).q.1 (vS l 0).q.2 := by simpa [vS, hl] using hW2
  have g2 : Grow w w2 := g1.above hS2.keep (fun i hi hf => absurd (hge i hf) (by omega))
  have hF2 : ∀ k, F2 k → w.heap.size ≤ k := fun k hk => (hS2.sub k hk).elim (hge k) (fun h => by have := g1.size; omega)
  have hB5 := Blk.new' w2 35 #[.int .u8 0, .int .i64 0]
  have g5 := Grow.alloc w2 (.cells #[.int .u8 0, .int .i64 0] 35)
  have hlt2 := hW2.lt
  have hs2 := g2.size
  try simp -dsimp only [↓RE,↓c_seq,RU,RL,if_true,if_false,forall_const,implies_true,Nat.reduceLeDiff,Nat.reduceLT,pureOp,binPure,intBin,strBin,eqPure,isConstO,unPure,sliceLo,sliceHi,slicePure,slice3Pure,lenPure,capPure,minPure,maxPure,buildP,resK,endV,yieldE,↓reduceIte,Nat.reduceEqDiff,reduceCtorEq,Nat.reduceAdd,Nat.reduceMul,Nat.reduceSub,Int.reduceLT,Int.reduceLE,Int.reduceToNat,Int.reduceAdd,Int.reduceSub,Int.reduceMul,ne_eq,decide_true,decide_false,tf18, he0, Int.cast_ofNat_Int]
  refine wpLoop_intro (fun e' w' => e' 0 = .slice A n c ∧ e' 4 = .pointer (some ⟨w.heap.size, 0, none⟩) ∧ e' 5 = .pointer (some ⟨w2.heap.size, 0, none⟩) ∧ e' 19 = .slice A n c ∧ e' 20 = .int .i64 n ∧ ∃ (k : Nat) (F : Nat → Prop), k ≤ n ∧ e' 21 = .int .i64 k ∧
      e' 6 = .int .i64 (vS l k).ahead ∧ (∀ i, i < k → VRight (l.getD i (0, 0))) ∧ WAt 65 w' F w.heap.size (vS l k).q.1 (vS l k).q.2 ∧ Blk w' w2.heap.size 35 (vcells (vS l k).last) ∧ (∀ i, F i → w.heap.size ≤ i ∧ i ≠ w2.heap.size) ∧ Grow w w')
    (fun e' _ => n - (envInt (e' 21)).toNat) ⟨?_, ?_, ?_, ?_, ?_, 0, F2, Nat.zero_le _, ?_, ?_, fun i hi => absurd hi (by omega), hW2.grow g5, hB5, fun i hi => ⟨hF2 i hi, by have := hlt2 i hi; omega⟩, g2.trans g5⟩ ?_
  · simp -dsimp only [↓RE,RU,RL,if_true,if_false,↓reduceIte,Nat.reduceEqDiff,reduceCtorEq,decide_true,decide_false, he0]
  · simp -dsimp only [↓RE,RU,RL,if_true,if_false,↓reduceIte,Nat.reduceEqDiff,reduceCtorEq,decide_true,decide_false, he0]
  · simp -dsimp only [↓RE,RU,RL,if_true,if_false,↓reduceIte,Nat.reduceEqDiff,reduceCtorEq,decide_true,decide_false, he0]
  · simp -dsimp only [↓RE,RU,RL,if_true,if_false,↓reduceIte,Nat.reduceEqDiff,reduceCtorEq,decide_true,decide_false, he0]
  · simp -dsimp only [↓RE,RU,RL,if_true,if_false,↓reduceIte,Nat.reduceEqDiff,reduceCtorEq,decide_true,decide_false, he0]
  · simp -dsimp only [↓RE,RU,RL,if_true,if_false,↓reduceIte,Nat.reduceEqDiff,reduceCtorEq,decide_true,decide_false, he0, Int.cast_ofNat_Int]
  · simp -dsimp only [↓RE,RU,RL,if_true,if_false,↓reduceIte,Nat.reduceEqDiff,reduceCtorEq,decide_true,decide_false, he0, vS]
  rintro e' w' ⟨h0, h4, h5, h19, h20, k, F, hk, h21, h6, hrs, hW, hBl, hF, hg⟩
  have hok := vS_ok l k
  have hlen := vS_len (l := l) (by omega) k
  have hvk := vok_get hl0 k
  have hah := vahead hl0 k
  rw [c_seq]
  simp -dsimp only [↓RE,RU,RL,if_true,if_false,forall_const,implies_true,Nat.reduceLeDiff,Nat.reduceLT,pureOp,binPure,intBin,strBin,eqPure,isConstO,unPure,sliceLo,sliceHi,slicePure,slice3Pure,lenPure,capPure,minPure,maxPure,buildP,resK,endV,yieldE,↓reduceIte,Nat.reduceEqDiff,reduceCtorEq,Nat.reduceAdd,Nat.reduceMul,Nat.reduceSub,Int.reduceLT,Int.reduceLE,Int.reduceToNat,Int.reduceAdd,Int.reduceSub,Int.reduceMul,ne_eq,decide_true,decide_false,tf18, h0, h4, h5, h19, h20, h21, h6]
  rw [c_seq]
  simp -dsimp only [↓RE,RU,RL,if_true,if_false,forall_const,implies_true,Nat.reduceLeDiff,Nat.reduceLT,pureOp,binPure,intBin,strBin,eqPure,isConstO,unPure,sliceLo,sliceHi,slicePure,slice3Pure,lenPure,capPure,minPure,maxPure,buildP,resK,endV,yieldE,↓reduceIte,Nat.reduceEqDiff,reduceCtorEq,Nat.reduceAdd,Nat.reduceMul,Nat.reduceSub,Int.reduceLT,Int.reduceLE,Int.reduceToNat,Int.reduceAdd,Int.reduceSub,Int.reduceMul,ne_eq,decide_true,decide_false,tf18, h0, h4, h5, h19, h20, h21, h6]
  refine ⟨fun hlt => ?_, fun hge => ?_⟩
  · have hlk : k < n := by omega
    obtain ⟨ad, hA, hv⟩ := (hR.grow hg).val (k := k) hlk
    subst hA
    have hz0 := Blk.new' w' 35 #[.int .u8 0, .int .i64 0]
    have ga := Grow.alloc w' (.cells #[.int .u8 0, .int .i64 0] 35)
    rw [c_seq]
    simp -dsimp only [↓RE,RU,RL,if_true,if_false,forall_const,implies_true,Nat.reduceLeDiff,Nat.reduceLT,pureOp,binPure,intBin,strBin,eqPure,isConstO,unPure,sliceLo,sliceHi,slicePure,slice3Pure,lenPure,capPure,minPure,maxPure,buildP,resK,endV,yieldE,↓reduceIte,Nat.reduceEqDiff,reduceCtorEq,Nat.reduceAdd,Nat.reduceMul,Nat.reduceSub,Int.reduceLT,Int.reduceLE,Int.reduceToNat,Int.reduceAdd,Int.reduceSub,Int.reduceMul,ne_eq,decide_true,decide_false,tf18, h0, h4, h5, h19, h20, h21, h6]
    rw [c_seq]
    simp -dsimp only [↓RE,RU,RL,if_true,if_false,forall_const,implies_true,Nat.reduceLeDiff,Nat.reduceLT,pureOp,binPure,intBin,strBin,eqPure,isConstO,unPure,sliceLo,sliceHi,slicePure,slice3Pure,lenPure,capPure,minPure,maxPure,buildP,resK,endV,yieldE,↓reduceIte,Nat.reduceEqDiff,reduceCtorEq,Nat.reduceAdd,Nat.reduceMul,Nat.reduceSub,Int.reduceLT,Int.reduceLE,Int.reduceToNat,Int.reduceAdd,Int.reduceSub,Int.reduceMul,ne_eq,decide_true,decide_false,tf18, h0, h4, h5, h19, h20, h21, h6]
    refine ⟨⟨by omega, by omega⟩, ?_⟩
    refine hv ?_
    simp -dsimp only [↓RE,RU,RL,if_true,if_false,forall_const,implies_true,Nat.reduceLeDiff,Nat.reduceLT,pureOp,binPure,intBin,strBin,eqPure,isConstO,unPure,sliceLo,sliceHi,slicePure,slice3Pure,lenPure,capPure,minPure,maxPure,buildP,resK,endV,yieldE,↓reduceIte,Nat.reduceEqDiff,reduceCtorEq,Nat.reduceAdd,Nat.reduceMul,Nat.reduceSub,Int.reduceLT,Int.reduceLE,Int.reduceToNat,Int.reduceAdd,Int.reduceSub,Int.reduceMul,ne_eq,decide_true,decide_false,tf18, h0, h4, h5, h19, h20, h21, h6]
    refine hz0.stAgg (by simp) (by simp [Value.oneCell']) (fun w3 hB8 hK8 => ?_)
    have g3 : Grow w' w3 := ga.above hK8 (fun i hi e => by omega)
    have hB8 : Blk w3 w'.heap.size 35 [.int .u8 (l.getD k (0, 0)).1, .int .i64 (l.getD k (0, 0)).2] := by simpa using hB8
    simp -dsimp only [↓RE,RU,RL,if_true,if_false,forall_const,implies_true,Nat.reduceLeDiff,Nat.reduceLT,pureOp,binPure,intBin,strBin,eqPure,isConstO,unPure,sliceLo,sliceHi,slicePure,slice3Pure,lenPure,capPure,minPure,maxPure,buildP,resK,endV,yieldE,↓reduceIte,Nat.reduceEqDiff,reduceCtorEq,Nat.reduceAdd,Nat.reduceMul,Nat.reduceSub,Int.reduceLT,Int.reduceLE,Int.reduceToNat,Int.reduceAdd,Int.reduceSub,Int.reduceMul,ne_eq,decide_true,decide_false,tf18, h0]
    rw [c_seq, c_seq]
    simp -dsimp only [↓RE,RU,RL,if_true,if_false,forall_const,implies_true,Nat.reduceLeDiff,Nat.reduceLT,pureOp,binPure,intBin,strBin,eqPure,isConstO,unPure,sliceLo,sliceHi,slicePure,slice3Pure,lenPure,capPure,minPure,maxPure,buildP,resK,endV,yieldE,↓reduceIte,Nat.reduceEqDiff,reduceCtorEq,Nat.reduceAdd,Nat.reduceMul,Nat.reduceSub,Int.reduceLT,Int.reduceLE,Int.reduceToNat,Int.reduceAdd,Int.reduceSub,Int.reduceMul,ne_eq,decide_true,decide_false,tf18, h0, h4, h5, h19, h20, h21, h6]
    refine hB8.aggK (o := 0) (by simp) ?_
    simp -dsimp only [↓RE,RU,RL,if_true,if_false,forall_const,implies_true,Nat.reduceLeDiff,Nat.reduceLT,pureOp,binPure,intBin,strBin,eqPure,isConstO,unPure,sliceLo,sliceHi,slicePure,slice3Pure,lenPure,capPure,minPure,maxPure,buildP,resK,endV,yieldE,↓reduceIte,Nat.reduceEqDiff,reduceCtorEq,Nat.reduceAdd,Nat.reduceMul,Nat.reduceSub,Int.reduceLT,Int.reduceLE,Int.reduceToNat,Int.reduceAdd,Int.reduceSub,Int.reduceMul,ne_eq,decide_true,decide_false,tf18, h0, h4, h5, h19, h20, h21, h6, List.drop_zero, List.take_succ_cons, List.take_zero]
    refine right_ok (fun w4 g4 => ?_)
    simp -dsimp only [↓RE,RU,RL,if_true,if_false,forall_const,implies_true,Nat.reduceLeDiff,Nat.reduceLT,pureOp,binPure,intBin,strBin,eqPure,isConstO,unPure,sliceLo,sliceHi,slicePure,slice3Pure,lenPure,capPure,minPure,maxPure,buildP,resK,endV,yieldE,↓reduceIte,Nat.reduceEqDiff,reduceCtorEq,Nat.reduceAdd,Nat.reduceMul,Nat.reduceSub,Int.reduceLT,Int.reduceLE,Int.reduceToNat,Int.reduceAdd,Int.reduceSub,Int.reduceMul,ne_eq,decide_true,decide_false,tf18, h0, h4, h5, h19, h20, h21, h6]
    refine ⟨fun hbad => ?_, fun hgood => ?_⟩
    · try simp -dsimp only [↓RE,↓c_seq,RU,RL,if_true,if_false,forall_const,implies_true,Nat.reduceLeDiff,Nat.reduceLT,pureOp,binPure,intBin,strBin,eqPure,isConstO,unPure,sliceLo,sliceHi,slicePure,slice3Pure,lenPure,capPure,minPure,maxPure,buildP,resK,endV,yieldE,↓reduceIte,Nat.reduceEqDiff,reduceCtorEq,Nat.reduceAdd,Nat.reduceMul,Nat.reduceSub,Int.reduceLT,Int.reduceLE,Int.reduceToNat,Int.reduceAdd,Int.reduceSub,Int.reduceMul,ne_eq,decide_true,decide_false,tf18, h0]
      refine fnew_ok (by decide) ?_
      try simp -dsimp only [↓RE,↓c_seq,RU,RL,if_true,if_false,forall_const,implies_true,Nat.reduceLeDiff,Nat.reduceLT,pureOp,binPure,intBin,strBin,eqPure,isConstO,unPure,sliceLo,sliceHi,slicePure,slice3Pure,lenPure,capPure,minPure,maxPure,buildP,resK,endV,yieldE,↓reduceIte,Nat.reduceEqDiff,reduceCtorEq,Nat.reduceAdd,Nat.reduceMul,Nat.reduceSub,Int.reduceLT,Int.reduceLE,Int.reduceToNat,Int.reduceAdd,Int.reduceSub,Int.reduceMul,ne_eq,decide_true,decide_false,tf18, h0]
      exact herr 2 w4 (vErr_wrong (by omega) (by omega) hbad) (hg.trans (g3.trans g4))
    have hgood : VRight (l.getD k (0, 0)) := by first | exact hgood | exact Classical.not_not.1 hgood
    have g04 : Grow w' w4 := g3.trans g4
    have hW4 := hW.grow g04
    have hBl4 : Blk w4 w2.heap.size 35 [.int .u8 (vS l k).last.1, .int .i64 (vS l k).last.2] := hBl.grow g04
    have hB84 := hB8.grow g4
    have hnF8 : ¬ F w'.heap.size := fun hf => absurd (hW.lt _ hf) (by omega)
    have hnF5 : ¬ F w2.heap.size := fun hf => (hF _ hf).2 rfl
    generalize hvd : l.getD k (0, 0) = v at *
    refine c_seq_cut (fun e2 w2' => e2 0 = .slice (some ad) n c ∧ e2 4 = .pointer (some ⟨w.heap.size, 0, none⟩) ∧ e2 5 = .pointer (some ⟨w2.heap.size, 0, none⟩) ∧ e2 8 = .pointer (some ⟨w'.heap.size, 0, none⟩) ∧ e2 19 = .slice (some ad) n c ∧ e2 20 = .int .i64 n ∧ e2 21 = .int .i64 k ∧
      e2 6 = .int .i64 (vS l k).ahead ∧ ∃ F2, WAt 65 w2' F2 w.heap.size (vput (vS l k) v).1 (vput (vS l k) v).2 ∧ Step F F2 w4 w2') ?_ ?_
    · try simp -dsimp only [↓RE,↓c_seq,RU,RL,if_true,if_false,forall_const,implies_true,Nat.reduceLeDiff,Nat.reduceLT,pureOp,binPure,intBin,strBin,eqPure,isConstO,unPure,sliceLo,sliceHi,slicePure,slice3Pure,lenPure,capPure,minPure,maxPure,buildP,resK,endV,yieldE,↓reduceIte,Nat.reduceEqDiff,reduceCtorEq,Nat.reduceAdd,Nat.reduceMul,Nat.reduceSub,Int.reduceLT,Int.reduceLE,Int.reduceToNat,Int.reduceAdd,Int.reduceSub,Int.reduceMul,ne_eq,decide_true,decide_false,tf18, h0, h4, h5, h6, h19, h20, h21]
      refine hB84.aggK (o := 0) (by simp) ?_
      try simp -dsimp only [↓RE,↓c_seq,RU,RL,if_true,if_false,forall_const,implies_true,Nat.reduceLeDiff,Nat.reduceLT,pureOp,binPure,intBin,strBin,eqPure,isConstO,unPure,sliceLo,sliceHi,slicePure,slice3Pure,lenPure,capPure,minPure,maxPure,buildP,resK,endV,yieldE,↓reduceIte,Nat.reduceEqDiff,reduceCtorEq,Nat.reduceAdd,Nat.reduceMul,Nat.reduceSub,Int.reduceLT,Int.reduceLE,Int.reduceToNat,Int.reduceAdd,Int.reduceSub,Int.reduceMul,ne_eq,decide_true,decide_false,tf18, h0, h4, h5, h6, List.drop_zero, List.take_succ_cons, List.take_zero]
      refine hBl4.aggK (o := 0) (by simp) ?_
      try simp -dsimp only [↓RE,↓c_seq,RU,RL,if_true,if_false,forall_const,implies_true,Nat.reduceLeDiff,Nat.reduceLT,pureOp,binPure,intBin,strBin,eqPure,isConstO,unPure,sliceLo,sliceHi,slicePure,slice3Pure,lenPure,capPure,minPure,maxPure,buildP,resK,endV,yieldE,↓reduceIte,Nat.reduceEqDiff,reduceCtorEq,Nat.reduceAdd,Nat.reduceMul,Nat.reduceSub,Int.reduceLT,Int.reduceLE,Int.reduceToNat,Int.reduceAdd,Int.reduceSub,Int.reduceMul,ne_eq,decide_true,decide_false,tf18, h0, h4, h5, h6, List.drop_zero, List.take_succ_cons, List.take_zero, Option.map_some]
      have b1 : brought 1 = 1 := by decide
      have b2 : brought 2 = 2 := by decide
      have b3 : brought 3 = 3 := by decide
      have b6 : brought 6 = 6 := by decide
      refine ⟨fun hsame => ?_, fun hdiff => ?_⟩
      · have hv2 : vput (vS l k) v = pushBits 0 1 (vS l k).q := if_pos (Prod.ext hsame.1 hsame.2)
        refine bits_ok hW4 hok (by omega) (by omega) (by omega) (by omega) (by omega) (fun w5 F5 hW5 hS5 => ?_)
        rw [b1, ← hv2] at hW5
        try simp -dsimp only [↓RE,↓c_seq,RU,RL,if_true,if_false,forall_const,implies_true,Nat.reduceLeDiff,Nat.reduceLT,pureOp,binPure,intBin,strBin,eqPure,isConstO,unPure,sliceLo,sliceHi,slicePure,slice3Pure,lenPure,capPure,minPure,maxPure,buildP,resK,endV,yieldE,↓reduceIte,Nat.reduceEqDiff,reduceCtorEq,Nat.reduceAdd,Nat.reduceMul,Nat.reduceSub,Int.reduceLT,Int.reduceLE,Int.reduceToNat,Int.reduceAdd,Int.reduceSub,Int.reduceMul,ne_eq,decide_true,decide_false,tf18, h0]
        refine hold_intro ⟨?_, ?_, ?_, ?_, ?_, ?_, ?_, ?_, F5, hW5, hS5⟩
        · simp -dsimp only [↓RE,RU,RL,if_true,if_false,↓reduceIte,Nat.reduceEqDiff,reduceCtorEq,decide_true,decide_false, h0]
        · simp -dsimp only [↓RE,RU,RL,if_true,if_false,↓reduceIte,Nat.reduceEqDiff,reduceCtorEq,decide_true,decide_false, h4]
        · simp -dsimp only [↓RE,RU,RL,if_true,if_false,↓reduceIte,Nat.reduceEqDiff,reduceCtorEq,decide_true,decide_false, h5]
        · simp -dsimp only [↓RE,RU,RL,if_true,if_false,↓reduceIte,Nat.reduceEqDiff,reduceCtorEq,decide_true,decide_false, h0]
        · simp -dsimp only [↓RE,RU,RL,if_true,if_false,↓reduceIte,Nat.reduceEqDiff,reduceCtorEq,decide_true,decide_false, h19]
        · simp -dsimp only [↓RE,RU,RL,if_true,if_false,↓reduceIte,Nat.reduceEqDiff,reduceCtorEq,decide_true,decide_false, h20]
        · simp -dsimp only [↓RE,RU,RL,if_true,if_false,↓reduceIte,Nat.reduceEqDiff,reduceCtorEq,decide_true,decide_false, h21]
        · simp -dsimp only [↓RE,RU,RL,if_true,if_false,↓reduceIte,Nat.reduceEqDiff,reduceCtorEq,decide_true,decide_false, h6]
      have hne : ¬ v = (vS l k).last := fun hq => hdiff (by rw [hq]; exact ⟨rfl, rfl⟩)
      try simp -dsimp only [↓RE,↓c_seq,RU,RL,if_true,if_false,forall_const,implies_true,Nat.reduceLeDiff,Nat.reduceLT,pureOp,binPure,intBin,strBin,eqPure,isConstO,unPure,sliceLo,sliceHi,slicePure,slice3Pure,lenPure,capPure,minPure,maxPure,buildP,resK,endV,yieldE,↓reduceIte,Nat.reduceEqDiff,reduceCtorEq,Nat.reduceAdd,Nat.reduceMul,Nat.reduceSub,Int.reduceLT,Int.reduceLE,Int.reduceToNat,Int.reduceAdd,Int.reduceSub,Int.reduceMul,ne_eq,decide_true,decide_false,tf18, h0, hB84.cell]
      refine ⟨fun hk0 => ?_, fun hk0 => ?_⟩
      · have hz := zrange v.2 (vS l k).ahead
        have hz64 := vsize_64 hz.1 hz.2
        have hz1 := vsize_pos (foldI (IntKind.i64.wrap (v.2 - (vS l k).ahead)))
        have hmax := blen_max (foldI (IntKind.i64.wrap (v.2 - (vS l k).ahead)))
        have hwr := wrap_i64 (v.2 - (vS l k).ahead)
        have hv2 : vput (vS l k) v = pushBits (foldI (IntKind.i64.wrap (v.2 - (vS l k).ahead))) (vsize (foldI (IntKind.i64.wrap (v.2 - (vS l k).ahead)))) (pushBits ((vsize (foldI (IntKind.i64.wrap (v.2 - (vS l k).ahead))) : Int) - 1) 6 (pushBits 2 2 (vS l k).q)) := (if_neg hne).trans (if_pos hk0)
        try simp -dsimp only [↓RE,↓c_seq,RU,RL,if_true,if_false,forall_const,implies_true,Nat.reduceLeDiff,Nat.reduceLT,pureOp,binPure,intBin,strBin,eqPure,isConstO,unPure,sliceLo,sliceHi,slicePure,slice3Pure,lenPure,capPure,minPure,maxPure,buildP,resK,endV,yieldE,↓reduceIte,Nat.reduceEqDiff,reduceCtorEq,Nat.reduceAdd,Nat.reduceMul,Nat.reduceSub,Int.reduceLT,Int.reduceLE,Int.reduceToNat,Int.reduceAdd,Int.reduceSub,Int.reduceMul,ne_eq,decide_true,decide_false,tf18, h0, h6, hB84.cell]
        refine bfold_ok (by omega) (by omega) ?_
        generalize foldI (IntKind.i64.wrap (v.2 - (vS l k).ahead)) = z at hz hz64 hz1 hmax hv2 ⊢
        try simp -dsimp only [↓RE,↓c_seq,RU,RL,if_true,if_false,forall_const,implies_true,Nat.reduceLeDiff,Nat.reduceLT,pureOp,binPure,intBin,strBin,eqPure,isConstO,unPure,sliceLo,sliceHi,slicePure,slice3Pure,lenPure,capPure,minPure,maxPure,buildP,resK,endV,yieldE,↓reduceIte,Nat.reduceEqDiff,reduceCtorEq,Nat.reduceAdd,Nat.reduceMul,Nat.reduceSub,Int.reduceLT,Int.reduceLE,Int.reduceToNat,Int.reduceAdd,Int.reduceSub,Int.reduceMul,ne_eq,decide_true,decide_false,tf18, h0]
        refine len64_ok hz.1 hz.2 ?_
        try simp -dsimp only [↓RE,↓c_seq,RU,RL,if_true,if_false,forall_const,implies_true,Nat.reduceLeDiff,Nat.reduceLT,pureOp,binPure,intBin,strBin,eqPure,isConstO,unPure,sliceLo,sliceHi,slicePure,slice3Pure,lenPure,capPure,minPure,maxPure,buildP,resK,endV,yieldE,↓reduceIte,Nat.reduceEqDiff,reduceCtorEq,Nat.reduceAdd,Nat.reduceMul,Nat.reduceSub,Int.reduceLT,Int.reduceLE,Int.reduceToNat,Int.reduceAdd,Int.reduceSub,Int.reduceMul,ne_eq,decide_true,decide_false,tf18, h0, h4]
        have hok2 := pushBits_ok 2 2 (vS l k).q hok
        have hl2 := pushBits_len 2 2 (vS l k).q
        refine bits_ok hW4 hok (by omega) (by omega) (by omega) (by omega) (by omega) (fun w5 F5 hW5 hS5 => ?_)
        rw [b2] at hW5
        generalize pushBits 2 2 (vS l k).q = s5 at hW5 hok2 hl2 hv2
        have hm : (if ((blen z : Nat) : Int) > 1 then ((blen z : Nat) : Int) else 1) = ((vsize z : Nat) : Int) := by split <;> omega
        have hw : IntKind.u64.wrap (IntKind.i64.wrap (((vsize z : Nat) : Int) - 1)) = ((vsize z : Nat) : Int) - 1 := by rw [wrap_i64_in (by omega) (by omega), wrap_u64]; omega
        try simp -dsimp only [↓RE,↓c_seq,RU,RL,if_true,if_false,forall_const,implies_true,Nat.reduceLeDiff,Nat.reduceLT,pureOp,binPure,intBin,strBin,eqPure,isConstO,unPure,sliceLo,sliceHi,slicePure,slice3Pure,lenPure,capPure,minPure,maxPure,buildP,resK,endV,yieldE,↓reduceIte,Nat.reduceEqDiff,reduceCtorEq,Nat.reduceAdd,Nat.reduceMul,Nat.reduceSub,Int.reduceLT,Int.reduceLE,Int.reduceToNat,Int.reduceAdd,Int.reduceSub,Int.reduceMul,ne_eq,decide_true,decide_false,tf18, h0, h4, hm, hw]
        have hok3 := pushBits_ok (((vsize z : Nat) : Int) - 1) 6 s5 hok2
        have hl3 := pushBits_len (((vsize z : Nat) : Int) - 1) 6 s5
        refine bits_ok (b := s5.2) hW5 hok2 (by omega) (by omega) (by omega) (by omega) (by omega) (fun w6 F6 hW6 hS6 => ?_)
        rw [b6] at hW6
        generalize pushBits (((vsize z : Nat) : Int) - 1) 6 s5 = s6 at hW6 hok3 hl3 hv2
        try simp -dsimp only [↓RE,↓c_seq,RU,RL,if_true,if_false,forall_const,implies_true,Nat.reduceLeDiff,Nat.reduceLT,pureOp,binPure,intBin,strBin,eqPure,isConstO,unPure,sliceLo,sliceHi,slicePure,slice3Pure,lenPure,capPure,minPure,maxPure,buildP,resK,endV,yieldE,↓reduceIte,Nat.reduceEqDiff,reduceCtorEq,Nat.reduceAdd,Nat.reduceMul,Nat.reduceSub,Int.reduceLT,Int.reduceLE,Int.reduceToNat,Int.reduceAdd,Int.reduceSub,Int.reduceMul,ne_eq,decide_true,decide_false,tf18, h0, h4, hm]
        have bz : brought ((vsize z : Nat) : Int) = vsize z := by unfold brought; rw [if_neg (by omega), if_neg (by omega)]; omega
        refine bits_ok (b := s6.2) hW6 hok3 hz.1 hz.2 (by omega) (by omega) (by omega) (fun w7 F7 hW7 hS7 => ?_)
        rw [bz, ← hv2] at hW7
        try simp -dsimp only [↓RE,↓c_seq,RU,RL,if_true,if_false,forall_const,implies_true,Nat.reduceLeDiff,Nat.reduceLT,pureOp,binPure,intBin,strBin,eqPure,isConstO,unPure,sliceLo,sliceHi,slicePure,slice3Pure,lenPure,capPure,minPure,maxPure,buildP,resK,endV,yieldE,↓reduceIte,Nat.reduceEqDiff,reduceCtorEq,Nat.reduceAdd,Nat.reduceMul,Nat.reduceSub,Int.reduceLT,Int.reduceLE,Int.reduceToNat,Int.reduceAdd,Int.reduceSub,Int.reduceMul,ne_eq,decide_true,decide_false,tf18, h0]
        refine hold_intro ⟨?_, ?_, ?_, ?_, ?_, ?_, ?_, ?_, F7, hW7, (hS5.trans hS6).trans hS7⟩
        · simp -dsimp only [↓RE,RU,RL,if_true,if_false,↓reduceIte,Nat.reduceEqDiff,reduceCtorEq,decide_true,decide_false, h0]
        · simp -dsimp only [↓RE,RU,RL,if_true,if_false,↓reduceIte,Nat.reduceEqDiff,reduceCtorEq,decide_true,decide_false, h4]
        · simp -dsimp only [↓RE,RU,RL,if_true,if_false,↓reduceIte,Nat.reduceEqDiff,reduceCtorEq,decide_true,decide_false, h5]
        · simp -dsimp only [↓RE,RU,RL,if_true,if_false,↓reduceIte,Nat.reduceEqDiff,reduceCtorEq,decide_true,decide_false, h0]
        · simp -dsimp only [↓RE,RU,RL,if_true,if_false,↓reduceIte,Nat.reduceEqDiff,reduceCtorEq,decide_true,decide_false, h19]
        · simp -dsimp only [↓RE,RU,RL,if_true,if_false,↓reduceIte,Nat.reduceEqDiff,reduceCtorEq,decide_true,decide_false, h20]
        · simp -dsimp only [↓RE,RU,RL,if_true,if_false,↓reduceIte,Nat.reduceEqDiff,reduceCtorEq,decide_true,decide_false, h21]
        · simp -dsimp only [↓RE,RU,RL,if_true,if_false,↓reduceIte,Nat.reduceEqDiff,reduceCtorEq,decide_true,decide_false, h6]
      · try simp -dsimp only [↓RE,↓c_seq,RU,RL,if_true,if_false,forall_const,implies_true,Nat.reduceLeDiff,Nat.reduceLT,pureOp,binPure,intBin,strBin,eqPure,isConstO,unPure,sliceLo,sliceHi,slicePure,slice3Pure,lenPure,capPure,minPure,maxPure,buildP,resK,endV,yieldE,↓reduceIte,Nat.reduceEqDiff,reduceCtorEq,Nat.reduceAdd,Nat.reduceMul,Nat.reduceSub,Int.reduceLT,Int.reduceLE,Int.reduceToNat,Int.reduceAdd,Int.reduceSub,Int.reduceMul,ne_eq,decide_true,decide_false,tf18, h0, hB84.cell]
        refine ⟨fun hk1 => ?_, fun hk1 => ?_⟩
        · have hv2 : vput (vS l k) v = pushBits 6 3 (vS l k).q := (if_neg hne).trans ((if_neg hk0).trans (if_pos hk1))
          try simp -dsimp only [↓RE,↓c_seq,RU,RL,if_true,if_false,forall_const,implies_true,Nat.reduceLeDiff,Nat.reduceLT,pureOp,binPure,intBin,strBin,eqPure,isConstO,unPure,sliceLo,sliceHi,slicePure,slice3Pure,lenPure,capPure,minPure,maxPure,buildP,resK,endV,yieldE,↓reduceIte,Nat.reduceEqDiff,reduceCtorEq,Nat.reduceAdd,Nat.reduceMul,Nat.reduceSub,Int.reduceLT,Int.reduceLE,Int.reduceToNat,Int.reduceAdd,Int.reduceSub,Int.reduceMul,ne_eq,decide_true,decide_false,tf18, h0, h4]
          refine bits_ok hW4 hok (by omega) (by omega) (by omega) (by omega) (by omega) (fun w5 F5 hW5 hS5 => ?_)
          rw [b3, ← hv2] at hW5
          try simp -dsimp only [↓RE,↓c_seq,RU,RL,if_true,if_false,forall_const,implies_true,Nat.reduceLeDiff,Nat.reduceLT,pureOp,binPure,intBin,strBin,eqPure,isConstO,unPure,sliceLo,sliceHi,slicePure,slice3Pure,lenPure,capPure,minPure,maxPure,buildP,resK,endV,yieldE,↓reduceIte,Nat.reduceEqDiff,reduceCtorEq,Nat.reduceAdd,Nat.reduceMul,Nat.reduceSub,Int.reduceLT,Int.reduceLE,Int.reduceToNat,Int.reduceAdd,Int.reduceSub,Int.reduceMul,ne_eq,decide_true,decide_false,tf18, h0]
          refine hold_intro ⟨?_, ?_, ?_, ?_, ?_, ?_, ?_, ?_, F5, hW5, hS5⟩
          · simp -dsimp only [↓RE,RU,RL,if_true,if_false,↓reduceIte,Nat.reduceEqDiff,reduceCtorEq,decide_true,decide_false, h0]
          · simp -dsimp only [↓RE,RU,RL,if_true,if_false,↓reduceIte,Nat.reduceEqDiff,reduceCtorEq,decide_true,decide_false, h4]
          · simp -dsimp only [↓RE,RU,RL,if_true,if_false,↓reduceIte,Nat.reduceEqDiff,reduceCtorEq,decide_true,decide_false, h5]
          · simp -dsimp only [↓RE,RU,RL,if_true,if_false,↓reduceIte,Nat.reduceEqDiff,reduceCtorEq,decide_true,decide_false, h0]
          · simp -dsimp only [↓RE,RU,RL,if_true,if_false,↓reduceIte,Nat.reduceEqDiff,reduceCtorEq,decide_true,decide_false, h19]
          · simp -dsimp only [↓RE,RU,RL,if_true,if_false,↓reduceIte,Nat.reduceEqDiff,reduceCtorEq,decide_true,decide_false, h20]
          · simp -dsimp only [↓RE,RU,RL,if_true,if_false,↓reduceIte,Nat.reduceEqDiff,reduceCtorEq,decide_true,decide_false, h21]
          · simp -dsimp only [↓RE,RU,RL,if_true,if_false,↓reduceIte,Nat.reduceEqDiff,reduceCtorEq,decide_true,decide_false, h6]
        · have hv2 : vput (vS l k) v = pushBits 7 3 (vS l k).q := (if_neg hne).trans ((if_neg hk0).trans (if_neg hk1))
          try simp -dsimp only [↓RE,↓c_seq,RU,RL,if_true,if_false,forall_const,implies_true,Nat.reduceLeDiff,Nat.reduceLT,pureOp,binPure,intBin,strBin,eqPure,isConstO,unPure,sliceLo,sliceHi,slicePure,slice3Pure,lenPure,capPure,minPure,maxPure,buildP,resK,endV,yieldE,↓reduceIte,Nat.reduceEqDiff,reduceCtorEq,Nat.reduceAdd,Nat.reduceMul,Nat.reduceSub,Int.reduceLT,Int.reduceLE,Int.reduceToNat,Int.reduceAdd,Int.reduceSub,Int.reduceMul,ne_eq,decide_true,decide_false,tf18, h0, h4]
          refine bits_ok hW4 hok (by omega) (by omega) (by omega) (by omega) (by omega) (fun w5 F5 hW5 hS5 => ?_)
          rw [b3, ← hv2] at hW5
          try simp -dsimp only [↓RE,↓c_seq,RU,RL,if_true,if_false,forall_const,implies_true,Nat.reduceLeDiff,Nat.reduceLT,pureOp,binPure,intBin,strBin,eqPure,isConstO,unPure,sliceLo,sliceHi,slicePure,slice3Pure,lenPure,capPure,minPure,maxPure,buildP,resK,endV,yieldE,↓reduceIte,Nat.reduceEqDiff,reduceCtorEq,Nat.reduceAdd,Nat.reduceMul,Nat.reduceSub,Int.reduceLT,Int.reduceLE,Int.reduceToNat,Int.reduceAdd,Int.reduceSub,Int.reduceMul,ne_eq,decide_true,decide_false,tf18, h0]
          refine hold_intro ⟨?_, ?_, ?_, ?_, ?_, ?_, ?_, ?_, F5, hW5, hS5⟩
          · simp -dsimp only [↓RE,RU,RL,if_true,if_false,↓reduceIte,Nat.reduceEqDiff,reduceCtorEq,decide_true,decide_false, h0]
          · simp -dsimp only [↓RE,RU,RL,if_true,if_false,↓reduceIte,Nat.reduceEqDiff,reduceCtorEq,decide_true,decide_false, h4]
          · simp -dsimp only [↓RE,RU,RL,if_true,if_false,↓reduceIte,Nat.reduceEqDiff,reduceCtorEq,decide_true,decide_false, h5]
          · simp -dsimp only [↓RE,RU,RL,if_true,if_false,↓reduceIte,Nat.reduceEqDiff,reduceCtorEq,decide_true,decide_false, h0]
          · simp -dsimp only [↓RE,RU,RL,if_true,if_false,↓reduceIte,Nat.reduceEqDiff,reduceCtorEq,decide_true,decide_false, h19]
          · simp -dsimp only [↓RE,RU,RL,if_true,if_false,↓reduceIte,Nat.reduceEqDiff,reduceCtorEq,decide_true,decide_false, h20]
          · simp -dsimp only [↓RE,RU,RL,if_true,if_false,↓reduceIte,Nat.reduceEqDiff,reduceCtorEq,decide_true,decide_false, h21]
          · simp -dsimp only [↓RE,RU,RL,if_true,if_false,↓reduceIte,Nat.reduceEqDiff,reduceCtorEq,decide_true,decide_false, h6]
    · rintro e2 w5 ⟨f0, f4, f5, f8, f19, f20, f21, f6, F5, hW5, hS5⟩
      have hB85 := hB84.keep hS5.keep hnF8
      have hBl5 := hBl4.keep hS5.keep hnF5
      try simp -dsimp only [↓RE,↓c_seq,RU,RL,if_true,if_false,forall_const,implies_true,Nat.reduceLeDiff,Nat.reduceLT,pureOp,binPure,intBin,strBin,eqPure,isConstO,unPure,sliceLo,sliceHi,slicePure,slice3Pure,lenPure,capPure,minPure,maxPure,buildP,resK,endV,yieldE,↓reduceIte,Nat.reduceEqDiff,reduceCtorEq,Nat.reduceAdd,Nat.reduceMul,Nat.reduceSub,Int.reduceLT,Int.reduceLE,Int.reduceToNat,Int.reduceAdd,Int.reduceSub,Int.reduceMul,ne_eq,decide_true,decide_false,tf18, f0, f4, f5, f8, f6]
      refine hB85.aggK (o := 0) (by simp) ?_
      try simp -dsimp only [↓RE,↓c_seq,RU,RL,if_true,if_false,forall_const,implies_true,Nat.reduceLeDiff,Nat.reduceLT,pureOp,binPure,intBin,strBin,eqPure,isConstO,unPure,sliceLo,sliceHi,slicePure,slice3Pure,lenPure,capPure,minPure,maxPure,buildP,resK,endV,yieldE,↓reduceIte,Nat.reduceEqDiff,reduceCtorEq,Nat.reduceAdd,Nat.reduceMul,Nat.reduceSub,Int.reduceLT,Int.reduceLE,Int.reduceToNat,Int.reduceAdd,Int.reduceSub,Int.reduceMul,ne_eq,decide_true,decide_false,tf18, f0, f4, f5, f8, f6, List.drop_zero, List.take_succ_cons, List.take_zero]
      refine hBl5.stAgg (o := 0) (by simp) (by simp [Value.oneCell']) (fun w6 hBl6 hK6 => ?_)
      have hBl6 : Blk w6 w2.heap.size 35 (vcells v) := by simpa [vcells] using hBl6
      have hg5 : Grow w w5 := (hg.trans g04).above hS5.keep (fun i hi hf => absurd (hF i hf).1 (by omega))
      have hg6 : Grow w w6 := hg5.above hK6 (fun i hi hq => by omega)
      have h58 : w'.heap.size ≠ w2.heap.size := by have := hBl.lt; omega
      have hB86 := hB85.keep hK6 (fun hq => h58 hq)
      have hF5 : ∀ i, F5 i → w.heap.size ≤ i ∧ i ≠ w2.heap.size := fun i hi => (hS5.sub i hi).elim (hF i) (fun hq => by have := (hg.trans g04).size; have := hBl4.lt; omega)
      have hW6 := hW5.keep hK6 (fun i hi hq => (hF5 i hi).2 hq)
      have hrs' : ∀ i, i < k + 1 → VRight (l.getD i (0, 0)) := fun i hi => by
        by_cases hq : i = k
        · subst hq; rw [hvd]; exact hgood
        · exact hrs i (by omega)
      have hvs : vS l (k + 1) = ⟨vput (vS l k) v, v, if v.1 = 0 then v.2 else (vS l k).ahead⟩ := by rw [← hvd]; rfl
      have hw1 : IntKind.i64.wrap ((k : Int) + 1) = ((k + 1 : Nat) : Int) := by rw [wrap_i64_in (by omega) (by omega)]; omega
      try simp -dsimp only [↓RE,↓c_seq,RU,RL,if_true,if_false,forall_const,implies_true,Nat.reduceLeDiff,Nat.reduceLT,pureOp,binPure,intBin,strBin,eqPure,isConstO,unPure,sliceLo,sliceHi,slicePure,slice3Pure,lenPure,capPure,minPure,maxPure,buildP,resK,endV,yieldE,↓reduceIte,Nat.reduceEqDiff,reduceCtorEq,Nat.reduceAdd,Nat.reduceMul,Nat.reduceSub,Int.reduceLT,Int.reduceLE,Int.reduceToNat,Int.reduceAdd,Int.reduceSub,Int.reduceMul,ne_eq,decide_true,decide_false,tf18, f0, f4, f5, f8, f6, hB86.cell]
      refine ⟨fun hk0 => ?_, fun hk0 => ?_⟩
      · try simp -dsimp only [↓RE,↓c_seq,RU,RL,if_true,if_false,forall_const,implies_true,Nat.reduceLeDiff,Nat.reduceLT,pureOp,binPure,intBin,strBin,eqPure,isConstO,unPure,sliceLo,sliceHi,slicePure,slice3Pure,lenPure,capPure,minPure,maxPure,buildP,resK,endV,yieldE,↓reduceIte,Nat.reduceEqDiff,reduceCtorEq,Nat.reduceAdd,Nat.reduceMul,Nat.reduceSub,Int.reduceLT,Int.reduceLE,Int.reduceToNat,Int.reduceAdd,Int.reduceSub,Int.reduceMul,ne_eq,decide_true,decide_false,tf18, f0, f4, f5, f8, f6, f21, hB86.cell, hw1]
        refine hold_intro ⟨⟨?_, ?_, ?_, ?_, ?_, k + 1, F5, by omega, ?_, ?_, hrs', by rw [hvs]; exact hW6, by rw [hvs]; exact hBl6, hF5, hg6⟩, ?_⟩
        · simp -dsimp only [↓RE,RU,RL,if_true,if_false,↓reduceIte,Nat.reduceEqDiff,reduceCtorEq,decide_true,decide_false, f0]
        · simp -dsimp only [↓RE,RU,RL,if_true,if_false,↓reduceIte,Nat.reduceEqDiff,reduceCtorEq,decide_true,decide_false, f4]
        · simp -dsimp only [↓RE,RU,RL,if_true,if_false,↓reduceIte,Nat.reduceEqDiff,reduceCtorEq,decide_true,decide_false, f5]
        · simp -dsimp only [↓RE,RU,RL,if_true,if_false,↓reduceIte,Nat.reduceEqDiff,reduceCtorEq,decide_true,decide_false, f19]
        · simp -dsimp only [↓RE,RU,RL,if_true,if_false,↓reduceIte,Nat.reduceEqDiff,reduceCtorEq,decide_true,decide_false, f20]
        · simp -dsimp only [↓RE,RU,RL,if_true,if_false,↓reduceIte,Nat.reduceEqDiff,reduceCtorEq,decide_true,decide_false, f21, hw1]
        · rw [hvs, show (if v.1 = 0 then v.2 else (vS l k).ahead) = v.2 from if_pos hk0]
          simp -dsimp only [↓RE,↓c_seq,RU,RL,if_true,if_false,forall_const,implies_true,Nat.reduceLeDiff,Nat.reduceLT,pureOp,binPure,intBin,strBin,eqPure,isConstO,unPure,sliceLo,sliceHi,slicePure,slice3Pure,lenPure,capPure,minPure,maxPure,buildP,resK,endV,yieldE,↓reduceIte,Nat.reduceEqDiff,reduceCtorEq,Nat.reduceAdd,Nat.reduceMul,Nat.reduceSub,Int.reduceLT,Int.reduceLE,Int.reduceToNat,Int.reduceAdd,Int.reduceSub,Int.reduceMul,ne_eq,decide_true,decide_false,tf18, f8, hB86.cell]
        · simp -dsimp only [↓RE,RU,RL,if_true,if_false,↓reduceIte,Nat.reduceEqDiff,reduceCtorEq,decide_true,decide_false, f21, h21, hw1]
          rw [envInt_int, envInt_int]; omega
      · try simp -dsimp only [↓RE,↓c_seq,RU,RL,if_true,if_false,forall_const,implies_true,Nat.reduceLeDiff,Nat.reduceLT,pureOp,binPure,intBin,strBin,eqPure,isConstO,unPure,sliceLo,sliceHi,slicePure,slice3Pure,lenPure,capPure,minPure,maxPure,buildP,resK,endV,yieldE,↓reduceIte,Nat.reduceEqDiff,reduceCtorEq,Nat.reduceAdd,Nat.reduceMul,Nat.reduceSub,Int.reduceLT,Int.reduceLE,Int.reduceToNat,Int.reduceAdd,Int.reduceSub,Int.reduceMul,ne_eq,decide_true,decide_false,tf18, f0, f4, f5, f8, f6, f21, hB86.cell, hw1]
        refine hold_intro ⟨⟨?_, ?_, ?_, ?_, ?_, k + 1, F5, by omega, ?_, ?_, hrs', by rw [hvs]; exact hW6, by rw [hvs]; exact hBl6, hF5, hg6⟩, ?_⟩
        · simp -dsimp only [↓RE,RU,RL,if_true,if_false,↓reduceIte,Nat.reduceEqDiff,reduceCtorEq,decide_true,decide_false, f0]
        · simp -dsimp only [↓RE,RU,RL,if_true,if_false,↓reduceIte,Nat.reduceEqDiff,reduceCtorEq,decide_true,decide_false, f4]
        · simp -dsimp only [↓RE,RU,RL,if_true,if_false,↓reduceIte,Nat.reduceEqDiff,reduceCtorEq,decide_true,decide_false, f5]
        · simp -dsimp only [↓RE,RU,RL,if_true,if_false,↓reduceIte,Nat.reduceEqDiff,reduceCtorEq,decide_true,decide_false, f19]
        · simp -dsimp only [↓RE,RU,RL,if_true,if_false,↓reduceIte,Nat.reduceEqDiff,reduceCtorEq,decide_true,decide_false, f20]
        · simp -dsimp only [↓RE,RU,RL,if_true,if_false,↓reduceIte,Nat.reduceEqDiff,reduceCtorEq,decide_true,decide_false, f21, hw1]
        · rw [hvs, show (if v.1 = 0 then v.2 else (vS l k).ahead) = (vS l k).ahead from if_neg hk0]
          simp -dsimp only [↓RE,↓c_seq,RU,RL,if_true,if_false,forall_const,implies_true,Nat.reduceLeDiff,Nat.reduceLT,pureOp,binPure,intBin,strBin,eqPure,isConstO,unPure,sliceLo,sliceHi,slicePure,slice3Pure,lenPure,capPure,minPure,maxPure,buildP,resK,endV,yieldE,↓reduceIte,Nat.reduceEqDiff,reduceCtorEq,Nat.reduceAdd,Nat.reduceMul,Nat.reduceSub,Int.reduceLT,Int.reduceLE,Int.reduceToNat,Int.reduceAdd,Int.reduceSub,Int.reduceMul,ne_eq,decide_true,decide_false,tf18, f6]
        · simp -dsimp only [↓RE,RU,RL,if_true,if_false,↓reduceIte,Nat.reduceEqDiff,reduceCtorEq,decide_true,decide_false, f21, h21, hw1]
          rw [envInt_int, envInt_int]; omega
  · obtain rfl : k = n := by omega
    rw [← hl] at hrs
    try simp -dsimp only [↓RE,↓c_seq,RU,RL,if_true,if_false,forall_const,implies_true,Nat.reduceLeDiff,Nat.reduceLT,pureOp,binPure,intBin,strBin,eqPure,isConstO,unPure,sliceLo,sliceHi,slicePure,slice3Pure,lenPure,capPure,minPure,maxPure,buildP,resK,endV,yieldE,↓reduceIte,Nat.reduceEqDiff,reduceCtorEq,Nat.reduceAdd,Nat.reduceMul,Nat.reduceSub,Int.reduceLT,Int.reduceLE,Int.reduceToNat,Int.reduceAdd,Int.reduceSub,Int.reduceMul,ne_eq,decide_true,decide_false,tf18, h0, h4]
    refine bytes_ok hW (by omega) (fun w3 A3 c3 hO3 g3 hF3 => ?_)
    try simp -dsimp only [↓RE,↓c_seq,RU,RL,if_true,if_false,forall_const,implies_true,Nat.reduceLeDiff,Nat.reduceLT,pureOp,binPure,intBin,strBin,eqPure,isConstO,unPure,sliceLo,sliceHi,slicePure,slice3Pure,lenPure,capPure,minPure,maxPure,buildP,resK,endV,yieldE,↓reduceIte,Nat.reduceEqDiff,reduceCtorEq,Nat.reduceAdd,Nat.reduceMul,Nat.reduceSub,Int.reduceLT,Int.reduceLE,Int.reduceToNat,Int.reduceAdd,Int.reduceSub,Int.reduceMul,ne_eq,decide_true,decide_false,tf18, h0, h4]
    exact h (vErr_right (by omega) hrs) w3 A3 c3 hO3 (hg.trans g3) (fun i hi => by have := hF3 i hi; have := hg.size; omega)

end Go.Proofs.Ytpocfghkolppmaa
