/- The sums: the program's Crc goes by fours of bits with a table, the document's bit by bit: both are the same function of the bytes. -/
import Derived.Test.YtcjlhfmjcioeeaaSame
set_option linter.unusedVariables false
set_option linter.unusedSimpArgs false
set_option maxRecDepth 100000
namespace Go.Proofs.Ytcjlhfmjcioeeaa
open Go

/-! ### in plain terms -/

def crcStep (x : Nat) : Nat := if x % 2 = 1 then x / 2 ^^^ 3988292384 else x / 2
def crcSteps : Nat → Nat → Nat
  | 0, x => x
  | k + 1, x => crcSteps k (crcStep x)
def crcByte (c b : Nat) : Nat := crcSteps 8 (c ^^^ b)
def crcAll (c : Nat) : List Int → Nat
  | [] => c
  | b :: r => crcAll (crcByte c b.toNat) r
def crcOf (xs : List Int) : Nat := crcAll 4294967295 xs ^^^ 4294967295

theorem xor_half (x y : Nat) : (x ^^^ y) / 2 = x / 2 ^^^ y / 2 := by
  apply Nat.eq_of_testBit_eq
  intro i
  simp only [Nat.testBit_xor, Nat.testBit_div_two]
theorem xor_odd (x y : Nat) : (x ^^^ y) % 2 = (x % 2 + y % 2) % 2 := by
  have hx : x % 2 = 0 ∨ x % 2 = 1 := by omega
  have hy : y % 2 = 0 ∨ y % 2 = 1 := by omega
  have e : (x ^^^ y) % 2 = x % 2 ^^^ y % 2 := Nat.xor_mod_two_pow (n := 1)
  rw [e]
  rcases hx with h | h <;> rcases hy with h' | h' <;> simp [h, h']
theorem crcStep_xor (x y : Nat) : crcStep (x ^^^ y) = crcStep x ^^^ crcStep y := by
  unfold crcStep
  rw [xor_odd, xor_half]
  have hx : x % 2 = 0 ∨ x % 2 = 1 := by omega
  have hy : y % 2 = 0 ∨ y % 2 = 1 := by omega
  rcases hx with h | h <;> rcases hy with h' | h' <;> simp [h, h']
  · rw [Nat.xor_assoc]
  · rw [Nat.xor_assoc, Nat.xor_assoc, Nat.xor_comm (y / 2)]
  · rw [Nat.xor_assoc, Nat.xor_comm 3988292384, Nat.xor_assoc, Nat.xor_self, Nat.xor_zero]
theorem crcSteps_xor : ∀ (k x y : Nat), crcSteps k (x ^^^ y) = crcSteps k x ^^^ crcSteps k y
  | 0, _, _ => rfl
  | k + 1, x, y => by simp only [crcSteps]; rw [crcStep_xor, crcSteps_xor]
theorem crcSteps_add : ∀ (j k x : Nat), crcSteps (j + k) x = crcSteps k (crcSteps j x)
  | 0, k, x => by simp [crcSteps]
  | j + 1, k, x => by rw [show j + 1 + k = (j + k) + 1 by omega]; simp only [crcSteps]; exact crcSteps_add j k _
theorem crcStep_even {x : Nat} (h : x % 2 = 0) : crcStep x = x / 2 := by unfold crcStep; rw [if_neg (by omega)]
theorem crcSteps_16 (a : Nat) : crcSteps 4 (16 * a) = a := by
  simp only [crcSteps]
  rw [crcStep_even (x := 16 * a) (by omega), crcStep_even (x := 16 * a / 2) (by omega), crcStep_even (x := 16 * a / 2 / 2) (by omega), crcStep_even (x := 16 * a / 2 / 2 / 2) (by omega)]
  omega
def crcTable (r : Nat) : Nat := [0, 498536548, 997073096, 651767980, 1994146192, 1802195444, 1303535960, 1342533948, 3988292384, 4027552580, 3604390888, 3412177804, 2607071920, 2262029012, 2685067896, 3183342108].getD r 0
theorem crcTable_eq : ∀ r : Fin 16, crcSteps 4 r.val = crcTable r.val := by decide +kernel
theorem crcFour (x : Nat) : crcSteps 4 x = x / 16 ^^^ crcTable (x % 16) := by
  have e : x = (16 * (x / 16)) ^^^ (x % 16) := by
    apply Nat.eq_of_testBit_eq
    intro i
    rw [Nat.testBit_xor]
    have h16 : 16 * (x / 16) = 2 ^ 4 * (x / 2 ^ 4) := rfl
    have hm : x % 16 = x % 2 ^ 4 := rfl
    rw [h16, hm, Nat.testBit_two_pow_mul, Nat.testBit_mod_two_pow, Nat.testBit_div_two_pow]
    by_cases hi : i < 4
    · have : ¬ 4 ≤ i := by omega
      simp [hi, this]
    · have : 4 ≤ i := by omega
      simp [hi, this]
  have ht := crcTable_eq ⟨x % 16, Nat.mod_lt _ (by omega)⟩
  simp only at ht
  have h := crcSteps_xor 4 (16 * (x / 16)) (x % 16)
  rw [← e, crcSteps_16, ht] at h
  exact h
theorem crcEight (x : Nat) : crcSteps 8 x = crcSteps 4 x / 16 ^^^ crcTable (crcSteps 4 x % 16) := by
  rw [show 8 = 4 + 4 from rfl, crcSteps_add, crcFour]
theorem crcStep_lt {x : Nat} (h : x < 4294967296) : crcStep x < 4294967296 := by
  unfold crcStep
  split
  · exact Nat.xor_lt_two_pow (n := 32) (by omega) (by omega)
  · omega
theorem crcSteps_lt : ∀ (k x : Nat), x < 4294967296 → crcSteps k x < 4294967296
  | 0, _, h => h
  | k + 1, x, h => crcSteps_lt k _ (crcStep_lt h)
theorem crcByte_lt {c b : Nat} (h : c < 4294967296) (hb : b < 256) : crcByte c b < 4294967296 := crcSteps_lt 8 _ (Nat.xor_lt_two_pow (n := 32) (by omega) (by omega))
theorem crcAll_lt : ∀ (xs : List Int) (c : Nat), c < 4294967296 → (∀ x ∈ xs, 0 ≤ x ∧ x < 256) → crcAll c xs < 4294967296
  | [], _, h, _ => h
  | b :: r, c, h, hx => crcAll_lt r _ (crcByte_lt h (by have := hx b (by simp); omega)) (fun x hm => hx x (by simp [hm]))
theorem crcAll_app : ∀ (xs ys : List Int) (c : Nat), crcAll c (xs ++ ys) = crcAll (crcAll c xs) ys
  | [], _, _ => rfl
  | b :: r, ys, c => crcAll_app r ys _
theorem crcAll_take {xs : List Int} {k c : Nat} (h : k < xs.length) : crcAll c (xs.take (k + 1)) = crcByte (crcAll c (xs.take k)) (xs.getD k 0).toNat := by
  rw [List.take_succ_eq_append_getElem h, crcAll_app]
  rw [List.getD_eq_getElem?_getD, List.getElem?_eq_getElem h]
  rfl
theorem getD_byte {xs : List Int} (h : ∀ x ∈ xs, 0 ≤ x ∧ x < 256) (k : Nat) : 0 ≤ xs.getD k 0 ∧ xs.getD k 0 < 256 := by
  rw [List.getD_eq_getElem?_getD]
  by_cases hk : k < xs.length
  · rw [List.getElem?_eq_getElem hk]; exact h _ (List.getElem_mem hk)
  · rw [List.getElem?_eq_none (by omega)]; simp

/-! ### the walks -/

theorem xor_nat {a b : Nat} (ha : a < 4294967296) (hb : b < 4294967296) : bitsOp .xor .u32 (a : Int) (b : Int) = ((a ^^^ b : Nat) : Int) := by
  rw [bitsOp_eq _ _ _ _ (by simp)]; exact u32_xor_nat a b ha hb
theorem xor_not {a : Nat} (ha : a < 4294967296) : bitsOp .xor .u32 4294967295 (a : Int) = ((a ^^^ 4294967295 : Nat) : Int) := by
  rw [Nat.xor_comm]
  exact xor_nat (a := 4294967295) (by omega) ha
theorem nib_and {a : Nat} (ha : a < 4294967296) : bitsOp .and .u32 (a : Int) 15 = ((a % 16 : Nat) : Int) := by
  rw [and_u32_15 (by omega) (by omega)]; rfl

theorem nib_xor {x t : Nat} (hx : x < 4294967296) (ht : t < 4294967296) : bitsOp .xor .u32 ((x : Int) / 16) (t : Int) = ((x / 16 ^^^ t : Nat) : Int) := by
  rw [show ((x : Int) / 16) = ((x / 16 : Nat) : Int) by omega]
  exact xor_nat (by omega) ht
def tableCells : List Value := [.int .u32 0, .int .u32 498536548, .int .u32 997073096, .int .u32 651767980, .int .u32 1994146192, .int .u32 1802195444, .int .u32 1303535960, .int .u32 1342533948, .int .u32 3988292384, .int .u32 4027552580, .int .u32 3604390888, .int .u32 3412177804, .int .u32 2607071920, .int .u32 2262029012, .int .u32 2685067896, .int .u32 3183342108]
theorem tableCells_at : ∀ r : Fin 16, tableCells[r.val]? = some (.int .u32 (crcTable r.val : Nat)) := by
  intro ⟨r, h⟩
  have : r = 0 ∨ r = 1 ∨ r = 2 ∨ r = 3 ∨ r = 4 ∨ r = 5 ∨ r = 6 ∨ r = 7 ∨ r = 8 ∨ r = 9 ∨ r = 10 ∨ r = 11 ∨ r = 12 ∨ r = 13 ∨ r = 14 ∨ r = 15 := by omega
  rcases this with rfl | rfl | rfl | rfl | rfl | rfl | rfl | rfl | rfl | rfl | rfl | rfl | rfl | rfl | rfl | rfl <;> rfl
theorem crcTable_lt : ∀ r : Fin 16, crcTable r.val < 4294967296 := by decide +kernel

theorem crc_ok {w : World} {A : Option Addr} {n c : Nat} {xs : List Int} (hA : Rd w A n 1 (xs.map (Value.int .u8))) (hx : ∀ x ∈ xs, 0 ≤ x ∧ x < 256) (hn : n ≤ 140737488355328) {R : VWK}
    (h : ∀ w', Grow w w' → R (.int .u32 (crcOf xs : Nat)) w') : CallsV Try.prog 10 [.slice A n c] w R := by
  have hl := hA.len1
  refine calls_of_wpC mixed Try.func10 rfl (by kernel_rfl) ?_
  intro e he
  have he0 := he 0
  simp only [List.getD_cons_zero, List.getD_cons_succ] at he0
  clear he
  rw [c_seq]
  simp only [↓RD,RU,RL,if_true,if_false,forall_const,implies_true,Nat.reduceLeDiff,Nat.reduceLT,pureOp,binPure,intBin,strBin,eqPure,isConstO,unPure,sliceLo,sliceHi,slicePure,lenPure,minPure,maxPure,buildP,resK,endV,yieldE,↓reduceIte,Nat.reduceEqDiff,reduceCtorEq,Nat.reduceAdd,Nat.reduceMul,Nat.reduceSub,Int.reduceLT,Int.reduceLE,Int.reduceToNat,Int.reduceAdd,Int.reduceSub,Int.reduceMul,ne_eq,decide_true,decide_false,tf10, he0]
  rw [c_seq]
  simp only [↓c_region, ↓s_build]
  refine pureK_intro (v := .agg tableCells.toArray) (by kernel_rfl) ?_
  simp only [↓RD,↓c_seq,RU,RL,if_true,if_false,forall_const,implies_true,Nat.reduceLeDiff,Nat.reduceLT,pureOp,binPure,intBin,strBin,eqPure,isConstO,unPure,sliceLo,sliceHi,slicePure,lenPure,minPure,maxPure,buildP,resK,endV,yieldE,↓reduceIte,Nat.reduceEqDiff,reduceCtorEq,Nat.reduceAdd,Nat.reduceMul,Nat.reduceSub,Int.reduceLT,Int.reduceLE,Int.reduceToNat,Int.reduceAdd,Int.reduceSub,Int.reduceMul,ne_eq,decide_true,decide_false,tf10, he0]
  have hB0 := Blk.new' w 101 #[.int .u32 0, .int .u32 0, .int .u32 0, .int .u32 0, .int .u32 0, .int .u32 0, .int .u32 0, .int .u32 0, .int .u32 0, .int .u32 0, .int .u32 0, .int .u32 0, .int .u32 0, .int .u32 0, .int .u32 0, .int .u32 0]
  refine ⟨rfl, ?_⟩
  refine hB0.stAgg (o := 0) (by decide) (by decide) (fun w1 hB1 hK1 => ?_)
  have hg1 : Grow w w1 := (Grow.alloc w _).above hK1 (fun i hi e => by omega)
  have hT : Blk w1 w.heap.size 101 tableCells := hB1
  clear hB0 hB1 hK1
  simp only [↓RD,↓c_seq,RU,RL,if_true,if_false,forall_const,implies_true,Nat.reduceLeDiff,Nat.reduceLT,pureOp,binPure,intBin,strBin,eqPure,isConstO,unPure,sliceLo,sliceHi,slicePure,lenPure,minPure,maxPure,buildP,resK,endV,yieldE,↓reduceIte,Nat.reduceEqDiff,reduceCtorEq,Nat.reduceAdd,Nat.reduceMul,Nat.reduceSub,Int.reduceLT,Int.reduceLE,Int.reduceToNat,Int.reduceAdd,Int.reduceSub,Int.reduceMul,ne_eq,decide_true,decide_false,tf10, he0]
  refine wpLoop_intro (fun e' w' => e' 0 = .slice A n c ∧ e' 3 = .pointer (some ⟨w.heap.size, 0, none⟩) ∧ e' 8 = .slice A n c ∧ e' 9 = .int .i64 n ∧
      ∃ k : Nat, k ≤ n ∧ e' 10 = .int .i64 k ∧ e' 4 = .int .u32 (crcAll 4294967295 (xs.take k) : Nat) ∧ w' = w1) (fun e' _ => n - (envInt (e' 10)).toNat) ?_ ?_
  · refine ⟨?_, ?_, ?_, ?_, 0, Nat.zero_le _, ?_, ?_, rfl⟩
    all_goals simp only [↓RD,↓c_seq,RU,RL,if_true,if_false,forall_const,implies_true,Nat.reduceLeDiff,Nat.reduceLT,pureOp,binPure,intBin,strBin,eqPure,isConstO,unPure,sliceLo,sliceHi,slicePure,lenPure,minPure,maxPure,buildP,resK,endV,yieldE,↓reduceIte,Nat.reduceEqDiff,reduceCtorEq,Nat.reduceAdd,Nat.reduceMul,Nat.reduceSub,Int.reduceLT,Int.reduceLE,Int.reduceToNat,Int.reduceAdd,Int.reduceSub,Int.reduceMul,ne_eq,decide_true,decide_false,tf10, he0]
    all_goals rfl
  · rintro e' w' ⟨h0, h3, h8, h9, k, hk, h10, h4, rfl⟩
    have hlt4 := crcAll_lt (xs.take k) 4294967295 (by omega) (fun x hm => hx x (List.mem_of_mem_take hm))
    simp only [↓RD,↓c_seq,RU,RL,if_true,if_false,forall_const,implies_true,Nat.reduceLeDiff,Nat.reduceLT,pureOp,binPure,intBin,strBin,eqPure,isConstO,unPure,sliceLo,sliceHi,slicePure,lenPure,minPure,maxPure,buildP,resK,endV,yieldE,↓reduceIte,Nat.reduceEqDiff,reduceCtorEq,Nat.reduceAdd,Nat.reduceMul,Nat.reduceSub,Int.reduceLT,Int.reduceLE,Int.reduceToNat,Int.reduceAdd,Int.reduceSub,Int.reduceMul,ne_eq,decide_true,decide_false,tf10, h0, h3, h8, h9, h10, h4]
    refine ⟨fun hlt => ?_, fun hge => ?_⟩
    · obtain ⟨ad, rfl, hca⟩ := (hA.grow hg1).int (k := k) (by omega)
      have hb := getD_byte hx k
      have hx1 : (crcAll 4294967295 (xs.take k) ^^^ (xs.getD k 0).toNat) < 4294967296 := Nat.xor_lt_two_pow (n := 32) (by omega) (by omega)
      have h4a := crcSteps_lt 4 _ hx1
      have t1 := tableCells_at ⟨_, Nat.mod_lt (crcAll 4294967295 (xs.take k) ^^^ (xs.getD k 0).toNat) (show 0 < 16 by omega)⟩
      have t2 := tableCells_at ⟨_, Nat.mod_lt (crcSteps 4 (crcAll 4294967295 (xs.take k) ^^^ (xs.getD k 0).toNat)) (show 0 < 16 by omega)⟩
      have l1 := crcTable_lt ⟨_, Nat.mod_lt (crcAll 4294967295 (xs.take k) ^^^ (xs.getD k 0).toNat) (show 0 < 16 by omega)⟩
      have l2 := crcTable_lt ⟨_, Nat.mod_lt (crcSteps 4 (crcAll 4294967295 (xs.take k) ^^^ (xs.getD k 0).toNat)) (show 0 < 16 by omega)⟩
      simp only at t1 t2 l1 l2
      have ew : IntKind.u32.wrap (xs.getD k 0) = (((xs.getD k 0).toNat : Nat) : Int) := by rw [wrap_u32]; omega
      have e1 : bitsOp .xor .u32 ((crcAll 4294967295 (xs.take k) : Nat) : Int) (((xs.getD k 0).toNat : Nat) : Int) = ((crcAll 4294967295 (xs.take k) ^^^ (xs.getD k 0).toNat : Nat) : Int) := xor_nat hlt4 (by omega)
      have e2 := nib_and hx1
      have e3 : bitsOp .xor .u32 (((crcAll 4294967295 (xs.take k) ^^^ (xs.getD k 0).toNat : Nat) : Int) / 16) ((crcTable ((crcAll 4294967295 (xs.take k) ^^^ (xs.getD k 0).toNat) % 16) : Nat) : Int) = ((crcSteps 4 (crcAll 4294967295 (xs.take k) ^^^ (xs.getD k 0).toNat) : Nat) : Int) := by
        rw [crcFour]; exact nib_xor hx1 l1
      have e4 := nib_and h4a
      have e5 : bitsOp .xor .u32 (((crcSteps 4 (crcAll 4294967295 (xs.take k) ^^^ (xs.getD k 0).toNat) : Nat) : Int) / 16) ((crcTable (crcSteps 4 (crcAll 4294967295 (xs.take k) ^^^ (xs.getD k 0).toNat) % 16) : Nat) : Int) = ((crcAll 4294967295 (xs.take (k + 1)) : Nat) : Int) := by
        rw [crcAll_take (by omega)]
        unfold crcByte
        rw [crcEight]; exact nib_xor h4a l2
      simp only [↓RD,↓c_seq,RU,RL,if_true,if_false,forall_const,implies_true,Nat.reduceLeDiff,Nat.reduceLT,pureOp,binPure,intBin,strBin,eqPure,isConstO,unPure,sliceLo,sliceHi,slicePure,lenPure,minPure,maxPure,buildP,resK,endV,yieldE,↓reduceIte,Nat.reduceEqDiff,reduceCtorEq,Nat.reduceAdd,Nat.reduceMul,Nat.reduceSub,Int.reduceLT,Int.reduceLE,Int.reduceToNat,Int.reduceAdd,Int.reduceSub,Int.reduceMul,ne_eq,decide_true,decide_false,tf10, h0, h3, h8, h9, h10, h4, hca, ew, e1, e2, shr_u32_4, hT.cell, t1]
      refine ⟨⟨by omega, by omega⟩, ⟨by omega, by omega⟩, ?_⟩
      simp only [↓RD,↓c_seq,RU,RL,if_true,if_false,forall_const,implies_true,Nat.reduceLeDiff,Nat.reduceLT,pureOp,binPure,intBin,strBin,eqPure,isConstO,unPure,sliceLo,sliceHi,slicePure,lenPure,minPure,maxPure,buildP,resK,endV,yieldE,↓reduceIte,Nat.reduceEqDiff,reduceCtorEq,Nat.reduceAdd,Nat.reduceMul,Nat.reduceSub,Int.reduceLT,Int.reduceLE,Int.reduceToNat,Int.reduceAdd,Int.reduceSub,Int.reduceMul,ne_eq,decide_true,decide_false,tf10, h0, h3, h8, h9, h10, h4, hca, ew, e1, e2, shr_u32_4, hT.cell, t1, e3, e4, t2, e5]
      refine ⟨⟨by omega, by omega⟩, ?_⟩
      refine hold_intro ⟨⟨?_, ?_, ?_, ?_, k + 1, by omega, ?_, ?_, rfl⟩, ?_⟩
      all_goals simp only [↓RD,↓c_seq,RU,RL,if_true,if_false,forall_const,implies_true,Nat.reduceLeDiff,Nat.reduceLT,pureOp,binPure,intBin,strBin,eqPure,isConstO,unPure,sliceLo,sliceHi,slicePure,lenPure,minPure,maxPure,buildP,resK,endV,yieldE,↓reduceIte,Nat.reduceEqDiff,reduceCtorEq,Nat.reduceAdd,Nat.reduceMul,Nat.reduceSub,Int.reduceLT,Int.reduceLE,Int.reduceToNat,Int.reduceAdd,Int.reduceSub,Int.reduceMul,ne_eq,decide_true,decide_false,tf10, h0, h3, h8, h9, h10, h4]
      · rw [wrap_i64_in (by omega) (by omega)]; rfl
      · rw [wrap_i64_in (by omega) (by omega), envInt_int, envInt_int]; omega
    · obtain rfl : k = n := by omega
      rw [List.take_of_length_le (by omega)] at hlt4 h4
      have : bitsOp .xor .u32 4294967295 ((crcAll 4294967295 xs : Nat) : Int) = ((crcOf xs : Nat) : Int) := xor_not hlt4
      rw [List.take_of_length_le (by omega), show (if IntKind.u32.signed = true then (-1 : Int) else IntKind.u32.max) = 4294967295 from by decide, this]
      exact h _ hg1

theorem tmod_nat (x m : Nat) : ((x : Int)).tmod (m : Int) = ((x % m : Nat) : Int) := rfl
theorem tdiv_nat (x m : Nat) : ((x : Int)).tdiv (m : Int) = ((x / m : Nat) : Int) := rfl
theorem tmod_2 (x : Nat) : ((x : Int)).tmod 2 = ((x % 2 : Nat) : Int) := rfl
theorem tdiv_2 (x : Nat) : ((x : Int)).tdiv 2 = ((x / 2 : Nat) : Int) := rfl

theorem refcrc_ok {w : World} {A : Option Addr} {n c : Nat} {xs : List Int} (hA : Rd w A n 1 (xs.map (Value.int .u8))) (hx : ∀ x ∈ xs, 0 ≤ x ∧ x < 256) (hn : n ≤ 140737488355328) {R : VWK}
    (h : R (.int .u32 (crcOf xs : Nat)) w) : CallsV Try.prog 11 [.slice A n c] w R := by
  have hl := hA.len1
  refine calls_of_wpC mixed Try.func11 rfl (by kernel_rfl) ?_
  intro e he
  have he0 := he 0
  simp only [List.getD_cons_zero, List.getD_cons_succ] at he0
  clear he
  simp only [↓RD,↓c_seq,RU,RL,if_true,if_false,forall_const,implies_true,Nat.reduceLeDiff,Nat.reduceLT,pureOp,binPure,intBin,strBin,eqPure,isConstO,unPure,sliceLo,sliceHi,slicePure,lenPure,minPure,maxPure,buildP,resK,endV,yieldE,↓reduceIte,Nat.reduceEqDiff,reduceCtorEq,Nat.reduceAdd,Nat.reduceMul,Nat.reduceSub,Int.reduceLT,Int.reduceLE,Int.reduceToNat,Int.reduceAdd,Int.reduceSub,Int.reduceMul,ne_eq,decide_true,decide_false,tf11, he0]
  refine wpLoop_intro (fun e' w' => e' 0 = .slice A n c ∧ ∃ k : Nat, k ≤ n ∧ e' 4 = .int .i64 k ∧ e' 3 = .int .u32 (crcAll 4294967295 (xs.take k) : Nat) ∧ w' = w) (fun e' _ => n - (envInt (e' 4)).toNat) ?_ ?_
  · refine ⟨?_, 0, Nat.zero_le _, ?_, ?_, rfl⟩
    all_goals simp only [↓RD,↓c_seq,RU,RL,if_true,if_false,forall_const,implies_true,Nat.reduceLeDiff,Nat.reduceLT,pureOp,binPure,intBin,strBin,eqPure,isConstO,unPure,sliceLo,sliceHi,slicePure,lenPure,minPure,maxPure,buildP,resK,endV,yieldE,↓reduceIte,Nat.reduceEqDiff,reduceCtorEq,Nat.reduceAdd,Nat.reduceMul,Nat.reduceSub,Int.reduceLT,Int.reduceLE,Int.reduceToNat,Int.reduceAdd,Int.reduceSub,Int.reduceMul,ne_eq,decide_true,decide_false,tf11, he0]
    all_goals rfl
  · rintro e' w' ⟨h0, k, hk, h4, h3, rfl⟩
    have hlt4 := crcAll_lt (xs.take k) 4294967295 (by omega) (fun x hm => hx x (List.mem_of_mem_take hm))
    simp only [↓RD,↓c_seq,RU,RL,if_true,if_false,forall_const,implies_true,Nat.reduceLeDiff,Nat.reduceLT,pureOp,binPure,intBin,strBin,eqPure,isConstO,unPure,sliceLo,sliceHi,slicePure,lenPure,minPure,maxPure,buildP,resK,endV,yieldE,↓reduceIte,Nat.reduceEqDiff,reduceCtorEq,Nat.reduceAdd,Nat.reduceMul,Nat.reduceSub,Int.reduceLT,Int.reduceLE,Int.reduceToNat,Int.reduceAdd,Int.reduceSub,Int.reduceMul,ne_eq,decide_true,decide_false,tf11, h0, h4, h3]
    refine ⟨fun hlt => ?_, fun hge => ?_⟩
    · obtain ⟨ad, rfl, hca⟩ := hA.int (k := k) (by omega)
      have hb := getD_byte hx k
      have hx1 : (crcAll 4294967295 (xs.take k) ^^^ (xs.getD k 0).toNat) < 4294967296 := Nat.xor_lt_two_pow (n := 32) (by omega) (by omega)
      have ew : IntKind.u32.wrap (xs.getD k 0) = (((xs.getD k 0).toNat : Nat) : Int) := by rw [wrap_u32]; omega
      have e1 : bitsOp .xor .u32 ((crcAll 4294967295 (xs.take k) : Nat) : Int) (((xs.getD k 0).toNat : Nat) : Int) = ((crcAll 4294967295 (xs.take k) ^^^ (xs.getD k 0).toNat : Nat) : Int) := xor_nat hlt4 (by omega)
      simp only [↓RD,↓c_seq,RU,RL,if_true,if_false,forall_const,implies_true,Nat.reduceLeDiff,Nat.reduceLT,pureOp,binPure,intBin,strBin,eqPure,isConstO,unPure,sliceLo,sliceHi,slicePure,lenPure,minPure,maxPure,buildP,resK,endV,yieldE,↓reduceIte,Nat.reduceEqDiff,reduceCtorEq,Nat.reduceAdd,Nat.reduceMul,Nat.reduceSub,Int.reduceLT,Int.reduceLE,Int.reduceToNat,Int.reduceAdd,Int.reduceSub,Int.reduceMul,ne_eq,decide_true,decide_false,tf11, h0, h4, h3, hca, ew, e1]
      refine ⟨⟨by omega, by omega⟩, ?_⟩
      refine wpLoop_intro (fun e2 w2 => e2 0 = .slice (some ad) n c ∧ e2 4 = .int .i64 k ∧ ∃ (j y : Nat), j ≤ 8 ∧ y < 4294967296 ∧ e2 5 = .int .i64 j ∧ e2 3 = .int .u32 y ∧ crcSteps (8 - j) y = crcAll 4294967295 (xs.take (k + 1)) ∧ w2 = w') (fun e2 _ => 8 - (envInt (e2 5)).toNat) ?_ ?_
      · refine ⟨?_, ?_, 0, _, by omega, hx1, ?_, ?_, ?_, rfl⟩
        · simp only [↓RD,↓c_seq,RU,RL,if_true,if_false,forall_const,implies_true,Nat.reduceLeDiff,Nat.reduceLT,pureOp,binPure,intBin,strBin,eqPure,isConstO,unPure,sliceLo,sliceHi,slicePure,lenPure,minPure,maxPure,buildP,resK,endV,yieldE,↓reduceIte,Nat.reduceEqDiff,reduceCtorEq,Nat.reduceAdd,Nat.reduceMul,Nat.reduceSub,Int.reduceLT,Int.reduceLE,Int.reduceToNat,Int.reduceAdd,Int.reduceSub,Int.reduceMul,ne_eq,decide_true,decide_false,tf11, h0, h4, h3]
        · simp only [↓RD,↓c_seq,RU,RL,if_true,if_false,forall_const,implies_true,Nat.reduceLeDiff,Nat.reduceLT,pureOp,binPure,intBin,strBin,eqPure,isConstO,unPure,sliceLo,sliceHi,slicePure,lenPure,minPure,maxPure,buildP,resK,endV,yieldE,↓reduceIte,Nat.reduceEqDiff,reduceCtorEq,Nat.reduceAdd,Nat.reduceMul,Nat.reduceSub,Int.reduceLT,Int.reduceLE,Int.reduceToNat,Int.reduceAdd,Int.reduceSub,Int.reduceMul,ne_eq,decide_true,decide_false,tf11, h0, h4, h3]
        · simp only [↓RD,↓c_seq,RU,RL,if_true,if_false,forall_const,implies_true,Nat.reduceLeDiff,Nat.reduceLT,pureOp,binPure,intBin,strBin,eqPure,isConstO,unPure,sliceLo,sliceHi,slicePure,lenPure,minPure,maxPure,buildP,resK,endV,yieldE,↓reduceIte,Nat.reduceEqDiff,reduceCtorEq,Nat.reduceAdd,Nat.reduceMul,Nat.reduceSub,Int.reduceLT,Int.reduceLE,Int.reduceToNat,Int.reduceAdd,Int.reduceSub,Int.reduceMul,ne_eq,decide_true,decide_false,tf11, h0, h4, h3]
          rfl
        · simp only [↓RD,↓c_seq,RU,RL,if_true,if_false,forall_const,implies_true,Nat.reduceLeDiff,Nat.reduceLT,pureOp,binPure,intBin,strBin,eqPure,isConstO,unPure,sliceLo,sliceHi,slicePure,lenPure,minPure,maxPure,buildP,resK,endV,yieldE,↓reduceIte,Nat.reduceEqDiff,reduceCtorEq,Nat.reduceAdd,Nat.reduceMul,Nat.reduceSub,Int.reduceLT,Int.reduceLE,Int.reduceToNat,Int.reduceAdd,Int.reduceSub,Int.reduceMul,ne_eq,decide_true,decide_false,tf11, h0, h4, h3]
        · rw [crcAll_take (by omega)]; rfl
      · rintro e2 w2 ⟨g0, g4, j, y, hj, hy, g5, g3, hst, rfl⟩
        simp only [↓RD,↓c_seq,RU,RL,if_true,if_false,forall_const,implies_true,Nat.reduceLeDiff,Nat.reduceLT,pureOp,binPure,intBin,strBin,eqPure,isConstO,unPure,sliceLo,sliceHi,slicePure,lenPure,minPure,maxPure,buildP,resK,endV,yieldE,↓reduceIte,Nat.reduceEqDiff,reduceCtorEq,Nat.reduceAdd,Nat.reduceMul,Nat.reduceSub,Int.reduceLT,Int.reduceLE,Int.reduceToNat,Int.reduceAdd,Int.reduceSub,Int.reduceMul,ne_eq,decide_true,decide_false,tf11, g0, g4, g5, g3]
        refine ⟨fun hlt8 => ?_, fun hge8 => ?_⟩
        · have hs : crcSteps (8 - j) y = crcSteps (8 - (j + 1)) (crcStep y) := by
            rw [show 8 - j = (8 - (j + 1)) + 1 by omega]; rfl
          rw [hs] at hst
          have hstep := crcStep_lt hy
          refine ⟨by omega, ?_⟩
          simp only [↓RD,↓c_seq,RU,RL,if_true,if_false,forall_const,implies_true,Nat.reduceLeDiff,Nat.reduceLT,pureOp,binPure,intBin,strBin,eqPure,isConstO,unPure,sliceLo,sliceHi,slicePure,lenPure,minPure,maxPure,buildP,resK,endV,yieldE,↓reduceIte,Nat.reduceEqDiff,reduceCtorEq,Nat.reduceAdd,Nat.reduceMul,Nat.reduceSub,Int.reduceLT,Int.reduceLE,Int.reduceToNat,Int.reduceAdd,Int.reduceSub,Int.reduceMul,ne_eq,decide_true,decide_false,tf11, g0, g4, g5, g3, tmod_2]
          refine ⟨fun hodd => ⟨by omega, ?_⟩, fun heven => ⟨by omega, ?_⟩⟩
          · have ho : y % 2 = 1 := by omega
            have e6 : bitsOp .xor .u32 (IntKind.u32.wrap ((y : Int).tdiv 2)) 3988292384 = ((crcStep y : Nat) : Int) := by
              rw [tdiv_2, wrap_u32, show ((y / 2 : Nat) : Int) % 4294967296 = ((y / 2 : Nat) : Int) by omega]
              unfold crcStep
              rw [if_pos ho]
              exact xor_nat (a := y / 2) (b := 3988292384) (by omega) (by omega)
            try simp only [↓RD,↓c_seq,RU,RL,if_true,if_false,forall_const,implies_true,Nat.reduceLeDiff,Nat.reduceLT,pureOp,binPure,intBin,strBin,eqPure,isConstO,unPure,sliceLo,sliceHi,slicePure,lenPure,minPure,maxPure,buildP,resK,endV,yieldE,↓reduceIte,Nat.reduceEqDiff,reduceCtorEq,Nat.reduceAdd,Nat.reduceMul,Nat.reduceSub,Int.reduceLT,Int.reduceLE,Int.reduceToNat,Int.reduceAdd,Int.reduceSub,Int.reduceMul,ne_eq,decide_true,decide_false,tf11, g0, g4, g5, g3, e6]
            refine hold_intro ⟨⟨?_, ?_, j + 1, _, by omega, hstep, ?_, ?_, hst, rfl⟩, ?_⟩
            all_goals simp only [↓RD,↓c_seq,RU,RL,if_true,if_false,forall_const,implies_true,Nat.reduceLeDiff,Nat.reduceLT,pureOp,binPure,intBin,strBin,eqPure,isConstO,unPure,sliceLo,sliceHi,slicePure,lenPure,minPure,maxPure,buildP,resK,endV,yieldE,↓reduceIte,Nat.reduceEqDiff,reduceCtorEq,Nat.reduceAdd,Nat.reduceMul,Nat.reduceSub,Int.reduceLT,Int.reduceLE,Int.reduceToNat,Int.reduceAdd,Int.reduceSub,Int.reduceMul,ne_eq,decide_true,decide_false,tf11, g0, g4, g5, g3]
            · rw [wrap_i64_in (by omega) (by omega)]; rfl
            · rw [e6]
            · rw [wrap_i64_in (by omega) (by omega), envInt_int, envInt_int]; omega
          · have ho : ¬ y % 2 = 1 := by omega
            have e6 : IntKind.u32.wrap ((y : Int).tdiv 2) = ((crcStep y : Nat) : Int) := by
              rw [tdiv_2, wrap_u32]
              unfold crcStep
              rw [if_neg ho]
              omega
            try simp only [↓RD,↓c_seq,RU,RL,if_true,if_false,forall_const,implies_true,Nat.reduceLeDiff,Nat.reduceLT,pureOp,binPure,intBin,strBin,eqPure,isConstO,unPure,sliceLo,sliceHi,slicePure,lenPure,minPure,maxPure,buildP,resK,endV,yieldE,↓reduceIte,Nat.reduceEqDiff,reduceCtorEq,Nat.reduceAdd,Nat.reduceMul,Nat.reduceSub,Int.reduceLT,Int.reduceLE,Int.reduceToNat,Int.reduceAdd,Int.reduceSub,Int.reduceMul,ne_eq,decide_true,decide_false,tf11, g0, g4, g5, g3, e6]
            refine hold_intro ⟨⟨?_, ?_, j + 1, _, by omega, hstep, ?_, ?_, hst, rfl⟩, ?_⟩
            all_goals simp only [↓RD,↓c_seq,RU,RL,if_true,if_false,forall_const,implies_true,Nat.reduceLeDiff,Nat.reduceLT,pureOp,binPure,intBin,strBin,eqPure,isConstO,unPure,sliceLo,sliceHi,slicePure,lenPure,minPure,maxPure,buildP,resK,endV,yieldE,↓reduceIte,Nat.reduceEqDiff,reduceCtorEq,Nat.reduceAdd,Nat.reduceMul,Nat.reduceSub,Int.reduceLT,Int.reduceLE,Int.reduceToNat,Int.reduceAdd,Int.reduceSub,Int.reduceMul,ne_eq,decide_true,decide_false,tf11, g0, g4, g5, g3]
            · rw [wrap_i64_in (by omega) (by omega)]; rfl
            · rw [e6]
            · rw [wrap_i64_in (by omega) (by omega), envInt_int, envInt_int]; omega
        · obtain rfl : j = 8 := by omega
          have : y = crcAll 4294967295 (xs.take (k + 1)) := hst
          subst this
          try simp only [↓RD,↓c_seq,RU,RL,if_true,if_false,forall_const,implies_true,Nat.reduceLeDiff,Nat.reduceLT,pureOp,binPure,intBin,strBin,eqPure,isConstO,unPure,sliceLo,sliceHi,slicePure,lenPure,minPure,maxPure,buildP,resK,endV,yieldE,↓reduceIte,Nat.reduceEqDiff,reduceCtorEq,Nat.reduceAdd,Nat.reduceMul,Nat.reduceSub,Int.reduceLT,Int.reduceLE,Int.reduceToNat,Int.reduceAdd,Int.reduceSub,Int.reduceMul,ne_eq,decide_true,decide_false,tf11, g0, g4, g5, g3]
          refine hold_intro ⟨⟨?_, k + 1, by omega, ?_, ?_, rfl⟩, ?_⟩
          all_goals simp only [↓RD,↓c_seq,RU,RL,if_true,if_false,forall_const,implies_true,Nat.reduceLeDiff,Nat.reduceLT,pureOp,binPure,intBin,strBin,eqPure,isConstO,unPure,sliceLo,sliceHi,slicePure,lenPure,minPure,maxPure,buildP,resK,endV,yieldE,↓reduceIte,Nat.reduceEqDiff,reduceCtorEq,Nat.reduceAdd,Nat.reduceMul,Nat.reduceSub,Int.reduceLT,Int.reduceLE,Int.reduceToNat,Int.reduceAdd,Int.reduceSub,Int.reduceMul,ne_eq,decide_true,decide_false,tf11, g0, g4, g5, g3, h4]
          · rw [wrap_i64_in (by omega) (by omega)]; rfl
          · rw [wrap_i64_in (by omega) (by omega), envInt_int, envInt_int]; omega
    · obtain rfl : k = n := by omega
      rw [List.take_of_length_le (by omega)] at hlt4 h3
      have : bitsOp .xor .u32 ((crcAll 4294967295 xs : Nat) : Int) 4294967295 = ((crcOf xs : Nat) : Int) := xor_nat (b := 4294967295) hlt4 (by omega)
      rw [List.take_of_length_le (by omega), this]
      exact h

end Go.Proofs.Ytcjlhfmjcioeeaa
