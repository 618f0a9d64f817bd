/- weirref05.Wide: how many bytes the sequence at the front of a text has. -/
/- weirref05.right: the document's names and texts. -/
import Derived.Test.YtljgnocpijniiaaGreatDoorStrL
import Derived.Test.YtljgnocpijniiaaGreatDoorSame
set_option linter.unusedVariables false
set_option linter.unusedSimpArgs false
set_option maxRecDepth 100000
namespace Go.Proofs.YtljgnocpijniiaaGreatDoor
open Go

/-- a byte of a text. -/
def byt (s : ByteArray) (i : Nat) : Nat := (s.data.toList.getD i 0).toNat
theorem byt_lt (s : ByteArray) (i : Nat) : byt s i < 256 := (s.data.toList.getD i 0).toNat_lt
def contOk (s : ByteArray) (i : Nat) : Prop := i < s.size ∧ 128 ≤ byt s i ∧ byt s i < 192
instance (s : ByteArray) (i : Nat) : Decidable (contOk s i) := by unfold contOk; infer_instance
def wVal (s : ByteArray) (v0 : Nat) : Nat → Nat
  | 0 => v0
  | k + 1 => wVal s v0 k * 64 + (byt s (k + 1) - 128)
def wEnd (s : ByteArray) (n least v0 : Nat) : Nat :=
  if (∀ i, i < n → 1 ≤ i → contOk s i) ∧ least ≤ wVal s v0 (n - 1) ∧ ¬ (55296 ≤ wVal s v0 (n - 1) ∧ wVal s v0 (n - 1) < 57344) ∧ wVal s v0 (n - 1) ≤ 1114111 then n else 0
def wide (s : ByteArray) : Nat :=
  if s.size = 0 then 0
  else if byt s 0 < 128 then 1
  else if 194 ≤ byt s 0 ∧ byt s 0 < 224 then wEnd s 2 128 (byt s 0 - 192)
  else if 224 ≤ byt s 0 ∧ byt s 0 < 240 then wEnd s 3 2048 (byt s 0 - 224)
  else if 240 ≤ byt s 0 ∧ byt s 0 < 245 then wEnd s 4 65536 (byt s 0 - 240)
  else 0
theorem wVal_lt (s : ByteArray) {v0 : Nat} (h0 : v0 < 32) : ∀ k, (∀ i, i < k + 1 → 1 ≤ i → contOk s i) → wVal s v0 k < 32 * 64 ^ k
  | 0, _ => by simpa [wVal] using h0
  | k + 1, h => by
    have ih := wVal_lt s h0 k (fun i hi h1 => h i (by omega) h1)
    have hb := (h (k + 1) (by omega) (by omega)).2
    rw [Nat.pow_succ, wVal]
    omega
theorem size_list (s : ByteArray) : s.size = s.data.toList.length := by rw [Array.length_toList]; rfl
theorem beq_nil (s : ByteArray) : (s.toList == (ByteArray.mk #[]).toList) = decide (s.size = 0) := by
  rw [Lib.toList_data, Lib.toList_data, size_list]
  cases s.data.toList with
  | nil => rfl
  | cons a l => rfl
set_option maxHeartbeats 4000000 in
theorem wide_ok {w : World} {s : ByteArray} (hs : s.size ≤ 4611686018427387904) {R : VWK} (h : R (.int .i64 (wide s : Nat)) w) : CallsV Tryz.prog 134 [.string s] w R := by
  have hb0 := byt_lt s 0
  have hbt : ∀ i, (s.data.toList.getD i 0).toNat = byt s i := fun _ => rfl
  unfold wide at h
  refine calls_of_wpC mixed Tryz.func134 rfl (by kernel_rfl) ?_
  intro e he
  have he0 := he 0
  simp only [List.getD_cons_zero, List.getD_cons_succ] at he0
  clear he
  by_cases c0 : s.size = 0
  · have d0 : decide (s.size = 0) = true := decide_eq_true c0
    rw [if_pos c0] at h
    have hE := (beq_nil s).trans d0
    repeat (first | rw [c_seq] | simp -dsimp only [↓RE,RU,RL,forall_const,implies_true,Nat.reduceLeDiff,Nat.reduceLT,pureOp,binPure,intBin,strBin,eqPure,isConstO,lenPure,resK,endV,yieldE,↓reduceIte,Nat.reduceEqDiff,reduceCtorEq,Nat.reduceAdd,Nat.reduceMul,Int.reduceLT,Int.reduceLE,Int.reduceToNat,Int.reduceAdd,Int.reduceSub,Int.reduceMul,decide_true,decide_false,tf134, he0, hE])
    exact h
  have d0 : decide (s.size = 0) = false := decide_eq_false c0
  rw [if_neg c0] at h
  have p0 : (0 : Int) < (s.size : Int) := by omega
  have hE := (beq_nil s).trans d0
  ((repeat rw [c_seq]); try simp -dsimp only [↓RE,RU,RL,forall_const,implies_true,Nat.reduceLeDiff,Nat.reduceLT,pureOp,binPure,intBin,strBin,eqPure,isConstO,lenPure,resK,endV,yieldE,↓reduceIte,Nat.reduceEqDiff,reduceCtorEq,Nat.reduceAdd,Nat.reduceMul,Int.reduceLT,Int.reduceLE,Int.reduceToNat,Int.reduceAdd,Int.reduceSub,Int.reduceMul,decide_true,decide_false,tf134, he0, hE])
  ((repeat rw [c_seq]); try simp -dsimp only [↓RE,RU,RL,forall_const,implies_true,Nat.reduceLeDiff,Nat.reduceLT,pureOp,binPure,intBin,strBin,eqPure,isConstO,lenPure,resK,endV,yieldE,↓reduceIte,Nat.reduceEqDiff,reduceCtorEq,Nat.reduceAdd,Nat.reduceMul,Int.reduceLT,Int.reduceLE,Int.reduceToNat,Int.reduceAdd,Int.reduceSub,Int.reduceMul,decide_true,decide_false,tf134, he0, hE])
  ((repeat rw [c_seq]); try simp -dsimp only [↓RE,RU,RL,forall_const,implies_true,Nat.reduceLeDiff,Nat.reduceLT,pureOp,binPure,intBin,strBin,eqPure,isConstO,lenPure,resK,endV,yieldE,↓reduceIte,Nat.reduceEqDiff,reduceCtorEq,Nat.reduceAdd,Nat.reduceMul,Int.reduceLT,Int.reduceLE,Int.reduceToNat,Int.reduceAdd,Int.reduceSub,Int.reduceMul,decide_true,decide_false,tf134, he0, hbt, Int.toNat_zero, p0, Int.le_refl, and_self])
  have k1 : IntKind.i64.wrap ((byt s 0 : Nat) : Int) = ((byt s 0 : Nat) : Int) := by rw [wrap_i64_in (by omega) (by omega)]
  ((repeat rw [c_seq]); try simp -dsimp only [↓RE,RU,RL,forall_const,implies_true,Nat.reduceLeDiff,Nat.reduceLT,pureOp,binPure,intBin,strBin,eqPure,isConstO,lenPure,resK,endV,yieldE,↓reduceIte,Nat.reduceEqDiff,reduceCtorEq,Nat.reduceAdd,Nat.reduceMul,Int.reduceLT,Int.reduceLE,Int.reduceToNat,Int.reduceAdd,Int.reduceSub,Int.reduceMul,decide_true,decide_false,tf134, he0, k1])
  refine c_seq_cut (fun e' w' => w' = w ∧ e' 0 = .string s ∧ ∃ n least v0 : Nat, (2 ≤ n ∧ n ≤ 4 ∧ least ≤ 65536 ∧ v0 < 32) ∧ e' 4 = .int .i64 (n : Int) ∧ e' 5 = .int .i64 (least : Int) ∧ e' 6 = .int .i64 (v0 : Int) ∧ R (.int .i64 (wEnd s n least v0 : Nat)) w) ?_ ?_
  · by_cases c1 : byt s 0 < 128
    · have d1 : decide (((byt s 0 : Nat) : Int) < 128) = true := decide_eq_true (by omega)
      rw [if_pos c1] at h
      repeat (first | rw [c_seq] | simp -dsimp only [↓RE,RU,RL,forall_const,implies_true,Nat.reduceLeDiff,Nat.reduceLT,pureOp,binPure,intBin,strBin,eqPure,isConstO,lenPure,resK,endV,yieldE,↓reduceIte,Nat.reduceEqDiff,reduceCtorEq,Nat.reduceAdd,Nat.reduceMul,Int.reduceLT,Int.reduceLE,Int.reduceToNat,Int.reduceAdd,Int.reduceSub,Int.reduceMul,decide_true,decide_false,tf134, he0, d1])
      exact h
    have d1 : decide (((byt s 0 : Nat) : Int) < 128) = false := decide_eq_false (by omega)
    rw [if_neg c1] at h
    by_cases c2 : 194 ≤ byt s 0 ∧ byt s 0 < 224
    · have d2 : decide ((194 : Int) ≤ ((byt s 0 : Nat) : Int)) = true := decide_eq_true (by omega)
      have d3 : decide (((byt s 0 : Nat) : Int) < 224) = true := decide_eq_true (by omega)
      have k2 : IntKind.u8.wrap (((byt s 0 : Nat) : Int) - 192) = ((byt s 0 - 192 : Nat) : Int) := by rw [wrap_u8]; omega
      have k3 : IntKind.i64.wrap ((byt s 0 - 192 : Nat) : Int) = ((byt s 0 - 192 : Nat) : Int) := by rw [wrap_i64_in (by omega) (by omega)]
      rw [if_pos c2] at h
      repeat (first | rw [c_seq] | simp -dsimp only [↓RE,RU,RL,forall_const,implies_true,Nat.reduceLeDiff,Nat.reduceLT,pureOp,binPure,intBin,strBin,eqPure,isConstO,lenPure,resK,endV,yieldE,↓reduceIte,Nat.reduceEqDiff,reduceCtorEq,Nat.reduceAdd,Nat.reduceMul,Int.reduceLT,Int.reduceLE,Int.reduceToNat,Int.reduceAdd,Int.reduceSub,Int.reduceMul,decide_true,decide_false,tf134, he0, d1, d2, d3, k2, k3])
      refine hold_intro ⟨rfl, ?_, 2, 128, byt s 0 - 192, ⟨by omega, by omega, by omega, by omega⟩, ?_, ?_, ?_, h⟩
      · simp -dsimp only [↓RE,RU,RL,↓reduceIte,Nat.reduceEqDiff,reduceCtorEq,decide_true,decide_false, he0]
      · simp -dsimp only [↓RE,RU,RL,↓reduceIte,Nat.reduceEqDiff,reduceCtorEq,decide_true,decide_false, Int.cast_ofNat_Int]
      · simp -dsimp only [↓RE,RU,RL,↓reduceIte,Nat.reduceEqDiff,reduceCtorEq,decide_true,decide_false, Int.cast_ofNat_Int]
      · simp -dsimp only [↓RE,RU,RL,↓reduceIte,Nat.reduceEqDiff,reduceCtorEq,decide_true,decide_false, k2, k3]
    rw [if_neg c2] at h
    have d2 : (decide ((194 : Int) ≤ ((byt s 0 : Nat) : Int)) = false) ∨ (decide ((194 : Int) ≤ ((byt s 0 : Nat) : Int)) = true ∧ decide (((byt s 0 : Nat) : Int) < 224) = false) := by
      by_cases hq : 194 ≤ byt s 0
      · exact .inr ⟨decide_eq_true (by omega), decide_eq_false (by omega)⟩
      · exact .inl (decide_eq_false (by omega))
    by_cases c3 : 224 ≤ byt s 0 ∧ byt s 0 < 240
    · have e2 : decide ((194 : Int) ≤ ((byt s 0 : Nat) : Int)) = true := decide_eq_true (by omega)
      have e3 : decide (((byt s 0 : Nat) : Int) < 224) = false := decide_eq_false (by omega)
      have e4 : decide ((224 : Int) ≤ ((byt s 0 : Nat) : Int)) = true := decide_eq_true (by omega)
      have e5 : decide (((byt s 0 : Nat) : Int) < 240) = true := decide_eq_true (by omega)
      have k2 : IntKind.u8.wrap (((byt s 0 : Nat) : Int) - 224) = ((byt s 0 - 224 : Nat) : Int) := by rw [wrap_u8]; omega
      have k3 : IntKind.i64.wrap ((byt s 0 - 224 : Nat) : Int) = ((byt s 0 - 224 : Nat) : Int) := by rw [wrap_i64_in (by omega) (by omega)]
      rw [if_pos c3] at h
      repeat (first | rw [c_seq] | simp -dsimp only [↓RE,RU,RL,forall_const,implies_true,Nat.reduceLeDiff,Nat.reduceLT,pureOp,binPure,intBin,strBin,eqPure,isConstO,lenPure,resK,endV,yieldE,↓reduceIte,Nat.reduceEqDiff,reduceCtorEq,Nat.reduceAdd,Nat.reduceMul,Int.reduceLT,Int.reduceLE,Int.reduceToNat,Int.reduceAdd,Int.reduceSub,Int.reduceMul,decide_true,decide_false,tf134, he0, d1, e2, e3, e4, e5, k2, k3])
      refine hold_intro ⟨rfl, ?_, 3, 2048, byt s 0 - 224, ⟨by omega, by omega, by omega, by omega⟩, ?_, ?_, ?_, h⟩
      · simp -dsimp only [↓RE,RU,RL,↓reduceIte,Nat.reduceEqDiff,reduceCtorEq,decide_true,decide_false, he0]
      · simp -dsimp only [↓RE,RU,RL,↓reduceIte,Nat.reduceEqDiff,reduceCtorEq,decide_true,decide_false, Int.cast_ofNat_Int]
      · simp -dsimp only [↓RE,RU,RL,↓reduceIte,Nat.reduceEqDiff,reduceCtorEq,decide_true,decide_false, Int.cast_ofNat_Int]
      · simp -dsimp only [↓RE,RU,RL,↓reduceIte,Nat.reduceEqDiff,reduceCtorEq,decide_true,decide_false, k2, k3]
    rw [if_neg c3] at h
    by_cases c4 : 240 ≤ byt s 0 ∧ byt s 0 < 245
    · have e2 : decide ((194 : Int) ≤ ((byt s 0 : Nat) : Int)) = true := decide_eq_true (by omega)
      have e3 : decide (((byt s 0 : Nat) : Int) < 224) = false := decide_eq_false (by omega)
      have e4 : decide ((224 : Int) ≤ ((byt s 0 : Nat) : Int)) = true := decide_eq_true (by omega)
      have e5 : decide (((byt s 0 : Nat) : Int) < 240) = false := decide_eq_false (by omega)
      have e6 : decide ((240 : Int) ≤ ((byt s 0 : Nat) : Int)) = true := decide_eq_true (by omega)
      have e7 : decide (((byt s 0 : Nat) : Int) < 245) = true := decide_eq_true (by omega)
      have k2 : IntKind.u8.wrap (((byt s 0 : Nat) : Int) - 240) = ((byt s 0 - 240 : Nat) : Int) := by rw [wrap_u8]; omega
      have k3 : IntKind.i64.wrap ((byt s 0 - 240 : Nat) : Int) = ((byt s 0 - 240 : Nat) : Int) := by rw [wrap_i64_in (by omega) (by omega)]
      rw [if_pos c4] at h
      repeat (first | rw [c_seq] | simp -dsimp only [↓RE,RU,RL,forall_const,implies_true,Nat.reduceLeDiff,Nat.reduceLT,pureOp,binPure,intBin,strBin,eqPure,isConstO,lenPure,resK,endV,yieldE,↓reduceIte,Nat.reduceEqDiff,reduceCtorEq,Nat.reduceAdd,Nat.reduceMul,Int.reduceLT,Int.reduceLE,Int.reduceToNat,Int.reduceAdd,Int.reduceSub,Int.reduceMul,decide_true,decide_false,tf134, he0, d1, e2, e3, e4, e5, e6, e7, k2, k3])
      refine hold_intro ⟨rfl, ?_, 4, 65536, byt s 0 - 240, ⟨by omega, by omega, by omega, by omega⟩, ?_, ?_, ?_, h⟩
      · simp -dsimp only [↓RE,RU,RL,↓reduceIte,Nat.reduceEqDiff,reduceCtorEq,decide_true,decide_false, he0]
      · simp -dsimp only [↓RE,RU,RL,↓reduceIte,Nat.reduceEqDiff,reduceCtorEq,decide_true,decide_false, Int.cast_ofNat_Int]
      · simp -dsimp only [↓RE,RU,RL,↓reduceIte,Nat.reduceEqDiff,reduceCtorEq,decide_true,decide_false, Int.cast_ofNat_Int]
      · simp -dsimp only [↓RE,RU,RL,↓reduceIte,Nat.reduceEqDiff,reduceCtorEq,decide_true,decide_false, k2, k3]
    rw [if_neg c4] at h
    rcases Nat.lt_or_ge (byt s 0) 194 with q1 | q1
    · have e2 : decide ((194 : Int) ≤ ((byt s 0 : Nat) : Int)) = false := decide_eq_false (by omega)
      have e4 : decide ((224 : Int) ≤ ((byt s 0 : Nat) : Int)) = false := decide_eq_false (by omega)
      have e6 : decide ((240 : Int) ≤ ((byt s 0 : Nat) : Int)) = false := decide_eq_false (by omega)
      repeat (first | rw [c_seq] | simp -dsimp only [↓RE,RU,RL,forall_const,implies_true,Nat.reduceLeDiff,Nat.reduceLT,pureOp,binPure,intBin,strBin,eqPure,isConstO,lenPure,resK,endV,yieldE,↓reduceIte,Nat.reduceEqDiff,reduceCtorEq,Nat.reduceAdd,Nat.reduceMul,Int.reduceLT,Int.reduceLE,Int.reduceToNat,Int.reduceAdd,Int.reduceSub,Int.reduceMul,decide_true,decide_false,tf134, he0, d1, e2, e4, e6, undef])
      exact h
    · have e2 : decide ((194 : Int) ≤ ((byt s 0 : Nat) : Int)) = true := decide_eq_true (by omega)
      have e3 : decide (((byt s 0 : Nat) : Int) < 224) = false := decide_eq_false (by omega)
      have e4 : decide ((224 : Int) ≤ ((byt s 0 : Nat) : Int)) = true := decide_eq_true (by omega)
      have e5 : decide (((byt s 0 : Nat) : Int) < 240) = false := decide_eq_false (by omega)
      have e6 : decide ((240 : Int) ≤ ((byt s 0 : Nat) : Int)) = true := decide_eq_true (by omega)
      have e7 : decide (((byt s 0 : Nat) : Int) < 245) = false := decide_eq_false (by omega)
      repeat (first | rw [c_seq] | simp -dsimp only [↓RE,RU,RL,forall_const,implies_true,Nat.reduceLeDiff,Nat.reduceLT,pureOp,binPure,intBin,strBin,eqPure,isConstO,lenPure,resK,endV,yieldE,↓reduceIte,Nat.reduceEqDiff,reduceCtorEq,Nat.reduceAdd,Nat.reduceMul,Int.reduceLT,Int.reduceLE,Int.reduceToNat,Int.reduceAdd,Int.reduceSub,Int.reduceMul,decide_true,decide_false,tf134, he0, d1, e2, e3, e4, e5, e6, e7])
      exact h
  · clear he0 e
    rintro e w ⟨rfl, he0, n, least, v0, ⟨n2, n4, hle, hv0⟩, he4, he5, he6, h⟩
    clear hb0 d0 c0 p0 k1 hE
    refine c_seq_cut (fun e' w' => w' = w ∧ e' 4 = .int .i64 (n : Int) ∧ e' 5 = .int .i64 (least : Int) ∧ e' 6 = .int .i64 (wVal s v0 (n - 1) : Nat) ∧ (∀ k, k < n → 1 ≤ k → contOk s k)) ?_ ?_
    · repeat (first | rw [c_seq] | simp -dsimp only [↓RE,RU,RL,forall_const,implies_true,Nat.reduceLeDiff,Nat.reduceLT,pureOp,binPure,intBin,strBin,eqPure,isConstO,lenPure,resK,endV,yieldE,↓reduceIte,Nat.reduceEqDiff,reduceCtorEq,Nat.reduceAdd,Nat.reduceMul,Int.reduceLT,Int.reduceLE,Int.reduceToNat,Int.reduceAdd,Int.reduceSub,Int.reduceMul,decide_true,decide_false,tf134, he0])
      refine wpLoop_intro (fun e' w' => w' = w ∧ (e' 0 = .string s ∧ e' 4 = .int .i64 (n : Int) ∧ e' 5 = .int .i64 (least : Int)) ∧ ∃ j : Nat, j + 1 ≤ n ∧ e' 7 = .int .i64 ((j + 1 : Nat) : Int) ∧ e' 6 = .int .i64 (wVal s v0 j : Nat) ∧ (∀ k, k < j + 1 → 1 ≤ k → contOk s k))
        (fun e' _ => n - (envInt (e' 7)).toNat) ⟨rfl, ⟨?_, ?_, ?_⟩, 0, by omega, ?_, ?_, fun k h1 h2 => by omega⟩ ?_
      · simp -dsimp only [↓RE,RU,RL,↓reduceIte,Nat.reduceEqDiff,reduceCtorEq,decide_true,decide_false, he0]
      · simp -dsimp only [↓RE,RU,RL,↓reduceIte,Nat.reduceEqDiff,reduceCtorEq,decide_true,decide_false, he4]
      · simp -dsimp only [↓RE,RU,RL,↓reduceIte,Nat.reduceEqDiff,reduceCtorEq,decide_true,decide_false, he5]
      · simp -dsimp only [↓RE,RU,RL,↓reduceIte,Nat.reduceEqDiff,reduceCtorEq,decide_true,decide_false, Int.cast_ofNat_Int, Nat.zero_add]
      · simp -dsimp only [↓RE,RU,RL,↓reduceIte,Nat.reduceEqDiff,reduceCtorEq,decide_true,decide_false, he6, wVal]
      clear he0 he4 he5 he6 e
      rintro e wz ⟨rfl, ⟨he0, he4, he5⟩, j, hj, he7, he6, hall⟩
      have hvl := wVal_lt s hv0 j hall
      have hvl2 : wVal s v0 j < 8388608 := by
        have : 64 ^ j ≤ 64 ^ 3 := Nat.pow_le_pow_right (by omega) (by omega)
        omega
      rcases Nat.lt_or_ge (j + 1) n with hlt | hge
      · have hd : decide (((j + 1 : Nat) : Int) < (n : Int)) = true := decide_eq_true (by omega)
        have hmu : (envInt (e 7)).toNat = j + 1 := by rw [he7]; exact Int.toNat_natCast _
        have hb := byt_lt s (j + 1)
        have v1 : IntKind.i64.wrap (((j + 1 : Nat) : Int) + 1) = ((j + 1 + 1 : Nat) : Int) := by rw [wrap_i64_in (by omega) (by omega)]; omega
        have bad : ¬ contOk s (j + 1) → R (.int .i64 0) wz := fun hc => by
          unfold wEnd at h
          rw [if_neg (fun q => hc (q.1 (j + 1) hlt (by omega)))] at h
          exact h
        rcases Nat.lt_or_ge (j + 1) s.size with hsz | hsz
        · have d2 : decide ((s.size : Int) ≤ ((j + 1 : Nat) : Int)) = false := decide_eq_false (by omega)
          have p1 : (0 ≤ ((j + 1 : Nat) : Int) ∧ ((j + 1 : Nat) : Int) < (s.size : Int)) := ⟨by omega, by omega⟩
          by_cases c5 : byt s (j + 1) < 128
          · have d3 : decide (((byt s (j + 1) : Nat) : Int) < 128) = true := decide_eq_true (by omega)
            have := bad (fun q => by have := q.2.1; omega)
            repeat (first | rw [c_seq] | simp -dsimp only [↓RE,RU,RL,forall_const,implies_true,Nat.reduceLeDiff,Nat.reduceLT,pureOp,binPure,intBin,strBin,eqPure,isConstO,lenPure,resK,endV,yieldE,↓reduceIte,Nat.reduceEqDiff,reduceCtorEq,Nat.reduceAdd,Nat.reduceMul,Int.reduceLT,Int.reduceLE,Int.reduceToNat,Int.reduceAdd,Int.reduceSub,Int.reduceMul,decide_true,decide_false,tf134, he0, he4, he7, hd, hbt, Int.toNat_natCast, d2, d3, p1, and_self, undef])
            exact this
          have d3 : decide (((byt s (j + 1) : Nat) : Int) < 128) = false := decide_eq_false (by omega)
          by_cases c6 : byt s (j + 1) < 192
          · have d4 : decide ((192 : Int) ≤ ((byt s (j + 1) : Nat) : Int)) = false := decide_eq_false (by omega)
            have k4 : IntKind.u8.wrap (((byt s (j + 1) : Nat) : Int) - 128) = ((byt s (j + 1) - 128 : Nat) : Int) := by rw [wrap_u8]; omega
            have k5 : IntKind.i64.wrap ((byt s (j + 1) - 128 : Nat) : Int) = ((byt s (j + 1) - 128 : Nat) : Int) := by rw [wrap_i64_in (by omega) (by omega)]
            have k6 : IntKind.i64.wrap ((wVal s v0 j : Nat) * 64 : Int) = ((wVal s v0 j * 64 : Nat) : Int) := by rw [wrap_i64_in (by omega) (by omega)]; omega
            have k7 : IntKind.i64.wrap (((wVal s v0 j * 64 : Nat) : Int) + ((byt s (j + 1) - 128 : Nat) : Int)) = ((wVal s v0 (j + 1) : Nat) : Int) := by rw [wrap_i64_in (by omega) (by omega), wVal]; omega
            repeat (first | rw [c_seq] | simp -dsimp only [↓RE,RU,RL,forall_const,implies_true,Nat.reduceLeDiff,Nat.reduceLT,pureOp,binPure,intBin,strBin,eqPure,isConstO,lenPure,resK,endV,yieldE,↓reduceIte,Nat.reduceEqDiff,reduceCtorEq,Nat.reduceAdd,Nat.reduceMul,Int.reduceLT,Int.reduceLE,Int.reduceToNat,Int.reduceAdd,Int.reduceSub,Int.reduceMul,decide_true,decide_false,tf134, he0, he4, he6, he7, hd, hbt, Int.toNat_natCast, d2, d3, d4, p1, and_self, k4, k5, k6, k7, v1])
            refine hold_intro ⟨⟨rfl, ⟨?_, ?_, ?_⟩, j + 1, hlt, ?_, ?_, fun k h1 h2 => ?_⟩, ?_⟩
            · simp -dsimp only [↓RE,RU,RL,↓reduceIte,Nat.reduceEqDiff,reduceCtorEq,decide_true,decide_false, he0]
            · simp -dsimp only [↓RE,RU,RL,↓reduceIte,Nat.reduceEqDiff,reduceCtorEq,decide_true,decide_false, he4]
            · simp -dsimp only [↓RE,RU,RL,↓reduceIte,Nat.reduceEqDiff,reduceCtorEq,decide_true,decide_false, he5]
            · simp -dsimp only [↓RE,RU,RL,↓reduceIte,Nat.reduceEqDiff,reduceCtorEq,decide_true,decide_false, he7, v1]
            · simp -dsimp only [↓RE,RU,RL,↓reduceIte,Nat.reduceEqDiff,reduceCtorEq,decide_true,decide_false, he6, hbt, Int.toNat_natCast, k4, k5, k6, k7]
            · rcases Nat.lt_or_eq_of_le (Nat.lt_succ_iff.1 h1) with h3 | rfl
              · exact hall k h3 h2
              · exact ⟨hsz, by omega, c6⟩
            · rw [hmu]
              simp -dsimp only [↓RE,↓c_seq,RU,RL,forall_const,implies_true,Nat.reduceLeDiff,Nat.reduceLT,pureOp,binPure,intBin,strBin,eqPure,isConstO,lenPure,resK,endV,yieldE,↓reduceIte,Nat.reduceEqDiff,reduceCtorEq,Nat.reduceAdd,Nat.reduceMul,Int.reduceLT,Int.reduceLE,Int.reduceToNat,Int.reduceAdd,Int.reduceSub,Int.reduceMul,decide_true,decide_false,tf134, he7, v1, envInt, Int.toNat_natCast]
              omega
          · have d4 : decide ((192 : Int) ≤ ((byt s (j + 1) : Nat) : Int)) = true := decide_eq_true (by omega)
            have := bad (fun q => c6 q.2.2)
            repeat (first | rw [c_seq] | simp -dsimp only [↓RE,RU,RL,forall_const,implies_true,Nat.reduceLeDiff,Nat.reduceLT,pureOp,binPure,intBin,strBin,eqPure,isConstO,lenPure,resK,endV,yieldE,↓reduceIte,Nat.reduceEqDiff,reduceCtorEq,Nat.reduceAdd,Nat.reduceMul,Int.reduceLT,Int.reduceLE,Int.reduceToNat,Int.reduceAdd,Int.reduceSub,Int.reduceMul,decide_true,decide_false,tf134, he0, he4, he7, hd, hbt, Int.toNat_natCast, d2, d3, d4, p1, and_self])
            exact this
        · have d2 : decide ((s.size : Int) ≤ ((j + 1 : Nat) : Int)) = true := decide_eq_true (by omega)
          have := bad (fun q => by have := q.1; omega)
          repeat (first | rw [c_seq] | simp -dsimp only [↓RE,RU,RL,forall_const,implies_true,Nat.reduceLeDiff,Nat.reduceLT,pureOp,binPure,intBin,strBin,eqPure,isConstO,lenPure,resK,endV,yieldE,↓reduceIte,Nat.reduceEqDiff,reduceCtorEq,Nat.reduceAdd,Nat.reduceMul,Int.reduceLT,Int.reduceLE,Int.reduceToNat,Int.reduceAdd,Int.reduceSub,Int.reduceMul,decide_true,decide_false,tf134, he0, he4, he7, hd, d2, undef])
          exact this
      · have hjn : n = j + 1 := by omega
        subst hjn
        have hd : decide (((j + 1 : Nat) : Int) < ((j + 1 : Nat) : Int)) = false := decide_eq_false (by omega)
        repeat (first | rw [c_seq] | simp -dsimp only [↓RE,RU,RL,forall_const,implies_true,Nat.reduceLeDiff,Nat.reduceLT,pureOp,binPure,intBin,strBin,eqPure,isConstO,lenPure,resK,endV,yieldE,↓reduceIte,Nat.reduceEqDiff,reduceCtorEq,Nat.reduceAdd,Nat.reduceMul,Int.reduceLT,Int.reduceLE,Int.reduceToNat,Int.reduceAdd,Int.reduceSub,Int.reduceMul,decide_true,decide_false,tf134, he4, he7, hd])
        refine hold_intro ⟨rfl, ?_, ?_, ?_, hall⟩
        · simp -dsimp only [↓RE,RU,RL,↓reduceIte,Nat.reduceEqDiff,reduceCtorEq,decide_true,decide_false, he4]
        · simp -dsimp only [↓RE,RU,RL,↓reduceIte,Nat.reduceEqDiff,reduceCtorEq,decide_true,decide_false, he5]
        · simp -dsimp only [↓RE,RU,RL,↓reduceIte,Nat.reduceEqDiff,reduceCtorEq,decide_true,decide_false, he6, Nat.add_sub_cancel]
    · clear he0 he4 he5 he6 e
      rintro e wz ⟨rfl, he4, he5, he6, hall⟩
      unfold wEnd at h
      generalize wVal s v0 (n - 1) = v at he6 h
      by_cases c7 : v < least
      · have d7 : decide ((v : Int) < (least : Int)) = true := decide_eq_true (by omega)
        rw [if_neg (fun q => by have := q.2.1; omega)] at h
        repeat (first | rw [c_seq] | simp -dsimp only [↓RE,RU,RL,forall_const,implies_true,Nat.reduceLeDiff,Nat.reduceLT,pureOp,binPure,intBin,strBin,eqPure,isConstO,lenPure,resK,endV,yieldE,↓reduceIte,Nat.reduceEqDiff,reduceCtorEq,Nat.reduceAdd,Nat.reduceMul,Int.reduceLT,Int.reduceLE,Int.reduceToNat,Int.reduceAdd,Int.reduceSub,Int.reduceMul,decide_true,decide_false,tf134, he5, he6, d7, undef])
        exact h
      have d7 : decide ((v : Int) < (least : Int)) = false := decide_eq_false (by omega)
      by_cases c8 : 55296 ≤ v
      · have d8 : decide ((55296 : Int) ≤ (v : Int)) = true := decide_eq_true (by omega)
        by_cases c9 : v < 57344
        · have d9 : decide ((v : Int) < 57344) = true := decide_eq_true (by omega)
          rw [if_neg (fun q => q.2.2.1 ⟨c8, c9⟩)] at h
          repeat (first | rw [c_seq] | simp -dsimp only [↓RE,RU,RL,forall_const,implies_true,Nat.reduceLeDiff,Nat.reduceLT,pureOp,binPure,intBin,strBin,eqPure,isConstO,lenPure,resK,endV,yieldE,↓reduceIte,Nat.reduceEqDiff,reduceCtorEq,Nat.reduceAdd,Nat.reduceMul,Int.reduceLT,Int.reduceLE,Int.reduceToNat,Int.reduceAdd,Int.reduceSub,Int.reduceMul,decide_true,decide_false,tf134, he5, he6, d7, d8, d9, undef])
          exact h
        have d9 : decide ((v : Int) < 57344) = false := decide_eq_false (by omega)
        by_cases c10 : 1114111 < v
        · have d10 : decide ((1114111 : Int) < (v : Int)) = true := decide_eq_true (by omega)
          rw [if_neg (fun q => by have := q.2.2.2; omega)] at h
          repeat (first | rw [c_seq] | simp -dsimp only [↓RE,RU,RL,forall_const,implies_true,Nat.reduceLeDiff,Nat.reduceLT,pureOp,binPure,intBin,strBin,eqPure,isConstO,lenPure,resK,endV,yieldE,↓reduceIte,Nat.reduceEqDiff,reduceCtorEq,Nat.reduceAdd,Nat.reduceMul,Int.reduceLT,Int.reduceLE,Int.reduceToNat,Int.reduceAdd,Int.reduceSub,Int.reduceMul,decide_true,decide_false,tf134, he5, he6, d7, d8, d9, d10])
          exact h
        · have d10 : decide ((1114111 : Int) < (v : Int)) = false := decide_eq_false (by omega)
          rw [if_pos ⟨hall, by omega, fun q => c9 q.2, by omega⟩] at h
          repeat (first | rw [c_seq] | simp -dsimp only [↓RE,RU,RL,forall_const,implies_true,Nat.reduceLeDiff,Nat.reduceLT,pureOp,binPure,intBin,strBin,eqPure,isConstO,lenPure,resK,endV,yieldE,↓reduceIte,Nat.reduceEqDiff,reduceCtorEq,Nat.reduceAdd,Nat.reduceMul,Int.reduceLT,Int.reduceLE,Int.reduceToNat,Int.reduceAdd,Int.reduceSub,Int.reduceMul,decide_true,decide_false,tf134, he4, he5, he6, d7, d8, d9, d10])
          exact h
      · have d8 : decide ((55296 : Int) ≤ (v : Int)) = false := decide_eq_false (by omega)
        have d10 : decide ((1114111 : Int) < (v : Int)) = false := decide_eq_false (by omega)
        rw [if_pos ⟨hall, by omega, fun q => c8 q.1, by omega⟩] at h
        repeat (first | rw [c_seq] | simp -dsimp only [↓RE,RU,RL,forall_const,implies_true,Nat.reduceLeDiff,Nat.reduceLT,pureOp,binPure,intBin,strBin,eqPure,isConstO,lenPure,resK,endV,yieldE,↓reduceIte,Nat.reduceEqDiff,reduceCtorEq,Nat.reduceAdd,Nat.reduceMul,Int.reduceLT,Int.reduceLE,Int.reduceToNat,Int.reduceAdd,Int.reduceSub,Int.reduceMul,decide_true,decide_false,tf134, he4, he5, he6, d7, d8, d10, undef])
        exact h

end Go.Proofs.YtljgnocpijniiaaGreatDoor

namespace Go.Proofs.YtljgnocpijniiaaGreatDoor
open Go

/-- from a place on, by so many sequences: all valid, no control. -/
def okF (s : ByteArray) : Nat → Nat → Bool
  | 0, _ => true
  | f + 1, pos => if pos < s.size then (if wide (s.extract pos s.size) = 0 ∨ byt s pos < 32 ∨ byt s pos = 127 then false else okF s f (pos + wide (s.extract pos s.size))) else true
def rightB (s : ByteArray) (most : Nat) : Bool := if s.size = 0 ∨ most < s.size then false else okF s s.size 0
theorem wEnd_le {s : ByteArray} {n least v0 : Nat} (hn : 2 ≤ n) : wEnd s n least v0 ≤ s.size := by
  unfold wEnd
  split
  · rename_i h
    have := (h.1 (n - 1) (by omega) (by omega)).1
    omega
  · omega
theorem wide_le (s : ByteArray) : wide s ≤ s.size := by
  unfold wide
  split
  · omega
  · split
    · omega
    · split
      · exact wEnd_le (by omega)
      · split
        · exact wEnd_le (by omega)
        · split
          · exact wEnd_le (by omega)
          · omega
theorem ext_size {s : ByteArray} {p : Nat} : (s.extract p s.size).size = s.size - p := by simp
set_option maxHeartbeats 1000000 in
theorem rright_ok {w : World} {s : ByteArray} {most : Nat} (hs : s.size ≤ 4611686018427387904) {R : VWK} (h : R (.bool (rightB s most)) w) : CallsV Tryz.prog 106 [.string s, .int .i64 (most : Int)] w R := by
  have hbt : ∀ i, (s.data.toList.getD i 0).toNat = byt s i := fun _ => rfl
  unfold rightB at h
  refine calls_of_wpC mixed Tryz.func106 rfl (by kernel_rfl) ?_
  intro e he
  have he0 := he 0
  have he1 := he 1
  simp only [List.getD_cons_zero, List.getD_cons_succ] at he0 he1
  clear he
  by_cases c0 : s.size = 0
  · have d0 : decide (s.size = 0) = true := decide_eq_true c0
    rw [if_pos (.inl c0)] at h
    have hE := (beq_nil s).trans d0
    repeat (first | rw [c_seq] | simp -dsimp only [↓RE,RU,RL,forall_const,implies_true,Nat.reduceLeDiff,Nat.reduceLT,pureOp,binPure,intBin,strBin,eqPure,isConstO,sliceLo,sliceHi,slicePure,lenPure,resK,endV,yieldE,↓reduceIte,Nat.reduceEqDiff,reduceCtorEq,Nat.reduceAdd,Nat.reduceMul,Nat.reduceSub,Int.reduceLT,Int.reduceLE,Int.reduceToNat,Int.reduceAdd,decide_true,decide_false,tf106, he0, hE, undef])
    exact h
  have d0 : decide (s.size = 0) = false := decide_eq_false c0
  have hE := (beq_nil s).trans d0
  by_cases c1 : most < s.size
  · have d1 : decide ((most : Int) < (s.size : Int)) = true := decide_eq_true (by omega)
    rw [if_pos (.inr c1)] at h
    repeat (first | rw [c_seq] | simp -dsimp only [↓RE,RU,RL,forall_const,implies_true,Nat.reduceLeDiff,Nat.reduceLT,pureOp,binPure,intBin,strBin,eqPure,isConstO,sliceLo,sliceHi,slicePure,lenPure,resK,endV,yieldE,↓reduceIte,Nat.reduceEqDiff,reduceCtorEq,Nat.reduceAdd,Nat.reduceMul,Nat.reduceSub,Int.reduceLT,Int.reduceLE,Int.reduceToNat,Int.reduceAdd,decide_true,decide_false,tf106, he0, he1, hE, d1])
    exact h
  have d1 : decide ((most : Int) < (s.size : Int)) = false := decide_eq_false (by omega)
  rw [if_neg (by omega)] at h
  generalize hA : okF s s.size 0 = ANS at h
  repeat (first | rw [c_seq] | simp -dsimp only [↓RE,RU,RL,forall_const,implies_true,Nat.reduceLeDiff,Nat.reduceLT,pureOp,binPure,intBin,strBin,eqPure,isConstO,sliceLo,sliceHi,slicePure,lenPure,resK,endV,yieldE,↓reduceIte,Nat.reduceEqDiff,reduceCtorEq,Nat.reduceAdd,Nat.reduceMul,Nat.reduceSub,Int.reduceLT,Int.reduceLE,Int.reduceToNat,Int.reduceAdd,decide_true,decide_false,tf106, he0, he1, hE, d1])
  refine wpLoop_intro (fun e' w' => w' = w ∧ e' 0 = .string s ∧ ∃ (f pos : Nat), s.size - pos ≤ f ∧ pos ≤ s.size ∧ e' 5 = .int .i64 (pos : Int) ∧ okF s f pos = ANS)
    (fun e' _ => s.size - (envInt (e' 5)).toNat) ⟨rfl, ?_, s.size, 0, by omega, Nat.zero_le _, ?_, hA⟩ ?_
  · simp -dsimp only [↓RE,RU,RL,↓reduceIte,Nat.reduceEqDiff,reduceCtorEq,decide_true,decide_false, he0]
  · simp -dsimp only [↓RE,RU,RL,↓reduceIte,Nat.reduceEqDiff,reduceCtorEq,decide_true,decide_false, Int.cast_ofNat_Int]
  clear he0 he1 e d0 hE d1 hA
  rintro e wz ⟨rfl, he0, f, pos, hf, hp, he5, hA⟩
  rcases Nat.lt_or_ge pos s.size with hlt | hge
  · have hd : decide ((pos : Int) < (s.size : Int)) = true := decide_eq_true (by omega)
    have hmu : (envInt (e 5)).toNat = pos := by rw [he5]; exact Int.toNat_natCast _
    obtain ⟨f, rfl⟩ : ∃ g, f = g + 1 := ⟨f - 1, by omega⟩
    rw [okF, if_pos hlt] at hA
    have hz : (s.extract pos s.size).size = s.size - pos := ext_size
    have hwl := wide_le (s.extract pos s.size)
    have p1 : (0 ≤ (pos : Int) ∧ (pos : Int) < (s.size : Int)) := ⟨by omega, by omega⟩
    have p2 : (0 ≤ (pos : Int) ∧ (pos : Int) ≤ (s.size : Int) ∧ (s.size : Int) ≤ (s.size : Int)) := ⟨by omega, by omega, by omega⟩
    repeat (first | rw [c_seq] | simp -dsimp only [↓RE,RU,RL,forall_const,implies_true,Nat.reduceLeDiff,Nat.reduceLT,pureOp,binPure,intBin,strBin,eqPure,isConstO,sliceLo,sliceHi,slicePure,lenPure,resK,endV,yieldE,↓reduceIte,Nat.reduceEqDiff,reduceCtorEq,Nat.reduceAdd,Nat.reduceMul,Nat.reduceSub,Int.reduceLT,Int.reduceLE,Int.reduceToNat,Int.reduceAdd,decide_true,decide_false,tf106, he0, he5, hd, p2, and_self, Int.toNat_natCast])
    refine wide_ok (by omega) ?_
    generalize wide (s.extract pos s.size) = n at hA hwl ⊢
    by_cases c2 : n = 0
    · have d2 : decide ((n : Int) = 0) = true := decide_eq_true (by omega)
      rw [if_pos (.inl c2)] at hA
      subst hA
      repeat (first | rw [c_seq] | simp -dsimp only [↓RE,RU,RL,forall_const,implies_true,Nat.reduceLeDiff,Nat.reduceLT,pureOp,binPure,intBin,strBin,eqPure,isConstO,sliceLo,sliceHi,slicePure,lenPure,resK,endV,yieldE,↓reduceIte,Nat.reduceEqDiff,reduceCtorEq,Nat.reduceAdd,Nat.reduceMul,Nat.reduceSub,Int.reduceLT,Int.reduceLE,Int.reduceToNat,Int.reduceAdd,decide_true,decide_false,tf106, he0, he5, d2, undef])
      exact h
    have d2 : decide ((n : Int) = 0) = false := decide_eq_false (by omega)
    by_cases c3 : byt s pos < 32
    · have d3 : decide (((byt s pos : Nat) : Int) < 32) = true := decide_eq_true (by omega)
      rw [if_pos (.inr (.inl c3))] at hA
      subst hA
      repeat (first | rw [c_seq] | simp -dsimp only [↓RE,RU,RL,forall_const,implies_true,Nat.reduceLeDiff,Nat.reduceLT,pureOp,binPure,intBin,strBin,eqPure,isConstO,sliceLo,sliceHi,slicePure,lenPure,resK,endV,yieldE,↓reduceIte,Nat.reduceEqDiff,reduceCtorEq,Nat.reduceAdd,Nat.reduceMul,Nat.reduceSub,Int.reduceLT,Int.reduceLE,Int.reduceToNat,Int.reduceAdd,decide_true,decide_false,tf106, he0, he5, d2, d3, hbt, p1, and_self, Int.toNat_natCast, undef])
      exact h
    have d3 : decide (((byt s pos : Nat) : Int) < 32) = false := decide_eq_false (by omega)
    by_cases c4 : byt s pos = 127
    · have d4 : decide (((byt s pos : Nat) : Int) = 127) = true := decide_eq_true (by omega)
      rw [if_pos (.inr (.inr c4))] at hA
      subst hA
      repeat (first | rw [c_seq] | simp -dsimp only [↓RE,RU,RL,forall_const,implies_true,Nat.reduceLeDiff,Nat.reduceLT,pureOp,binPure,intBin,strBin,eqPure,isConstO,sliceLo,sliceHi,slicePure,lenPure,resK,endV,yieldE,↓reduceIte,Nat.reduceEqDiff,reduceCtorEq,Nat.reduceAdd,Nat.reduceMul,Nat.reduceSub,Int.reduceLT,Int.reduceLE,Int.reduceToNat,Int.reduceAdd,decide_true,decide_false,tf106, he0, he5, d2, d3, d4, hbt, p1, and_self, Int.toNat_natCast])
      exact h
    have d4 : decide (((byt s pos : Nat) : Int) = 127) = false := decide_eq_false (by omega)
    rw [if_neg (fun q => by rcases q with q | q | q <;> omega)] at hA
    have v1 : IntKind.i64.wrap ((pos : Int) + (n : Int)) = ((pos + n : Nat) : Int) := by rw [wrap_i64_in (by omega) (by omega)]; omega
    repeat (first | rw [c_seq] | simp -dsimp only [↓RE,RU,RL,forall_const,implies_true,Nat.reduceLeDiff,Nat.reduceLT,pureOp,binPure,intBin,strBin,eqPure,isConstO,sliceLo,sliceHi,slicePure,lenPure,resK,endV,yieldE,↓reduceIte,Nat.reduceEqDiff,reduceCtorEq,Nat.reduceAdd,Nat.reduceMul,Nat.reduceSub,Int.reduceLT,Int.reduceLE,Int.reduceToNat,Int.reduceAdd,decide_true,decide_false,tf106, he0, he5, d2, d3, d4, hbt, p1, and_self, Int.toNat_natCast, v1])
    refine hold_intro ⟨⟨rfl, ?_, f, pos + n, by omega, by omega, ?_, hA⟩, ?_⟩
    · simp -dsimp only [↓RE,RU,RL,↓reduceIte,Nat.reduceEqDiff,reduceCtorEq,decide_true,decide_false, he0]
    · simp -dsimp only [↓RE,RU,RL,↓reduceIte,Nat.reduceEqDiff,reduceCtorEq,decide_true,decide_false, he5, v1]
    · rw [hmu]
      simp -dsimp only [↓RE,↓c_seq,RU,RL,forall_const,implies_true,Nat.reduceLeDiff,Nat.reduceLT,pureOp,binPure,intBin,strBin,eqPure,isConstO,sliceLo,sliceHi,slicePure,lenPure,resK,endV,yieldE,↓reduceIte,Nat.reduceEqDiff,reduceCtorEq,Nat.reduceAdd,Nat.reduceMul,Nat.reduceSub,Int.reduceLT,Int.reduceLE,Int.reduceToNat,Int.reduceAdd,decide_true,decide_false,tf106, he5, v1, envInt, Int.toNat_natCast]
      omega
  · have hd : decide ((pos : Int) < (s.size : Int)) = false := decide_eq_false (by omega)
    have hA' : ANS = true := by
      rw [← hA]
      cases f with
      | zero => rfl
      | succ f => rw [okF, if_neg (by omega)]
    subst hA'
    repeat (first | rw [c_seq] | simp -dsimp only [↓RE,RU,RL,forall_const,implies_true,Nat.reduceLeDiff,Nat.reduceLT,pureOp,binPure,intBin,strBin,eqPure,isConstO,sliceLo,sliceHi,slicePure,lenPure,resK,endV,yieldE,↓reduceIte,Nat.reduceEqDiff,reduceCtorEq,Nat.reduceAdd,Nat.reduceMul,Nat.reduceSub,Int.reduceLT,Int.reduceLE,Int.reduceToNat,Int.reduceAdd,decide_true,decide_false,tf106, he0, he5, hd])
    exact h
theorem isname_ok {w : World} {s : ByteArray} (hs : s.size ≤ 4611686018427387904) {R : VWK} (h : R (.bool (rightB s 64)) w) : CallsV Tryz.prog 44 [.string s] w R := by
  refine calls_of_wpC mixed Tryz.func44 rfl (by kernel_rfl) ?_
  intro e he
  have he0 := he 0
  simp only [List.getD_cons_zero, List.getD_cons_succ] at he0
  clear he
  repeat (first | rw [c_seq] | simp -dsimp only [↓RE,RU,RL,Nat.reduceLeDiff,Nat.reduceLT,pureOp,resK,endV,↓reduceIte,Nat.reduceEqDiff,reduceCtorEq,Nat.reduceAdd,Nat.reduceMul,Int.reduceLT,Int.reduceLE,Int.reduceToNat,decide_true,decide_false,tf44, he0])
  refine rright_ok (most := 64) hs ?_
  repeat (first | rw [c_seq] | simp -dsimp only [↓RE,RU,RL,Nat.reduceLeDiff,Nat.reduceLT,pureOp,resK,endV,↓reduceIte,Nat.reduceEqDiff,reduceCtorEq,Nat.reduceAdd,Nat.reduceMul,Int.reduceLT,Int.reduceLE,Int.reduceToNat,decide_true,decide_false,tf44, he0])
  exact h
theorem istext_ok {w : World} {s : ByteArray} (hs : s.size ≤ 4611686018427387904) {R : VWK} (h : R (.bool (rightB s 256)) w) : CallsV Tryz.prog 135 [.string s] w R := by
  refine calls_of_wpC mixed Tryz.func135 rfl (by kernel_rfl) ?_
  intro e he
  have he0 := he 0
  simp only [List.getD_cons_zero, List.getD_cons_succ] at he0
  clear he
  repeat (first | rw [c_seq] | simp -dsimp only [↓RE,RU,RL,Nat.reduceLeDiff,Nat.reduceLT,pureOp,resK,endV,↓reduceIte,Nat.reduceEqDiff,reduceCtorEq,Nat.reduceAdd,Nat.reduceMul,Int.reduceLT,Int.reduceLE,Int.reduceToNat,decide_true,decide_false,tf135, he0])
  refine rright_ok (most := 256) hs ?_
  repeat (first | rw [c_seq] | simp -dsimp only [↓RE,RU,RL,Nat.reduceLeDiff,Nat.reduceLT,pureOp,resK,endV,↓reduceIte,Nat.reduceEqDiff,reduceCtorEq,Nat.reduceAdd,Nat.reduceMul,Int.reduceLT,Int.reduceLE,Int.reduceToNat,decide_true,decide_false,tf135, he0])
  exact h
def sTime : ByteArray := ⟨#[116, 105, 109, 101]⟩
/-- a name, and not time. -/
def wordB (s : ByteArray) : Bool := rightB s 64 && !decide (cmpS s sTime = 0)
theorem isword_ok {w : World} {s : ByteArray} (hs : s.size ≤ 4611686018427387904) {R : VWK} (h : R (.bool (wordB s)) w) : CallsV Tryz.prog 108 [.string s] w R := by
  have hb : (s.toList == (ByteArray.mk #[116, 105, 109, 101]).toList) = decide (cmpS s sTime = 0) := beqS
  unfold wordB at h
  refine calls_of_wpC mixed Tryz.func108 rfl (by kernel_rfl) ?_
  intro e he
  have he0 := he 0
  simp only [List.getD_cons_zero, List.getD_cons_succ] at he0
  clear he
  repeat (first | rw [c_seq] | simp -dsimp only [↓RE,RU,RL,forall_const,implies_true,Nat.reduceLeDiff,Nat.reduceLT,pureOp,binPure,intBin,strBin,eqPure,isConstO,resK,endV,yieldE,↓reduceIte,Nat.reduceEqDiff,reduceCtorEq,Nat.reduceAdd,Nat.reduceMul,Int.reduceLT,Int.reduceLE,Int.reduceToNat,Int.reduceAdd,ne_eq,decide_true,decide_false,tf108, he0])
  refine isname_ok hs ?_
  cases hr : rightB s 64 with
  | false =>
    rw [hr] at h
    repeat (first | rw [c_seq] | simp -dsimp only [↓RE,RU,RL,forall_const,implies_true,Nat.reduceLeDiff,Nat.reduceLT,pureOp,binPure,intBin,strBin,eqPure,isConstO,resK,endV,yieldE,↓reduceIte,Nat.reduceEqDiff,reduceCtorEq,Nat.reduceAdd,Nat.reduceMul,Int.reduceLT,Int.reduceLE,Int.reduceToNat,Int.reduceAdd,ne_eq,decide_true,decide_false,tf108, he0, undef])
    exact h
  | true =>
    rw [hr] at h
    cases hc : decide (cmpS s sTime = 0) with
    | true =>
      rw [hc] at h hb
      repeat (first | rw [c_seq] | simp -dsimp only [↓RE,RU,RL,forall_const,implies_true,Nat.reduceLeDiff,Nat.reduceLT,pureOp,binPure,intBin,strBin,eqPure,isConstO,resK,endV,yieldE,↓reduceIte,Nat.reduceEqDiff,reduceCtorEq,Nat.reduceAdd,Nat.reduceMul,Int.reduceLT,Int.reduceLE,Int.reduceToNat,Int.reduceAdd,ne_eq,decide_true,decide_false,tf108, he0, hb, Bool.not_true])
      exact h
    | false =>
      rw [hc] at h hb
      repeat (first | rw [c_seq] | simp -dsimp only [↓RE,RU,RL,forall_const,implies_true,Nat.reduceLeDiff,Nat.reduceLT,pureOp,binPure,intBin,strBin,eqPure,isConstO,resK,endV,yieldE,↓reduceIte,Nat.reduceEqDiff,reduceCtorEq,Nat.reduceAdd,Nat.reduceMul,Int.reduceLT,Int.reduceLE,Int.reduceToNat,Int.reduceAdd,ne_eq,decide_true,decide_false,tf108, he0, hb, Bool.not_false])
      exact h

end Go.Proofs.YtljgnocpijniiaaGreatDoor
