/- Bits read by wire.Reader. -/
import Derived.Test.YtcjlhfmjcioeeaaRload
set_option linter.unusedVariables false
set_option linter.unusedSimpArgs false
set_option maxRecDepth 100000
namespace Go.Proofs.Ytcjlhfmjcioeeaa
open Go

def bitPos (s : RS) : Nat := if s.bits = 0 then s.pos + 1 else s.pos
def bitAt (s : RS) : Int := s.xs.getD (bitPos s - 1) 0 / 2 ^ (7 - s.bits) % 2
def bitStep (s : RS) : RS := { s with pos := bitPos s, bits := (s.bits + 1) % 8 }
def rBitsN : Nat → RS → Int → RS × Int
  | 0, s, v => (s, v)
  | k + 1, s, v => rBitsN k (bitStep s) (v * 2 + bitAt s)
def bitsOpen (s : RS) : Nat := if 0 < s.bits then 8 - s.bits else 0
def rBits (n : Int) (s : RS) : RS × Int :=
  if s.fault ≠ none then (s, 0)
  else if bitsOpen s + 8 * (s.xs.length - s.pos) < brought n then (rFail s (errAt s.xs.length 30), 0)
  else rBitsN (brought n) s 0

theorem bitStep_ok {s : RS} (h : RSok s) (hb : 0 < bitsOpen s + 8 * (s.xs.length - s.pos)) : RSok (bitStep s) ∧ bitsOpen (bitStep s) + 8 * ((bitStep s).xs.length - (bitStep s).pos) + 1 = bitsOpen s + 8 * (s.xs.length - s.pos) ∧ bitPos s ≤ s.xs.length ∧ 0 < bitPos s := by
  have h8 := h.b8
  have hl := h.le
  have h1 := h.b1
  have hp : bitPos s ≤ s.xs.length ∧ 0 < bitPos s := by
    unfold bitPos
    unfold bitsOpen at hb
    split <;> (try split at hb) <;> omega
  refine ⟨⟨hp.1, Nat.mod_lt _ (by omega), fun _ => hp.2, h.len, h.bytes⟩, ?_, hp⟩
  unfold bitsOpen bitStep bitPos at *
  simp only
  by_cases h0 : s.bits = 0
  · simp only [h0, if_true] at *
    simp
    omega
  · by_cases h7 : s.bits = 7
    · simp only [h7] at *
      simp
      omega
    · rw [if_neg h0, show (s.bits + 1) % 8 = s.bits + 1 by omega, if_pos (by omega), if_pos (by omega)]
      omega
theorem bitAt_01 (s : RS) : bitAt s = 0 ∨ bitAt s = 1 := by unfold bitAt; omega
theorem rBitsN_ok : ∀ (k : Nat) {s : RS} (v : Int), RSok s → k ≤ bitsOpen s + 8 * (s.xs.length - s.pos) → RSok (rBitsN k s v).1
  | 0, s, v, h, _ => h
  | k + 1, s, v, h, hk => by
    obtain ⟨a, b, _⟩ := bitStep_ok h (by omega)
    exact rBitsN_ok k _ a (by omega)
theorem RSok.bits {s : RS} (h : RSok s) (n : Int) : RSok (rBits n s).1 := by
  unfold rBits
  split
  · exact h
  split
  · exact h.fail _
  · exact rBitsN_ok _ _ h (by omega)
theorem rBitsN_range : ∀ (k : Nat) (s : RS) (v : Int) (m : Nat), 0 ≤ v → v < 2 ^ m → 0 ≤ (rBitsN k s v).2 ∧ (rBitsN k s v).2 < 2 ^ (m + k)
  | 0, s, v, m, h0, h1 => ⟨h0, h1⟩
  | k + 1, s, v, m, h0, h1 => by
    have hb := bitAt_01 s
    have := rBitsN_range k (bitStep s) (v * 2 + bitAt s) (m + 1) (by omega) (by rw [Int.pow_succ]; omega)
    rw [show m + (k + 1) = m + 1 + k by omega]
    exact this

theorem and_u8_1 {x : Int} (h0 : 0 ≤ x) (h1 : x < 256) : bitsOp .and .u8 x 1 = x % 2 := by
  rw [bitsOp_eq _ _ _ _ (by simp), u8_and x 1 h0 h1 (by omega) (by omega)]
  rw [show (1 : Int).toNat = 1 from rfl, nat_mask1]
  omega
theorem bitsR_ok {w : World} {F : Nat → Prop} {p : Nat} {s : RS} (hR : RAt w F p s) (ok : RSok s) {n : Int} (n0 : -9223372036854775808 ≤ n) (n1 : n < 9223372036854775808) {R : VWK}
    (h : ∀ w', RAt w' F p (rBits n s).1 → Keep (fun k => k = p) w w' → R (.int .u64 (rBits n s).2) w') :
    CallsV Try.prog 27 [.pointer (some ⟨p, 0, none⟩), .int .i64 n] w R := by
  have hle := ok.le
  have hln := ok.len
  have h8 := ok.b8
  have hbr := brought_le n
  obtain ⟨A, c, hB, hRd, hp, hc, hF⟩ := id hR
  unfold rBits at h
  refine calls_of_wpC mixed Try.func27 rfl (by kernel_rfl) ?_
  intro e he
  have he0 := he 0
  have he1 := he 1
  simp only [List.getD_cons_zero, List.getD_cons_succ] at he0 he1
  clear he
  cases hf : s.fault with
  | some x =>
    rw [if_pos (by simp [hf])] at h
    simp -dsimp only [↓RE,↓c_seq,RU,RL,if_true,if_false,forall_const,implies_true,Nat.reduceLeDiff,Nat.reduceLT,pureOp,binPure,intBin,strBin,eqPure,isConstO,unPure,sliceLo,sliceHi,slicePure,lenPure,minPure,maxPure,buildP,resK,endV,yieldE,↓reduceIte,Nat.reduceEqDiff,reduceCtorEq,Nat.reduceAdd,Nat.reduceMul,Nat.reduceSub,Int.reduceLT,Int.reduceLE,Int.reduceToNat,Int.reduceAdd,Int.reduceSub,Int.reduceMul,ne_eq,decide_true,decide_false,tf27, he0, hB.cell, hf, errV]
    exact h w hR (Keep.refl _ _)
  | none =>
    rw [if_neg (by simp [hf])] at h
    have hmx : (if (if 64 < n then 64 else n) > 0 then if 64 < n then 64 else n else 0) = ((brought n : Nat) : Int) := by
      unfold brought
      split <;> split <;> (try split) <;> omega
    rw [c_assoc, c_assoc, c_assoc, c_assoc]
    refine c_seq_cut (fun e' w' => w' = w ∧ e' 0 = .pointer (some ⟨p, 0, none⟩) ∧ e' 1 = .int .i64 (brought n : Nat) ∧ e' 5 = .int .i64 (bitsOpen s : Nat)) ?_ ?_
    · simp -dsimp only [↓RE,↓c_seq,RU,RL,if_true,if_false,forall_const,implies_true,Nat.reduceLeDiff,Nat.reduceLT,pureOp,binPure,intBin,strBin,eqPure,isConstO,unPure,sliceLo,sliceHi,slicePure,lenPure,minPure,maxPure,buildP,resK,endV,yieldE,↓reduceIte,Nat.reduceEqDiff,reduceCtorEq,Nat.reduceAdd,Nat.reduceMul,Nat.reduceSub,Int.reduceLT,Int.reduceLE,Int.reduceToNat,Int.reduceAdd,Int.reduceSub,Int.reduceMul,ne_eq,decide_true,decide_false,tf27, he0, he1, hB.cell, hf, errV, hmx]
      refine ⟨fun hb => ?_, fun hb => ?_⟩
      · have hw8 : IntKind.i64.wrap (8 - (s.bits : Int)) = ((8 - s.bits : Nat) : Int) := by rw [wrap_i64_in (by omega) (by omega)]; omega
        refine hold_intro ⟨rfl, ?_, ?_, ?_⟩
        · simp -dsimp only [↓RE,↓c_seq,RU,RL,if_true,if_false,forall_const,implies_true,Nat.reduceLeDiff,Nat.reduceLT,pureOp,binPure,intBin,strBin,eqPure,isConstO,unPure,sliceLo,sliceHi,slicePure,lenPure,minPure,maxPure,buildP,resK,endV,yieldE,↓reduceIte,Nat.reduceEqDiff,reduceCtorEq,Nat.reduceAdd,Nat.reduceMul,Nat.reduceSub,Int.reduceLT,Int.reduceLE,Int.reduceToNat,Int.reduceAdd,Int.reduceSub,Int.reduceMul,ne_eq,decide_true,decide_false,tf27, he0]
        · simp -dsimp only [↓RE,↓c_seq,RU,RL,if_true,if_false,forall_const,implies_true,Nat.reduceLeDiff,Nat.reduceLT,pureOp,binPure,intBin,strBin,eqPure,isConstO,unPure,sliceLo,sliceHi,slicePure,lenPure,minPure,maxPure,buildP,resK,endV,yieldE,↓reduceIte,Nat.reduceEqDiff,reduceCtorEq,Nat.reduceAdd,Nat.reduceMul,Nat.reduceSub,Int.reduceLT,Int.reduceLE,Int.reduceToNat,Int.reduceAdd,Int.reduceSub,Int.reduceMul,ne_eq,decide_true,decide_false,tf27, he1, hmx]
        · rw [show bitsOpen s = 8 - s.bits from if_pos (by omega)]
          simp -dsimp only [↓RE,↓c_seq,RU,RL,if_true,if_false,forall_const,implies_true,Nat.reduceLeDiff,Nat.reduceLT,pureOp,binPure,intBin,strBin,eqPure,isConstO,unPure,sliceLo,sliceHi,slicePure,lenPure,minPure,maxPure,buildP,resK,endV,yieldE,↓reduceIte,Nat.reduceEqDiff,reduceCtorEq,Nat.reduceAdd,Nat.reduceMul,Nat.reduceSub,Int.reduceLT,Int.reduceLE,Int.reduceToNat,Int.reduceAdd,Int.reduceSub,Int.reduceMul,ne_eq,decide_true,decide_false,tf27, he0, hw8]
      · refine hold_intro ⟨rfl, ?_, ?_, ?_⟩
        · simp -dsimp only [↓RE,↓c_seq,RU,RL,if_true,if_false,forall_const,implies_true,Nat.reduceLeDiff,Nat.reduceLT,pureOp,binPure,intBin,strBin,eqPure,isConstO,unPure,sliceLo,sliceHi,slicePure,lenPure,minPure,maxPure,buildP,resK,endV,yieldE,↓reduceIte,Nat.reduceEqDiff,reduceCtorEq,Nat.reduceAdd,Nat.reduceMul,Nat.reduceSub,Int.reduceLT,Int.reduceLE,Int.reduceToNat,Int.reduceAdd,Int.reduceSub,Int.reduceMul,ne_eq,decide_true,decide_false,tf27, he0]
        · simp -dsimp only [↓RE,↓c_seq,RU,RL,if_true,if_false,forall_const,implies_true,Nat.reduceLeDiff,Nat.reduceLT,pureOp,binPure,intBin,strBin,eqPure,isConstO,unPure,sliceLo,sliceHi,slicePure,lenPure,minPure,maxPure,buildP,resK,endV,yieldE,↓reduceIte,Nat.reduceEqDiff,reduceCtorEq,Nat.reduceAdd,Nat.reduceMul,Nat.reduceSub,Int.reduceLT,Int.reduceLE,Int.reduceToNat,Int.reduceAdd,Int.reduceSub,Int.reduceMul,ne_eq,decide_true,decide_false,tf27, he1, hmx]
        · rw [show bitsOpen s = 0 from if_neg (by omega)]
          simp -dsimp only [↓RE,↓c_seq,RU,RL,if_true,if_false,forall_const,implies_true,Nat.reduceLeDiff,Nat.reduceLT,pureOp,binPure,intBin,strBin,eqPure,isConstO,unPure,sliceLo,sliceHi,slicePure,lenPure,minPure,maxPure,buildP,resK,endV,yieldE,↓reduceIte,Nat.reduceEqDiff,reduceCtorEq,Nat.reduceAdd,Nat.reduceMul,Nat.reduceSub,Int.reduceLT,Int.reduceLE,Int.reduceToNat,Int.reduceAdd,Int.reduceSub,Int.reduceMul,ne_eq,decide_true,decide_false,tf27, he0, Int.cast_ofNat_Int]
    · rintro e' w' ⟨rfl, g0, g1, g5⟩
      have hop : bitsOpen s ≤ 8 := by unfold bitsOpen; split <;> omega
      rw [c_assoc]
      refine c_seq_cut (fun e2 w2 => Grow w' w2 ∧ e2 0 = .pointer (some ⟨p, 0, none⟩) ∧ e2 1 = .int .i64 (brought n : Nat) ∧ e2 6 = .int .u64 0 ∧ brought n ≤ bitsOpen s + 8 * (s.xs.length - s.pos)) ?_ ?_
      · by_cases hbo : ((bitsOpen s : Nat) : Int) < (brought n : Nat)
        · have hq1 : IntKind.i64.wrap (((brought n : Nat) : Int) - (bitsOpen s : Nat)) = ((brought n - bitsOpen s : Nat) : Int) := by rw [wrap_i64_in (by omega) (by omega)]; omega
          have hq2 : IntKind.i64.wrap (((brought n - bitsOpen s : Nat) : Int) + 7) = ((brought n - bitsOpen s + 7 : Nat) : Int) := by rw [wrap_i64_in (by omega) (by omega)]; rfl
          have hq3 : IntKind.i64.wrap (((brought n - bitsOpen s + 7 : Nat) : Int).tdiv 8) = (((brought n - bitsOpen s + 7) / 8 : Nat) : Int) := by
            rw [Int.tdiv_eq_ediv_of_nonneg (by omega), wrap_i64_in (by omega) (by omega)]; rfl
          simp -dsimp only [↓RE,↓c_seq,RU,RL,if_true,if_false,forall_const,implies_true,Nat.reduceLeDiff,Nat.reduceLT,pureOp,binPure,intBin,strBin,eqPure,isConstO,unPure,sliceLo,sliceHi,slicePure,lenPure,minPure,maxPure,buildP,resK,endV,yieldE,↓reduceIte,Nat.reduceEqDiff,reduceCtorEq,Nat.reduceAdd,Nat.reduceMul,Nat.reduceSub,Int.reduceLT,Int.reduceLE,Int.reduceToNat,Int.reduceAdd,Int.reduceSub,Int.reduceMul,ne_eq,decide_true,decide_false,tf27, g0, g1, g5, hbo, hq1, hq2, hq3]
          refine ⟨by omega, ?_⟩
          try simp -dsimp only [↓RE,↓c_seq,RU,RL,if_true,if_false,forall_const,implies_true,Nat.reduceLeDiff,Nat.reduceLT,pureOp,binPure,intBin,strBin,eqPure,isConstO,unPure,sliceLo,sliceHi,slicePure,lenPure,minPure,maxPure,buildP,resK,endV,yieldE,↓reduceIte,Nat.reduceEqDiff,reduceCtorEq,Nat.reduceAdd,Nat.reduceMul,Nat.reduceSub,Int.reduceLT,Int.reduceLE,Int.reduceToNat,Int.reduceAdd,Int.reduceSub,Int.reduceMul,ne_eq,decide_true,decide_false,tf27, g0, g1, g5, hbo, hq1, hq2, hq3]
          refine left_ok hR ok (fun w2 g2 => ?_)
          have hB2 := hB.grow g2
          have hR2 := hR.grow g2
          simp -dsimp only [↓RE,↓c_seq,RU,RL,if_true,if_false,forall_const,implies_true,Nat.reduceLeDiff,Nat.reduceLT,pureOp,binPure,intBin,strBin,eqPure,isConstO,unPure,sliceLo,sliceHi,slicePure,lenPure,minPure,maxPure,buildP,resK,endV,yieldE,↓reduceIte,Nat.reduceEqDiff,reduceCtorEq,Nat.reduceAdd,Nat.reduceMul,Nat.reduceSub,Int.reduceLT,Int.reduceLE,Int.reduceToNat,Int.reduceAdd,Int.reduceSub,Int.reduceMul,ne_eq,decide_true,decide_false,tf27, g0, g1, g5, hbo, hq1, hq2, hq3]
          refine ⟨fun hgt => ?_, fun hng => ?_⟩
          · rw [if_pos (by omega)] at h
            try simp -dsimp only [↓RE,↓c_seq,RU,RL,if_true,if_false,forall_const,implies_true,Nat.reduceLeDiff,Nat.reduceLT,pureOp,binPure,intBin,strBin,eqPure,isConstO,unPure,sliceLo,sliceHi,slicePure,lenPure,minPure,maxPure,buildP,resK,endV,yieldE,↓reduceIte,Nat.reduceEqDiff,reduceCtorEq,Nat.reduceAdd,Nat.reduceMul,Nat.reduceSub,Int.reduceLT,Int.reduceLE,Int.reduceToNat,Int.reduceAdd,Int.reduceSub,Int.reduceMul,ne_eq,decide_true,decide_false,tf27, g0, hB2.cell]
            refine fat_ok (by decide) ?_
            simp -dsimp only [↓RE,↓c_seq,RU,RL,if_true,if_false,forall_const,implies_true,Nat.reduceLeDiff,Nat.reduceLT,pureOp,binPure,intBin,strBin,eqPure,isConstO,unPure,sliceLo,sliceHi,slicePure,lenPure,minPure,maxPure,buildP,resK,endV,yieldE,↓reduceIte,Nat.reduceEqDiff,reduceCtorEq,Nat.reduceAdd,Nat.reduceMul,Nat.reduceSub,Int.reduceLT,Int.reduceLE,Int.reduceToNat,Int.reduceAdd,Int.reduceSub,Int.reduceMul,ne_eq,decide_true,decide_false,tf27, g0]
            refine fail_ok hR2 (fun w3 hR3 k3 => ?_)
            simp -dsimp only [↓RE,↓c_seq,RU,RL,if_true,if_false,forall_const,implies_true,Nat.reduceLeDiff,Nat.reduceLT,pureOp,binPure,intBin,strBin,eqPure,isConstO,unPure,sliceLo,sliceHi,slicePure,lenPure,minPure,maxPure,buildP,resK,endV,yieldE,↓reduceIte,Nat.reduceEqDiff,reduceCtorEq,Nat.reduceAdd,Nat.reduceMul,Nat.reduceSub,Int.reduceLT,Int.reduceLE,Int.reduceToNat,Int.reduceAdd,Int.reduceSub,Int.reduceMul,ne_eq,decide_true,decide_false,tf27, g0]
            exact h w3 hR3 (g2.then k3)
          · try simp -dsimp only [↓RE,↓c_seq,RU,RL,if_true,if_false,forall_const,implies_true,Nat.reduceLeDiff,Nat.reduceLT,pureOp,binPure,intBin,strBin,eqPure,isConstO,unPure,sliceLo,sliceHi,slicePure,lenPure,minPure,maxPure,buildP,resK,endV,yieldE,↓reduceIte,Nat.reduceEqDiff,reduceCtorEq,Nat.reduceAdd,Nat.reduceMul,Nat.reduceSub,Int.reduceLT,Int.reduceLE,Int.reduceToNat,Int.reduceAdd,Int.reduceSub,Int.reduceMul,ne_eq,decide_true,decide_false,tf27, g0]
            refine hold_intro ⟨g2, ?_, ?_, ?_, by omega⟩
            · simp -dsimp only [↓RE,↓c_seq,RU,RL,if_true,if_false,forall_const,implies_true,Nat.reduceLeDiff,Nat.reduceLT,pureOp,binPure,intBin,strBin,eqPure,isConstO,unPure,sliceLo,sliceHi,slicePure,lenPure,minPure,maxPure,buildP,resK,endV,yieldE,↓reduceIte,Nat.reduceEqDiff,reduceCtorEq,Nat.reduceAdd,Nat.reduceMul,Nat.reduceSub,Int.reduceLT,Int.reduceLE,Int.reduceToNat,Int.reduceAdd,Int.reduceSub,Int.reduceMul,ne_eq,decide_true,decide_false,tf27, g0]
            · simp -dsimp only [↓RE,↓c_seq,RU,RL,if_true,if_false,forall_const,implies_true,Nat.reduceLeDiff,Nat.reduceLT,pureOp,binPure,intBin,strBin,eqPure,isConstO,unPure,sliceLo,sliceHi,slicePure,lenPure,minPure,maxPure,buildP,resK,endV,yieldE,↓reduceIte,Nat.reduceEqDiff,reduceCtorEq,Nat.reduceAdd,Nat.reduceMul,Nat.reduceSub,Int.reduceLT,Int.reduceLE,Int.reduceToNat,Int.reduceAdd,Int.reduceSub,Int.reduceMul,ne_eq,decide_true,decide_false,tf27, g1]
            · simp -dsimp only [↓RE,↓c_seq,RU,RL,if_true,if_false,forall_const,implies_true,Nat.reduceLeDiff,Nat.reduceLT,pureOp,binPure,intBin,strBin,eqPure,isConstO,unPure,sliceLo,sliceHi,slicePure,lenPure,minPure,maxPure,buildP,resK,endV,yieldE,↓reduceIte,Nat.reduceEqDiff,reduceCtorEq,Nat.reduceAdd,Nat.reduceMul,Nat.reduceSub,Int.reduceLT,Int.reduceLE,Int.reduceToNat,Int.reduceAdd,Int.reduceSub,Int.reduceMul,ne_eq,decide_true,decide_false,tf27, g0]
        · simp -dsimp only [↓RE,↓c_seq,RU,RL,if_true,if_false,forall_const,implies_true,Nat.reduceLeDiff,Nat.reduceLT,pureOp,binPure,intBin,strBin,eqPure,isConstO,unPure,sliceLo,sliceHi,slicePure,lenPure,minPure,maxPure,buildP,resK,endV,yieldE,↓reduceIte,Nat.reduceEqDiff,reduceCtorEq,Nat.reduceAdd,Nat.reduceMul,Nat.reduceSub,Int.reduceLT,Int.reduceLE,Int.reduceToNat,Int.reduceAdd,Int.reduceSub,Int.reduceMul,ne_eq,decide_true,decide_false,tf27, g0, g1, g5, hbo]
          refine hold_intro ⟨Keep.refl _ _, ?_, ?_, ?_, by omega⟩
          · simp -dsimp only [↓RE,↓c_seq,RU,RL,if_true,if_false,forall_const,implies_true,Nat.reduceLeDiff,Nat.reduceLT,pureOp,binPure,intBin,strBin,eqPure,isConstO,unPure,sliceLo,sliceHi,slicePure,lenPure,minPure,maxPure,buildP,resK,endV,yieldE,↓reduceIte,Nat.reduceEqDiff,reduceCtorEq,Nat.reduceAdd,Nat.reduceMul,Nat.reduceSub,Int.reduceLT,Int.reduceLE,Int.reduceToNat,Int.reduceAdd,Int.reduceSub,Int.reduceMul,ne_eq,decide_true,decide_false,tf27, g0]
          · simp -dsimp only [↓RE,↓c_seq,RU,RL,if_true,if_false,forall_const,implies_true,Nat.reduceLeDiff,Nat.reduceLT,pureOp,binPure,intBin,strBin,eqPure,isConstO,unPure,sliceLo,sliceHi,slicePure,lenPure,minPure,maxPure,buildP,resK,endV,yieldE,↓reduceIte,Nat.reduceEqDiff,reduceCtorEq,Nat.reduceAdd,Nat.reduceMul,Nat.reduceSub,Int.reduceLT,Int.reduceLE,Int.reduceToNat,Int.reduceAdd,Int.reduceSub,Int.reduceMul,ne_eq,decide_true,decide_false,tf27, g1]
          · simp -dsimp only [↓RE,↓c_seq,RU,RL,if_true,if_false,forall_const,implies_true,Nat.reduceLeDiff,Nat.reduceLT,pureOp,binPure,intBin,strBin,eqPure,isConstO,unPure,sliceLo,sliceHi,slicePure,lenPure,minPure,maxPure,buildP,resK,endV,yieldE,↓reduceIte,Nat.reduceEqDiff,reduceCtorEq,Nat.reduceAdd,Nat.reduceMul,Nat.reduceSub,Int.reduceLT,Int.reduceLE,Int.reduceToNat,Int.reduceAdd,Int.reduceSub,Int.reduceMul,ne_eq,decide_true,decide_false,tf27, g0]
      · rintro e2 w2 ⟨g2, d0, d1, d6, hen⟩
        rw [if_neg (by omega)] at h
        generalize hm : brought n = m at hbr d1 hen h
        simp -dsimp only [↓RE,↓c_seq,RU,RL,if_true,if_false,forall_const,implies_true,Nat.reduceLeDiff,Nat.reduceLT,pureOp,binPure,intBin,strBin,eqPure,isConstO,unPure,sliceLo,sliceHi,slicePure,lenPure,minPure,maxPure,buildP,resK,endV,yieldE,↓reduceIte,Nat.reduceEqDiff,reduceCtorEq,Nat.reduceAdd,Nat.reduceMul,Nat.reduceSub,Int.reduceLT,Int.reduceLE,Int.reduceToNat,Int.reduceAdd,Int.reduceSub,Int.reduceMul,ne_eq,decide_true,decide_false,tf27, d0, d1, d6]
        refine wpLoop_intro (fun e' w'' => e' 0 = .pointer (some ⟨p, 0, none⟩) ∧ e' 53 = .int .i64 (m : Nat) ∧ ∃ (k : Nat) (q : RS) (v : Int), k ≤ m ∧ e' 54 = .int .i64 (m - k : Nat) ∧ e' 6 = .int .u64 v ∧ 0 ≤ v ∧ v < 2 ^ (m - k) ∧ RAt w'' F p q ∧ RSok q ∧
          k ≤ bitsOpen q + 8 * (q.xs.length - q.pos) ∧ rBitsN k q v = rBitsN m s 0 ∧ Keep (fun k => k = p) w' w'') (fun e' _ => m - (envInt (e' 54)).toNat) ⟨?_, ?_, m, s, 0, Nat.le_refl _, ?_, ?_, by omega, ?_, hR.grow g2, ok, hen, rfl, Keep.mono g2 (fun _ _ h => h.elim)⟩ ?_
        · simp -dsimp only [↓RE,↓c_seq,RU,RL,if_true,if_false,forall_const,implies_true,Nat.reduceLeDiff,Nat.reduceLT,pureOp,binPure,intBin,strBin,eqPure,isConstO,unPure,sliceLo,sliceHi,slicePure,lenPure,minPure,maxPure,buildP,resK,endV,yieldE,↓reduceIte,Nat.reduceEqDiff,reduceCtorEq,Nat.reduceAdd,Nat.reduceMul,Nat.reduceSub,Int.reduceLT,Int.reduceLE,Int.reduceToNat,Int.reduceAdd,Int.reduceSub,Int.reduceMul,ne_eq,decide_true,decide_false,tf27, d0]
        · simp -dsimp only [↓RE,↓c_seq,RU,RL,if_true,if_false,forall_const,implies_true,Nat.reduceLeDiff,Nat.reduceLT,pureOp,binPure,intBin,strBin,eqPure,isConstO,unPure,sliceLo,sliceHi,slicePure,lenPure,minPure,maxPure,buildP,resK,endV,yieldE,↓reduceIte,Nat.reduceEqDiff,reduceCtorEq,Nat.reduceAdd,Nat.reduceMul,Nat.reduceSub,Int.reduceLT,Int.reduceLE,Int.reduceToNat,Int.reduceAdd,Int.reduceSub,Int.reduceMul,ne_eq,decide_true,decide_false,tf27, d1]
        · rw [Nat.sub_self]
          simp -dsimp only [↓RE,↓c_seq,RU,RL,if_true,if_false,forall_const,implies_true,Nat.reduceLeDiff,Nat.reduceLT,pureOp,binPure,intBin,strBin,eqPure,isConstO,unPure,sliceLo,sliceHi,slicePure,lenPure,minPure,maxPure,buildP,resK,endV,yieldE,↓reduceIte,Nat.reduceEqDiff,reduceCtorEq,Nat.reduceAdd,Nat.reduceMul,Nat.reduceSub,Int.reduceLT,Int.reduceLE,Int.reduceToNat,Int.reduceAdd,Int.reduceSub,Int.reduceMul,ne_eq,decide_true,decide_false,tf27, Int.cast_ofNat_Int]
        · simp -dsimp only [↓RE,↓c_seq,RU,RL,if_true,if_false,forall_const,implies_true,Nat.reduceLeDiff,Nat.reduceLT,pureOp,binPure,intBin,strBin,eqPure,isConstO,unPure,sliceLo,sliceHi,slicePure,lenPure,minPure,maxPure,buildP,resK,endV,yieldE,↓reduceIte,Nat.reduceEqDiff,reduceCtorEq,Nat.reduceAdd,Nat.reduceMul,Nat.reduceSub,Int.reduceLT,Int.reduceLE,Int.reduceToNat,Int.reduceAdd,Int.reduceSub,Int.reduceMul,ne_eq,decide_true,decide_false,tf27, d6]
        · rw [Nat.sub_self]; decide
        rintro e3 w3 ⟨f0, f53, k, q, v, hk, f54, f6, v0, v1, hR3, ok3, hen3, hrb, kw3⟩
        obtain ⟨A3, c3, hB3, hRd3, hp3, hc3, hF3⟩ := id hR3
        have hln3 := ok3.len
        have hb83 := ok3.b8
        rw [c_seq]
        simp -dsimp only [↓RE,RU,RL,if_true,if_false,forall_const,implies_true,Nat.reduceLeDiff,Nat.reduceLT,pureOp,binPure,intBin,strBin,eqPure,isConstO,unPure,sliceLo,sliceHi,slicePure,lenPure,minPure,maxPure,buildP,resK,endV,yieldE,↓reduceIte,Nat.reduceEqDiff,reduceCtorEq,Nat.reduceAdd,Nat.reduceMul,Nat.reduceSub,Int.reduceLT,Int.reduceLE,Int.reduceToNat,Int.reduceAdd,Int.reduceSub,Int.reduceMul,ne_eq,decide_true,decide_false,tf27, f0, f53, f54, f6]
        rw [c_seq]
        simp -dsimp only [↓RE,RU,RL,if_true,if_false,forall_const,implies_true,Nat.reduceLeDiff,Nat.reduceLT,pureOp,binPure,intBin,strBin,eqPure,isConstO,unPure,sliceLo,sliceHi,slicePure,lenPure,minPure,maxPure,buildP,resK,endV,yieldE,↓reduceIte,Nat.reduceEqDiff,reduceCtorEq,Nat.reduceAdd,Nat.reduceMul,Nat.reduceSub,Int.reduceLT,Int.reduceLE,Int.reduceToNat,Int.reduceAdd,Int.reduceSub,Int.reduceMul,ne_eq,decide_true,decide_false,tf27, f0, f53, f54, f6]
        refine ⟨fun hlt => ?_, fun hge => ?_⟩
        · obtain ⟨k, rfl⟩ : ∃ j, k = j + 1 := ⟨k - 1, by omega⟩
          obtain ⟨oks, hens, hpb, hp0⟩ := bitStep_ok ok3 (by omega)
          have hb01 := bitAt_01 q
          have hrb2 : rBitsN k (bitStep q) (v * 2 + bitAt q) = rBitsN m s 0 := hrb
          rw [c_seq]
          simp -dsimp only [↓RE,RU,RL,if_true,if_false,forall_const,implies_true,Nat.reduceLeDiff,Nat.reduceLT,pureOp,binPure,intBin,strBin,eqPure,isConstO,unPure,sliceLo,sliceHi,slicePure,lenPure,minPure,maxPure,buildP,resK,endV,yieldE,↓reduceIte,Nat.reduceEqDiff,reduceCtorEq,Nat.reduceAdd,Nat.reduceMul,Nat.reduceSub,Int.reduceLT,Int.reduceLE,Int.reduceToNat,Int.reduceAdd,Int.reduceSub,Int.reduceMul,ne_eq,decide_true,decide_false,tf27, f0, f53, f54, f6]
          refine c_seq_cut (fun e4 w4 => e4 0 = .pointer (some ⟨p, 0, none⟩) ∧ e4 53 = .int .i64 (m : Nat) ∧ e4 54 = .int .i64 (m - (k + 1) : Nat) ∧ e4 6 = .int .u64 v ∧ Blk w4 p 112 [.slice A3 q.xs.length c3, .int .i64 (bitPos q : Nat), .int .i64 q.bits, errV q.fault] ∧ Rd w4 A3 q.xs.length 1 (q.xs.map (Value.int .u8)) ∧ Keep (fun k => k = p) w' w4) ?_ ?_
          · simp -dsimp only [↓RE,↓c_seq,RU,RL,if_true,if_false,forall_const,implies_true,Nat.reduceLeDiff,Nat.reduceLT,pureOp,binPure,intBin,strBin,eqPure,isConstO,unPure,sliceLo,sliceHi,slicePure,lenPure,minPure,maxPure,buildP,resK,endV,yieldE,↓reduceIte,Nat.reduceEqDiff,reduceCtorEq,Nat.reduceAdd,Nat.reduceMul,Nat.reduceSub,Int.reduceLT,Int.reduceLE,Int.reduceToNat,Int.reduceAdd,Int.reduceSub,Int.reduceMul,ne_eq,decide_true,decide_false,tf27, f0, f53, f54, f6, hB3.cell]
            refine ⟨fun hz => ?_, fun hz => ?_⟩
            · have hbp : bitPos q = q.pos + 1 := if_pos (by omega)
              have hwp : IntKind.i64.wrap ((q.pos : Int) + 1) = ((q.pos + 1 : Nat) : Int) := by rw [wrap_i64_in (by omega) (by omega)]; rfl
              try simp -dsimp only [↓RE,↓c_seq,RU,RL,if_true,if_false,forall_const,implies_true,Nat.reduceLeDiff,Nat.reduceLT,pureOp,binPure,intBin,strBin,eqPure,isConstO,unPure,sliceLo,sliceHi,slicePure,lenPure,minPure,maxPure,buildP,resK,endV,yieldE,↓reduceIte,Nat.reduceEqDiff,reduceCtorEq,Nat.reduceAdd,Nat.reduceMul,Nat.reduceSub,Int.reduceLT,Int.reduceLE,Int.reduceToNat,Int.reduceAdd,Int.reduceSub,Int.reduceMul,ne_eq,decide_true,decide_false,tf27, f0, f53, f54, f6, hB3.cell, hwp]
              refine hB3.st (by simp) ?_
              have k4 := Keep.set1 w3 p 1 (.int .i64 ((q.pos + 1 : Nat) : Int))
              try simp -dsimp only [↓RE,↓c_seq,RU,RL,if_true,if_false,forall_const,implies_true,Nat.reduceLeDiff,Nat.reduceLT,pureOp,binPure,intBin,strBin,eqPure,isConstO,unPure,sliceLo,sliceHi,slicePure,lenPure,minPure,maxPure,buildP,resK,endV,yieldE,↓reduceIte,Nat.reduceEqDiff,reduceCtorEq,Nat.reduceAdd,Nat.reduceMul,Nat.reduceSub,Int.reduceLT,Int.reduceLE,Int.reduceToNat,Int.reduceAdd,Int.reduceSub,Int.reduceMul,ne_eq,decide_true,decide_false,tf27, f0, f53, f54, f6]
              refine hold_intro ⟨?_, ?_, ?_, ?_, by rw [hbp]; exact hB3.set 1 _, hRd3.keep0 k4 (fun h0 k hk e => hp3 h0 (e ▸ hk)), kw3.trans k4 (fun _ _ h => h) (fun _ _ h => h)⟩ <;> simp -dsimp only [↓RE,↓c_seq,RU,RL,if_true,if_false,forall_const,implies_true,Nat.reduceLeDiff,Nat.reduceLT,pureOp,binPure,intBin,strBin,eqPure,isConstO,unPure,sliceLo,sliceHi,slicePure,lenPure,minPure,maxPure,buildP,resK,endV,yieldE,↓reduceIte,Nat.reduceEqDiff,reduceCtorEq,Nat.reduceAdd,Nat.reduceMul,Nat.reduceSub,Int.reduceLT,Int.reduceLE,Int.reduceToNat,Int.reduceAdd,Int.reduceSub,Int.reduceMul,ne_eq,decide_true,decide_false,tf27, f0, f53, f54, f6]
            · have hbp : bitPos q = q.pos := if_neg (by omega)
              try simp -dsimp only [↓RE,↓c_seq,RU,RL,if_true,if_false,forall_const,implies_true,Nat.reduceLeDiff,Nat.reduceLT,pureOp,binPure,intBin,strBin,eqPure,isConstO,unPure,sliceLo,sliceHi,slicePure,lenPure,minPure,maxPure,buildP,resK,endV,yieldE,↓reduceIte,Nat.reduceEqDiff,reduceCtorEq,Nat.reduceAdd,Nat.reduceMul,Nat.reduceSub,Int.reduceLT,Int.reduceLE,Int.reduceToNat,Int.reduceAdd,Int.reduceSub,Int.reduceMul,ne_eq,decide_true,decide_false,tf27, f0, f53, f54, f6]
              refine hold_intro ⟨?_, ?_, ?_, ?_, by rw [hbp]; exact hB3, hRd3, kw3⟩ <;> simp -dsimp only [↓RE,↓c_seq,RU,RL,if_true,if_false,forall_const,implies_true,Nat.reduceLeDiff,Nat.reduceLT,pureOp,binPure,intBin,strBin,eqPure,isConstO,unPure,sliceLo,sliceHi,slicePure,lenPure,minPure,maxPure,buildP,resK,endV,yieldE,↓reduceIte,Nat.reduceEqDiff,reduceCtorEq,Nat.reduceAdd,Nat.reduceMul,Nat.reduceSub,Int.reduceLT,Int.reduceLE,Int.reduceToNat,Int.reduceAdd,Int.reduceSub,Int.reduceMul,ne_eq,decide_true,decide_false,tf27, f0, f53, f54, f6]
          rintro e4 w4 ⟨d0', d53, d54, d6', hB4, hRd4, kw4⟩
          obtain ⟨ad, rfl, hcell⟩ := hRd4.int (k := bitPos q - 1) (by omega)
          have hbr4 := getD_mem_range ok3.bytes (bitPos q - 1)
          have hwb : IntKind.i64.wrap (((bitPos q : Nat) : Int) - 1) = ((bitPos q - 1 : Nat) : Int) := by rw [wrap_i64_in (by omega) (by omega)]; omega
          have hw7 : IntKind.i64.wrap (7 - (q.bits : Int)) = ((7 - q.bits : Nat) : Int) := by rw [wrap_i64_in (by omega) (by omega)]; omega
          have hp63 : (2 : Int) ^ (m - (k + 1)) ≤ 9223372036854775808 := by
            have h1 : (2 : Nat) ^ (m - (k + 1)) ≤ 2 ^ 63 := Nat.pow_le_pow_right (by omega) (by omega)
            have h2 : ((2 ^ (m - (k + 1)) : Nat) : Int) ≤ ((2 ^ 63 : Nat) : Int) := by omega
            simpa using h2
          have hv2 : v * 2 % 18446744073709551616 = v * 2 := Int.emod_eq_of_lt (by omega) (by omega)
          have hsh : shrOp .u8 (q.xs.getD (bitPos q - 1) 0) ((7 - q.bits : Nat) : Int) = q.xs.getD (bitPos q - 1) 0 / 2 ^ (7 - q.bits) := shr_eq .u8 _ _ (by simp [IntKind.bits]; omega) _ rfl
          have hand : bitsOp .and .u8 (q.xs.getD (bitPos q - 1) 0 / 2 ^ (7 - q.bits)) 1 = bitAt q :=
            and_u8_1 (Int.ediv_nonneg hbr4.1 (Int.le_of_lt (pow_pos2 _))) (Int.lt_of_le_of_lt (Int.ediv_le_self _ hbr4.1) hbr4.2)
          have hcv : bitAt q % 18446744073709551616 = bitAt q := by omega
          have hor : bitsOp .or .u64 (v * 2) (bitAt q) = v * 2 + bitAt q := or_join_u64 1 (by omega) (by omega) (by omega) (by omega) (by omega) (by omega)
          rw [c_seq]
          simp -dsimp only [↓RE,RU,RL,if_true,if_false,forall_const,implies_true,Nat.reduceLeDiff,Nat.reduceLT,pureOp,binPure,intBin,strBin,eqPure,isConstO,unPure,sliceLo,sliceHi,slicePure,lenPure,minPure,maxPure,buildP,resK,endV,yieldE,↓reduceIte,Nat.reduceEqDiff,reduceCtorEq,Nat.reduceAdd,Nat.reduceMul,Nat.reduceSub,Int.reduceLT,Int.reduceLE,Int.reduceToNat,Int.reduceAdd,Int.reduceSub,Int.reduceMul,ne_eq,decide_true,decide_false,tf27, d0', d53, d54, d6']
          refine wpDraw_still (by kernel_rfl) ?_
          simp -dsimp only [↓RE,RU,RL,if_true,if_false,forall_const,implies_true,Nat.reduceLeDiff,Nat.reduceLT,pureOp,binPure,intBin,strBin,eqPure,isConstO,unPure,sliceLo,sliceHi,slicePure,lenPure,minPure,maxPure,buildP,resK,endV,yieldE,↓reduceIte,Nat.reduceEqDiff,reduceCtorEq,Nat.reduceAdd,Nat.reduceMul,Nat.reduceSub,Int.reduceLT,Int.reduceLE,Int.reduceToNat,Int.reduceAdd,Int.reduceSub,Int.reduceMul,ne_eq,decide_true,decide_false,tf27, d0', d53, d54, d6', World.cell?_drew, hB4.cell, hwb, hw7, shl_u64_1, hv2, hcell, hsh, hand, wrap_u64, hcv, hor]
          refine ⟨⟨by omega, by omega⟩, by omega, by omega, ?_⟩
          rw [bits_mod hb83]
          refine Blk.st (w := w4.drew) hB4 (by simp) ?_
          have k5 : Keep (fun k => k = p) w4 (w4.drew.setCell ⟨p, 2, none⟩ (.int .i64 ((q.bits + 1) % 8 : Nat))) := (Grow.drew w4).then (Keep.set1 w4.drew p 2 _)
          try simp -dsimp only [↓RE,↓c_seq,RU,RL,if_true,if_false,forall_const,implies_true,Nat.reduceLeDiff,Nat.reduceLT,pureOp,binPure,intBin,strBin,eqPure,isConstO,unPure,sliceLo,sliceHi,slicePure,lenPure,minPure,maxPure,buildP,resK,endV,yieldE,↓reduceIte,Nat.reduceEqDiff,reduceCtorEq,Nat.reduceAdd,Nat.reduceMul,Nat.reduceSub,Int.reduceLT,Int.reduceLE,Int.reduceToNat,Int.reduceAdd,Int.reduceSub,Int.reduceMul,ne_eq,decide_true,decide_false,tf27, d0', d53, d54, d6']
          refine hold_intro ⟨⟨?_, ?_, k, bitStep q, v * 2 + bitAt q, by omega, ?_, ?_, by omega, ?_, ⟨some ad, c3, Blk.set (w := w4.drew) hB4 2 _, hRd4.keep0 k5 (fun h0 k hk e => hp3 h0 (e ▸ hk)), hp3, hc3, hF3⟩, oks, by omega, hrb2, kw4.trans k5 (fun _ _ h => h) (fun _ _ h => h)⟩, ?_⟩
          · simp -dsimp only [↓RE,↓c_seq,RU,RL,if_true,if_false,forall_const,implies_true,Nat.reduceLeDiff,Nat.reduceLT,pureOp,binPure,intBin,strBin,eqPure,isConstO,unPure,sliceLo,sliceHi,slicePure,lenPure,minPure,maxPure,buildP,resK,endV,yieldE,↓reduceIte,Nat.reduceEqDiff,reduceCtorEq,Nat.reduceAdd,Nat.reduceMul,Nat.reduceSub,Int.reduceLT,Int.reduceLE,Int.reduceToNat,Int.reduceAdd,Int.reduceSub,Int.reduceMul,ne_eq,decide_true,decide_false,tf27, d0', d53, d54, d6']
          · simp -dsimp only [↓RE,↓c_seq,RU,RL,if_true,if_false,forall_const,implies_true,Nat.reduceLeDiff,Nat.reduceLT,pureOp,binPure,intBin,strBin,eqPure,isConstO,unPure,sliceLo,sliceHi,slicePure,lenPure,minPure,maxPure,buildP,resK,endV,yieldE,↓reduceIte,Nat.reduceEqDiff,reduceCtorEq,Nat.reduceAdd,Nat.reduceMul,Nat.reduceSub,Int.reduceLT,Int.reduceLE,Int.reduceToNat,Int.reduceAdd,Int.reduceSub,Int.reduceMul,ne_eq,decide_true,decide_false,tf27, d0', d53, d54, d6']
          · simp -dsimp only [↓RE,↓c_seq,RU,RL,if_true,if_false,forall_const,implies_true,Nat.reduceLeDiff,Nat.reduceLT,pureOp,binPure,intBin,strBin,eqPure,isConstO,unPure,sliceLo,sliceHi,slicePure,lenPure,minPure,maxPure,buildP,resK,endV,yieldE,↓reduceIte,Nat.reduceEqDiff,reduceCtorEq,Nat.reduceAdd,Nat.reduceMul,Nat.reduceSub,Int.reduceLT,Int.reduceLE,Int.reduceToNat,Int.reduceAdd,Int.reduceSub,Int.reduceMul,ne_eq,decide_true,decide_false,tf27, d0', d53, d54, d6']
            rw [wrap_i64_in (by omega) (by omega)]; congr 1; omega
          · simp -dsimp only [↓RE,↓c_seq,RU,RL,if_true,if_false,forall_const,implies_true,Nat.reduceLeDiff,Nat.reduceLT,pureOp,binPure,intBin,strBin,eqPure,isConstO,unPure,sliceLo,sliceHi,slicePure,lenPure,minPure,maxPure,buildP,resK,endV,yieldE,↓reduceIte,Nat.reduceEqDiff,reduceCtorEq,Nat.reduceAdd,Nat.reduceMul,Nat.reduceSub,Int.reduceLT,Int.reduceLE,Int.reduceToNat,Int.reduceAdd,Int.reduceSub,Int.reduceMul,ne_eq,decide_true,decide_false,tf27, d0', d53, d54, d6', shl_u64_1, hv2, hand, hsh, hcell, wrap_u64, hcv, hor]
          · rw [show m - k = (m - (k + 1)) + 1 by omega, Int.pow_succ]; omega
          · simp -dsimp only [↓RE,↓c_seq,RU,RL,if_true,if_false,forall_const,implies_true,Nat.reduceLeDiff,Nat.reduceLT,pureOp,binPure,intBin,strBin,eqPure,isConstO,unPure,sliceLo,sliceHi,slicePure,lenPure,minPure,maxPure,buildP,resK,endV,yieldE,↓reduceIte,Nat.reduceEqDiff,reduceCtorEq,Nat.reduceAdd,Nat.reduceMul,Nat.reduceSub,Int.reduceLT,Int.reduceLE,Int.reduceToNat,Int.reduceAdd,Int.reduceSub,Int.reduceMul,ne_eq,decide_true,decide_false,tf27, d0', d53, d54, d6', f54]
            rw [wrap_i64_in (by omega) (by omega), envInt_int, envInt_int]; omega
        · obtain rfl : k = 0 := by omega
          have e0 : (q, v) = rBitsN m s 0 := hrb
          rw [← e0] at h
          try simp -dsimp only [↓RE,↓c_seq,RU,RL,if_true,if_false,forall_const,implies_true,Nat.reduceLeDiff,Nat.reduceLT,pureOp,binPure,intBin,strBin,eqPure,isConstO,unPure,sliceLo,sliceHi,slicePure,lenPure,minPure,maxPure,buildP,resK,endV,yieldE,↓reduceIte,Nat.reduceEqDiff,reduceCtorEq,Nat.reduceAdd,Nat.reduceMul,Nat.reduceSub,Int.reduceLT,Int.reduceLE,Int.reduceToNat,Int.reduceAdd,Int.reduceSub,Int.reduceMul,ne_eq,decide_true,decide_false,tf27, f0, f53, f54, f6]
          exact h w3 hR3 kw3

end Go.Proofs.Ytcjlhfmjcioeeaa
