/- More reads of wire.Reader: Uint, Int, Fault, Done, Raw, Text. -/
import Derived.Test.YtcjlhfmjcioeeaaRnum
import Derived.Test.YtcjlhfmjcioeeaaText
import Derived.Laws.DeepNot64
set_option linter.unusedVariables false
set_option linter.unusedSimpArgs false
set_option maxRecDepth 100000
namespace Go.Proofs.Ytcjlhfmjcioeeaa
open Go

theorem uintR_ok {w : World} {F : Nat → Prop} {p : Nat} {s : RS} (hR : RAt w F p s) (ok : RSok s) {most : Int} (m0 : 0 ≤ most) {R : VWK}
    (h : ∀ w', RAt w' F p (rNumber most 2 s).1 → Keep (fun k => k = p) w w' → R (.int .u64 (rNumber most 2 s).2) w') :
    CallsV Try.prog 24 [.pointer (some ⟨p, 0, none⟩), .int .u64 most] w R := by
  refine calls_of_wpC mixed Try.func24 rfl (by kernel_rfl) ?_
  intro e he
  have he0 := he 0
  have he1 := he 1
  simp only [List.getD_cons_zero, List.getD_cons_succ] at he0 he1
  clear he
  simp -dsimp only [↓RE,↓c_seq,RU,RL,if_true,if_false,forall_const,implies_true,Nat.reduceLeDiff,Nat.reduceLT,pureOp,binPure,intBin,strBin,eqPure,isConstO,unPure,sliceLo,sliceHi,slicePure,lenPure,minPure,maxPure,buildP,resK,endV,yieldE,↓reduceIte,Nat.reduceEqDiff,reduceCtorEq,Nat.reduceAdd,Nat.reduceMul,Nat.reduceSub,Int.reduceLT,Int.reduceLE,Int.reduceToNat,Int.reduceAdd,Int.reduceSub,Int.reduceMul,ne_eq,decide_true,decide_false,tf24, he0, he1]
  refine number_ok hR ok m0 (by decide) (fun w1 hR1 k1 => ?_)
  simp -dsimp only [↓RE,↓c_seq,RU,RL,if_true,if_false,forall_const,implies_true,Nat.reduceLeDiff,Nat.reduceLT,pureOp,binPure,intBin,strBin,eqPure,isConstO,unPure,sliceLo,sliceHi,slicePure,lenPure,minPure,maxPure,buildP,resK,endV,yieldE,↓reduceIte,Nat.reduceEqDiff,reduceCtorEq,Nat.reduceAdd,Nat.reduceMul,Nat.reduceSub,Int.reduceLT,Int.reduceLE,Int.reduceToNat,Int.reduceAdd,Int.reduceSub,Int.reduceMul,ne_eq,decide_true,decide_false,tf24, he0]
  exact h w1 hR1 k1

def unfoldI (v : Int) : Int := if v % 2 = 0 then v / 2 else -(v / 2) - 1
theorem rNumber_range {s : RS} (ok : RSok s) (most above : Int) : 0 ≤ (rNumber most above s).2 ∧ (rNumber most above s).2 < 18446744073709551616 := by
  unfold rNumber
  split
  · split
    · simp
    · rename_i v i hs
      split
      · simp
      · exact scan_range _ _ _ _ (fun z hz => ok.bytes z (List.mem_of_mem_drop hz)) (by omega) (by omega) (by simp) hs
  · simp
theorem xor_i64_zero {x : Int} (h0 : 0 ≤ x) (h1 : x < 9223372036854775808) : bitsOp .xor .i64 x 0 = x := by
  rw [bitsOp_eq _ _ _ _ (by simp)]
  show IntKind.i64.wrap ((BitVec.ofInt 64 x ^^^ BitVec.ofInt 64 0).toNat : Int) = x
  rw [show BitVec.ofInt 64 0 = 0#64 from rfl, BitVec.xor_zero, BitVec.toNat_ofInt]
  rw [wrap_i64_in (by omega) (by omega)]
  omega
theorem xor_i64_ones {x : Int} (h0 : 0 ≤ x) (h1 : x < 9223372036854775808) : bitsOp .xor .i64 x (-1) = -x - 1 := by
  rw [bitsOp_eq _ _ _ _ (by simp)]
  obtain ⟨a, rfl⟩ := Int.eq_ofNat_of_zero_le h0
  have h := i64_not a (by omega)
  have e : bits .xor .i64 (a : Int) (-1) = bits .xor .i64 (-1) (a : Int) := by
    show IntKind.i64.wrap ((BitVec.ofInt 64 (a : Int) ^^^ BitVec.ofInt 64 (-1)).toNat : Int) = IntKind.i64.wrap ((BitVec.ofInt 64 (-1) ^^^ BitVec.ofInt 64 (a : Int)).toNat : Int)
    rw [BitVec.xor_comm]
  rw [e, h]; omega
theorem intR_ok {w : World} {F : Nat → Prop} {p : Nat} {s : RS} (hR : RAt w F p s) (ok : RSok s) {R : VWK}
    (h : ∀ w', RAt w' F p (rNumber 18446744073709551615 2 s).1 → Keep (fun k => k = p) w w' → R (.int .i64 (unfoldI (rNumber 18446744073709551615 2 s).2)) w') :
    CallsV Try.prog 25 [.pointer (some ⟨p, 0, none⟩)] w R := by
  have hr := rNumber_range ok 18446744073709551615 2
  refine calls_of_wpC mixed Try.func25 rfl (by kernel_rfl) ?_
  intro e he
  have he0 := he 0
  simp only [List.getD_cons_zero, List.getD_cons_succ] at he0
  clear he
  simp -dsimp only [↓RE,↓c_seq,RU,RL,if_true,if_false,forall_const,implies_true,Nat.reduceLeDiff,Nat.reduceLT,pureOp,binPure,intBin,strBin,eqPure,isConstO,unPure,sliceLo,sliceHi,slicePure,lenPure,minPure,maxPure,buildP,resK,endV,yieldE,↓reduceIte,Nat.reduceEqDiff,reduceCtorEq,Nat.reduceAdd,Nat.reduceMul,Nat.reduceSub,Int.reduceLT,Int.reduceLE,Int.reduceToNat,Int.reduceAdd,Int.reduceSub,Int.reduceMul,ne_eq,decide_true,decide_false,tf25, he0]
  refine number_ok hR ok (by omega) (by decide) (fun w1 hR1 k1 => ?_)
  have h := h w1 hR1 k1
  generalize (rNumber 18446744073709551615 2 s).2 = v at h hr
  have hand := and_u64_1 hr.1 hr.2
  have e1 : IntKind.i64.wrap (v / 2) = v / 2 := wrap_i64_in (by omega) (by omega)
  have e2 : IntKind.i64.wrap (v % 2) = v % 2 := wrap_i64_in (by omega) (by omega)
  have e3 : IntKind.i64.wrap (0 - v % 2) = - (v % 2) := by rw [wrap_i64_in (by omega) (by omega)]; omega
  simp -dsimp only [↓RE,↓c_seq,RU,RL,if_true,if_false,forall_const,implies_true,Nat.reduceLeDiff,Nat.reduceLT,pureOp,binPure,intBin,strBin,eqPure,isConstO,unPure,sliceLo,sliceHi,slicePure,lenPure,minPure,maxPure,buildP,resK,endV,yieldE,↓reduceIte,Nat.reduceEqDiff,reduceCtorEq,Nat.reduceAdd,Nat.reduceMul,Nat.reduceSub,Int.reduceLT,Int.reduceLE,Int.reduceToNat,Int.reduceAdd,Int.reduceSub,Int.reduceMul,ne_eq,decide_true,decide_false,tf25, he0, shr_u64_1, hand, e1, e2, e3]
  unfold unfoldI at h
  by_cases hv : v % 2 = 0
  · rw [if_pos hv] at h
    rw [hv, Int.neg_zero, xor_i64_zero (by omega) (by omega)]
    exact h
  · rw [if_neg hv] at h
    rw [show v % 2 = 1 by omega, xor_i64_ones (by omega) (by omega)]
    exact h

theorem faultR_ok {w : World} {F : Nat → Prop} {p : Nat} {s : RS} (hR : RAt w F p s) {R : VWK} (h : R (errV s.fault) w) : CallsV Try.prog 82 [.pointer (some ⟨p, 0, none⟩)] w R := by
  obtain ⟨A, c, hB, hRd, hp, hc, hF⟩ := hR
  refine calls_of_wpC mixed Try.func82 rfl (by kernel_rfl) ?_
  intro e he
  have he0 := he 0
  simp only [List.getD_cons_zero, List.getD_cons_succ] at he0
  clear he
  simp -dsimp only [↓RE,↓c_seq,RU,RL,if_true,if_false,forall_const,implies_true,Nat.reduceLeDiff,Nat.reduceLT,pureOp,binPure,intBin,strBin,eqPure,isConstO,unPure,sliceLo,sliceHi,slicePure,lenPure,minPure,maxPure,buildP,resK,endV,yieldE,↓reduceIte,Nat.reduceEqDiff,reduceCtorEq,Nat.reduceAdd,Nat.reduceMul,Nat.reduceSub,Int.reduceLT,Int.reduceLE,Int.reduceToNat,Int.reduceAdd,Int.reduceSub,Int.reduceMul,ne_eq,decide_true,decide_false,tf82, he0, hB.cell]
  exact h

def rDone (s : RS) : Option (TypeId × Value) :=
  if s.fault ≠ none then s.fault
  else if rRest s then errAt (s.pos - 1) 31
  else if s.pos < s.xs.length then errAt s.pos 33
  else none
theorem doneR_ok {w : World} {F : Nat → Prop} {p : Nat} {s : RS} (hR : RAt w F p s) (ok : RSok s) {R : VWK} (h : ∀ w', Grow w w' → R (errV (rDone s)) w') :
    CallsV Try.prog 29 [.pointer (some ⟨p, 0, none⟩)] w R := by
  have hle := ok.le
  have hln := ok.len
  have hb1 := ok.b1
  unfold rDone at h
  refine calls_of_wpC mixed Try.func29 rfl (by kernel_rfl) ?_
  intro e he
  have he0 := he 0
  simp only [List.getD_cons_zero, List.getD_cons_succ] at he0
  clear he
  simp -dsimp only [↓RE,↓c_seq,RU,RL,if_true,if_false,forall_const,implies_true,Nat.reduceLeDiff,Nat.reduceLT,pureOp,binPure,intBin,strBin,eqPure,isConstO,unPure,sliceLo,sliceHi,slicePure,lenPure,minPure,maxPure,buildP,resK,endV,yieldE,↓reduceIte,Nat.reduceEqDiff,reduceCtorEq,Nat.reduceAdd,Nat.reduceMul,Nat.reduceSub,Int.reduceLT,Int.reduceLE,Int.reduceToNat,Int.reduceAdd,Int.reduceSub,Int.reduceMul,ne_eq,decide_true,decide_false,tf29, he0]
  refine faultR_ok hR ?_
  cases hf : s.fault with
  | some x =>
    rw [if_pos (by simp [hf])] at h
    simp -dsimp only [↓RE,↓c_seq,RU,RL,if_true,if_false,forall_const,implies_true,Nat.reduceLeDiff,Nat.reduceLT,pureOp,binPure,intBin,strBin,eqPure,isConstO,unPure,sliceLo,sliceHi,slicePure,lenPure,minPure,maxPure,buildP,resK,endV,yieldE,↓reduceIte,Nat.reduceEqDiff,reduceCtorEq,Nat.reduceAdd,Nat.reduceMul,Nat.reduceSub,Int.reduceLT,Int.reduceLE,Int.reduceToNat,Int.reduceAdd,Int.reduceSub,Int.reduceMul,ne_eq,decide_true,decide_false,tf29, he0, errV]
    refine faultR_ok hR ?_
    simp -dsimp only [↓RE,↓c_seq,RU,RL,if_true,if_false,forall_const,implies_true,Nat.reduceLeDiff,Nat.reduceLT,pureOp,binPure,intBin,strBin,eqPure,isConstO,unPure,sliceLo,sliceHi,slicePure,lenPure,minPure,maxPure,buildP,resK,endV,yieldE,↓reduceIte,Nat.reduceEqDiff,reduceCtorEq,Nat.reduceAdd,Nat.reduceMul,Nat.reduceSub,Int.reduceLT,Int.reduceLE,Int.reduceToNat,Int.reduceAdd,Int.reduceSub,Int.reduceMul,ne_eq,decide_true,decide_false,tf29, he0, errV]
    exact h w (Keep.refl _ _)
  | none =>
    rw [if_neg (by simp [hf])] at h
    simp -dsimp only [↓RE,↓c_seq,RU,RL,if_true,if_false,forall_const,implies_true,Nat.reduceLeDiff,Nat.reduceLT,pureOp,binPure,intBin,strBin,eqPure,isConstO,unPure,sliceLo,sliceHi,slicePure,lenPure,minPure,maxPure,buildP,resK,endV,yieldE,↓reduceIte,Nat.reduceEqDiff,reduceCtorEq,Nat.reduceAdd,Nat.reduceMul,Nat.reduceSub,Int.reduceLT,Int.reduceLE,Int.reduceToNat,Int.reduceAdd,Int.reduceSub,Int.reduceMul,ne_eq,decide_true,decide_false,tf29, he0, errV]
    refine rest_ok hR ok (fun w1 g1 => ?_)
    have hR1 := hR.grow g1
    obtain ⟨A, c, hB, hRd, hp, hc, hF⟩ := id hR1
    cases hr : rRest s with
    | true =>
      rw [hr, if_pos rfl] at h
      have hb : 0 < s.bits := by simp [rRest] at hr; exact hr.1
      have hp0 := hb1 hb
      have hw : IntKind.i64.wrap ((s.pos : Int) - 1) = ((s.pos - 1 : Nat) : Int) := by rw [wrap_i64_in (by omega) (by omega)]; omega
      simp -dsimp only [↓RE,↓c_seq,RU,RL,if_true,if_false,forall_const,implies_true,Nat.reduceLeDiff,Nat.reduceLT,pureOp,binPure,intBin,strBin,eqPure,isConstO,unPure,sliceLo,sliceHi,slicePure,lenPure,minPure,maxPure,buildP,resK,endV,yieldE,↓reduceIte,Nat.reduceEqDiff,reduceCtorEq,Nat.reduceAdd,Nat.reduceMul,Nat.reduceSub,Int.reduceLT,Int.reduceLE,Int.reduceToNat,Int.reduceAdd,Int.reduceSub,Int.reduceMul,ne_eq,decide_true,decide_false,tf29, he0, hB.cell, hw]
      refine fat_ok (by decide) ?_
      simp -dsimp only [↓RE,↓c_seq,RU,RL,if_true,if_false,forall_const,implies_true,Nat.reduceLeDiff,Nat.reduceLT,pureOp,binPure,intBin,strBin,eqPure,isConstO,unPure,sliceLo,sliceHi,slicePure,lenPure,minPure,maxPure,buildP,resK,endV,yieldE,↓reduceIte,Nat.reduceEqDiff,reduceCtorEq,Nat.reduceAdd,Nat.reduceMul,Nat.reduceSub,Int.reduceLT,Int.reduceLE,Int.reduceToNat,Int.reduceAdd,Int.reduceSub,Int.reduceMul,ne_eq,decide_true,decide_false,tf29, he0]
      exact h w1 g1
    | false =>
      rw [hr, if_neg (by simp)] at h
      simp -dsimp only [↓RE,↓c_seq,RU,RL,if_true,if_false,forall_const,implies_true,Nat.reduceLeDiff,Nat.reduceLT,pureOp,binPure,intBin,strBin,eqPure,isConstO,unPure,sliceLo,sliceHi,slicePure,lenPure,minPure,maxPure,buildP,resK,endV,yieldE,↓reduceIte,Nat.reduceEqDiff,reduceCtorEq,Nat.reduceAdd,Nat.reduceMul,Nat.reduceSub,Int.reduceLT,Int.reduceLE,Int.reduceToNat,Int.reduceAdd,Int.reduceSub,Int.reduceMul,ne_eq,decide_true,decide_false,tf29, he0]
      refine left_ok hR1 ok (fun w2 g2 => ?_)
      simp -dsimp only [↓RE,↓c_seq,RU,RL,if_true,if_false,forall_const,implies_true,Nat.reduceLeDiff,Nat.reduceLT,pureOp,binPure,intBin,strBin,eqPure,isConstO,unPure,sliceLo,sliceHi,slicePure,lenPure,minPure,maxPure,buildP,resK,endV,yieldE,↓reduceIte,Nat.reduceEqDiff,reduceCtorEq,Nat.reduceAdd,Nat.reduceMul,Nat.reduceSub,Int.reduceLT,Int.reduceLE,Int.reduceToNat,Int.reduceAdd,Int.reduceSub,Int.reduceMul,ne_eq,decide_true,decide_false,tf29, he0, (hB.grow g2).cell]
      refine ⟨fun hgt => ?_, fun hng => ?_⟩
      · rw [if_pos (by omega)] at h
        try simp -dsimp only [↓RE,↓c_seq,RU,RL,if_true,if_false,forall_const,implies_true,Nat.reduceLeDiff,Nat.reduceLT,pureOp,binPure,intBin,strBin,eqPure,isConstO,unPure,sliceLo,sliceHi,slicePure,lenPure,minPure,maxPure,buildP,resK,endV,yieldE,↓reduceIte,Nat.reduceEqDiff,reduceCtorEq,Nat.reduceAdd,Nat.reduceMul,Nat.reduceSub,Int.reduceLT,Int.reduceLE,Int.reduceToNat,Int.reduceAdd,Int.reduceSub,Int.reduceMul,ne_eq,decide_true,decide_false,tf29, he0, (hB.grow g2).cell]
        refine fat_ok (by decide) ?_
        simp -dsimp only [↓RE,↓c_seq,RU,RL,if_true,if_false,forall_const,implies_true,Nat.reduceLeDiff,Nat.reduceLT,pureOp,binPure,intBin,strBin,eqPure,isConstO,unPure,sliceLo,sliceHi,slicePure,lenPure,minPure,maxPure,buildP,resK,endV,yieldE,↓reduceIte,Nat.reduceEqDiff,reduceCtorEq,Nat.reduceAdd,Nat.reduceMul,Nat.reduceSub,Int.reduceLT,Int.reduceLE,Int.reduceToNat,Int.reduceAdd,Int.reduceSub,Int.reduceMul,ne_eq,decide_true,decide_false,tf29, he0]
        exact h w2 (g1.trans g2)
      · rw [if_neg (by omega)] at h
        try simp -dsimp only [↓RE,↓c_seq,RU,RL,if_true,if_false,forall_const,implies_true,Nat.reduceLeDiff,Nat.reduceLT,pureOp,binPure,intBin,strBin,eqPure,isConstO,unPure,sliceLo,sliceHi,slicePure,lenPure,minPure,maxPure,buildP,resK,endV,yieldE,↓reduceIte,Nat.reduceEqDiff,reduceCtorEq,Nat.reduceAdd,Nat.reduceMul,Nat.reduceSub,Int.reduceLT,Int.reduceLE,Int.reduceToNat,Int.reduceAdd,Int.reduceSub,Int.reduceMul,ne_eq,decide_true,decide_false,tf29, he0]
        exact h w2 (g1.trans g2)

end Go.Proofs.Ytcjlhfmjcioeeaa
