/- block.Head: how many samples, from when to when. -/
import Derived.Test.YtpocfghkolppmaaUnpack
set_option linter.unusedVariables false
set_option linter.unusedSimpArgs false
set_option maxRecDepth 100000
namespace Go.Proofs.Ytpocfghkolppmaa
open Go

def hFrom (b : List Int) : Int := ((uPl b).getD 0 (0, 0, 0)).1
def hTo (b : List Int) : Int := ((uPl b).getD ((uPl b).length - 1) (0, 0, 0)).1
theorem head_ok {w : World} {A : Option Addr} {n c : Nat} {b : List Int} (hR : Rd w A n 1 (b.map (Value.int .u8))) (hb : ∀ z ∈ b, 0 ≤ z ∧ z < 256) (hn : n ≤ 140737488355328) {R : VWK}
    (herr : ∀ x w', uPe b = some x → Grow w w' → R (.tuple #[.int .i64 0, .int .i64 0, .int .i64 0, errV (some x)]) w')
    (h : uPe b = none → ∀ w', Grow w w' → R (.tuple #[.int .i64 ((uPl b).length : Nat), .int .i64 (hFrom b), .int .i64 (hTo b), .nilIface]) w') :
    CallsV Try.prog 9 [.slice A n c] w R := by
  have hl := hR.len1
  have hul := uT_len (kX b)
  have hzl : (uPl b).length ≤ 1048576 := by unfold uPl; rw [List.length_zip]; omega
  refine calls_of_wpC mixed Try.func9 rfl (by kernel_rfl) ?_
  intro e he
  have he0 := he 0
  simp only [List.getD_cons_zero, List.getD_cons_succ] at he0
  clear he
  try simp -dsimp only [↓RE,↓c_seq,RU,RL,if_true,if_false,forall_const,implies_true,Nat.reduceLeDiff,Nat.reduceLT,pureOp,binPure,intBin,strBin,eqPure,isConstO,unPure,sliceLo,sliceHi,slicePure,slice3Pure,lenPure,capPure,minPure,maxPure,buildP,resK,endV,yieldE,↓reduceIte,Nat.reduceEqDiff,reduceCtorEq,Nat.reduceAdd,Nat.reduceMul,Nat.reduceSub,Int.reduceLT,Int.reduceLE,Int.reduceToNat,Int.reduceAdd,Int.reduceSub,Int.reduceMul,ne_eq,decide_true,decide_false,tf9, he0]
  refine unpack_ok hR hb hn (fun x w1 hx g1 => ?_) (fun hx w1 A1 c1 hO1 g1 hF1 => ?_)
  · try simp -dsimp only [↓RE,↓c_seq,RU,RL,if_true,if_false,forall_const,implies_true,Nat.reduceLeDiff,Nat.reduceLT,pureOp,binPure,intBin,strBin,eqPure,isConstO,unPure,sliceLo,sliceHi,slicePure,slice3Pure,lenPure,capPure,minPure,maxPure,buildP,resK,endV,yieldE,↓reduceIte,Nat.reduceEqDiff,reduceCtorEq,Nat.reduceAdd,Nat.reduceMul,Nat.reduceSub,Int.reduceLT,Int.reduceLE,Int.reduceToNat,Int.reduceAdd,Int.reduceSub,Int.reduceMul,ne_eq,decide_true,decide_false,tf9, he0, errV, undef]
    exact herr x w1 hx g1
  · have hRl := Rd.of_own hO1
    have hdr := h hx w1.drew (g1.trans (Grow.drew w1))
    have h := h hx w1 g1
    unfold hFrom hTo at h hdr
    generalize uPl b = L at *
    rcases Nat.eq_zero_or_pos L.length with h0 | h0
    · have hL : L = [] := List.eq_nil_of_length_eq_zero h0
      subst hL
      have d1 : decide ((((([] : List (Int × Int × Int)).length : Nat)) : Int) = 0) = true := by decide
      try simp -dsimp only [↓RE,↓c_seq,RU,RL,if_true,if_false,forall_const,implies_true,Nat.reduceLeDiff,Nat.reduceLT,pureOp,binPure,intBin,strBin,eqPure,isConstO,unPure,sliceLo,sliceHi,slicePure,slice3Pure,lenPure,capPure,minPure,maxPure,buildP,resK,endV,yieldE,↓reduceIte,Nat.reduceEqDiff,reduceCtorEq,Nat.reduceAdd,Nat.reduceMul,Nat.reduceSub,Int.reduceLT,Int.reduceLE,Int.reduceToNat,Int.reduceAdd,Int.reduceSub,Int.reduceMul,ne_eq,decide_true,decide_false,tf9, he0, d1]
      refine ⟨fun _ => h, fun hq => absurd rfl hq⟩
    · have d1 : decide ((L.length : Int) = 0) = false := decide_eq_false (by omega)
      obtain ⟨ad, hAd, hca, _, _⟩ := (hRl.grow (Grow.drew w1)).smp (k := 0) (by omega)
      obtain ⟨ad', hAd', hcb, _, _⟩ := (hRl.grow (Grow.drew w1)).smp (k := L.length - 1) (by omega)
      subst hAd
      injection hAd' with hAd'
      subst hAd'
      have v1 : IntKind.i64.wrap ((L.length : Int) - 1) = ((L.length - 1 : Nat) : Int) := by rw [wrap_i64_in (by omega) (by omega)]; omega
      try simp -dsimp only [↓RE,↓c_seq,RU,RL,if_true,if_false,forall_const,implies_true,Nat.reduceLeDiff,Nat.reduceLT,pureOp,binPure,intBin,strBin,eqPure,isConstO,unPure,sliceLo,sliceHi,slicePure,slice3Pure,lenPure,capPure,minPure,maxPure,buildP,resK,endV,yieldE,↓reduceIte,Nat.reduceEqDiff,reduceCtorEq,Nat.reduceAdd,Nat.reduceMul,Nat.reduceSub,Int.reduceLT,Int.reduceLE,Int.reduceToNat,Int.reduceAdd,Int.reduceSub,Int.reduceMul,ne_eq,decide_true,decide_false,tf9, he0, d1]
      refine wpDraw_still (by kernel_rfl) ?_
      try simp -dsimp only [↓RE,↓c_seq,RU,RL,if_true,if_false,forall_const,implies_true,Nat.reduceLeDiff,Nat.reduceLT,pureOp,binPure,intBin,strBin,eqPure,isConstO,unPure,sliceLo,sliceHi,slicePure,slice3Pure,lenPure,capPure,minPure,maxPure,buildP,resK,endV,yieldE,↓reduceIte,Nat.reduceEqDiff,reduceCtorEq,Nat.reduceAdd,Nat.reduceMul,Nat.reduceSub,Int.reduceLT,Int.reduceLE,Int.reduceToNat,Int.reduceAdd,Int.reduceSub,Int.reduceMul,ne_eq,decide_true,decide_false,tf9, he0]
      refine ⟨by omega, ?_⟩
      rw [Nat.zero_mul, add_zero'] at hca
      try simp -dsimp only [↓RE,↓c_seq,RU,RL,if_true,if_false,forall_const,implies_true,Nat.reduceLeDiff,Nat.reduceLT,pureOp,binPure,intBin,strBin,eqPure,isConstO,unPure,sliceLo,sliceHi,slicePure,slice3Pure,lenPure,capPure,minPure,maxPure,buildP,resK,endV,yieldE,↓reduceIte,Nat.reduceEqDiff,reduceCtorEq,Nat.reduceAdd,Nat.reduceMul,Nat.reduceSub,Int.reduceLT,Int.reduceLE,Int.reduceToNat,Int.reduceAdd,Int.reduceSub,Int.reduceMul,ne_eq,decide_true,decide_false,tf9, he0, add_zero', hca, v1, Int.toNat_natCast]
      refine ⟨⟨by omega, by omega⟩, ?_⟩
      try simp -dsimp only [↓RE,↓c_seq,RU,RL,if_true,if_false,forall_const,implies_true,Nat.reduceLeDiff,Nat.reduceLT,pureOp,binPure,intBin,strBin,eqPure,isConstO,unPure,sliceLo,sliceHi,slicePure,slice3Pure,lenPure,capPure,minPure,maxPure,buildP,resK,endV,yieldE,↓reduceIte,Nat.reduceEqDiff,reduceCtorEq,Nat.reduceAdd,Nat.reduceMul,Nat.reduceSub,Int.reduceLT,Int.reduceLE,Int.reduceToNat,Int.reduceAdd,Int.reduceSub,Int.reduceMul,ne_eq,decide_true,decide_false,tf9, he0, add_zero', hca, v1, Int.toNat_natCast, hcb]
      exact hdr

end Go.Proofs.Ytpocfghkolppmaa
