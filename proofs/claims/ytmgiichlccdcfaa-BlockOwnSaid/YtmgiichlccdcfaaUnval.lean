/- block.unvalue: one value, read. -/
import Derived.Test.YtmgiichlccdcfaaUnSpec
import Derived.Test.YtmgiichlccdcfaaVals
set_option linter.unusedVariables false
set_option linter.unusedSimpArgs false
set_option maxRecDepth 100000
namespace Go.Proofs.Ytmgiichlccdcfaa
open Go

theorem unvalue_ok {w : World} {F : Nat → Prop} {p : Nat} {s : RS} (hR : RAt w F p s) (ok : RSok s) {last : Int × Int} (hl : VOk last) {ahead : Int} (a0 : -9223372036854775808 ≤ ahead) (a1 : ahead < 9223372036854775808) {R : VWK}
    (h : ∀ w', RAt w' F p (rVal s last ahead).1 → Keep (fun k => k = p) w w' → R (.agg #[.int .u8 (rVal s last ahead).2.1, .int .i64 (rVal s last ahead).2.2]) w') :
    CallsV Try.prog 87 [.pointer (some ⟨p, 0, none⟩), .agg #[.int .u8 last.1, .int .i64 last.2], .int .i64 ahead] w R := by
  have hpl := hR.lt p hR.at
  refine calls_of_wpC mixed Try.func87 rfl (by kernel_rfl) ?_
  intro e he
  have he0 := he 0
  have he1 := he 1
  have he2 := he 2
  simp only [List.getD_cons_zero, List.getD_cons_succ] at he0 he1 he2
  clear he
  have hb1 := Blk.new' w 26 #[.int .u8 last.1, .int .i64 last.2]
  have ga1 := Grow.alloc w (.cells #[.int .u8 last.1, .int .i64 last.2] 26)
  rw [c_seq]
  simp -dsimp only [↓RE,RU,RL,if_true,if_false,forall_const,implies_true,Nat.reduceLeDiff,Nat.reduceLT,pureOp,binPure,intBin,strBin,eqPure,isConstO,unPure,sliceLo,sliceHi,slicePure,lenPure,minPure,maxPure,buildP,resK,endV,yieldE,↓reduceIte,Nat.reduceEqDiff,reduceCtorEq,Nat.reduceAdd,Nat.reduceMul,Nat.reduceSub,Int.reduceLT,Int.reduceLE,Int.reduceToNat,Int.reduceAdd,Int.reduceSub,Int.reduceMul,ne_eq,decide_true,decide_false,tf87, he0, he1, he2]
  generalize hw1 : w.alloc (.cells #[.int .u8 last.1, .int .i64 last.2] 26) = w1 at *
  have hs1 : w1.heap.size = w.heap.size + 1 := by rw [← hw1]; simp
  have hb2 := Blk.new' w1 26 #[.int .u8 0, .int .i64 0]
  have ga2 := Grow.alloc w1 (.cells #[.int .u8 0, .int .i64 0] 26)
  have hb1' := hb1.grow ga2
  have g2 := ga1.trans ga2
  try simp -dsimp only [↓RE,↓c_seq,RU,RL,if_true,if_false,forall_const,implies_true,Nat.reduceLeDiff,Nat.reduceLT,pureOp,binPure,intBin,strBin,eqPure,isConstO,unPure,sliceLo,sliceHi,slicePure,lenPure,minPure,maxPure,buildP,resK,endV,yieldE,↓reduceIte,Nat.reduceEqDiff,reduceCtorEq,Nat.reduceAdd,Nat.reduceMul,Nat.reduceSub,Int.reduceLT,Int.reduceLE,Int.reduceToNat,Int.reduceAdd,Int.reduceSub,Int.reduceMul,ne_eq,decide_true,decide_false,tf87, he0, he1, he2, hw1]
  have fin : ∀ {w' : World} {v : Int × Int} {K : WK} {tk : Tok K}, Blk w' w1.heap.size 26 [.int .u8 0, .int .i64 0] → (∀ w2, Blk w2 w1.heap.size 26 (vcells v) → Keep (fun k => k = w1.heap.size) w' w2 → K w2) →
      aggSt Try.prog w' ⟨w1.heap.size, 0, none⟩ [.int .u8 v.1, .int .i64 v.2] K tk := by
    intro w' v K tk hB hk
    refine hB.stAgg (by simp) (by simp [Value.oneCell']) (fun w2 hB2 hK2 => hk w2 (by simpa [vcells] using hB2) hK2)
  refine bitsR_ok (hR.grow g2) ok (by omega) (by omega) (fun w3 hR3 hK3 => ?_)
  have hL3 := hb1'.keep hK3 (by omega)
  have hZ3 := hb2.keep hK3 (by omega)
  have k3 : Keep (fun k => k = p) w w3 := g2.then hK3
  have hs3 := k3.size
  rcases rBits_01 s with hb | hb
  · have hv : rVal s last ahead = ((rBits 1 s).1, last) := if_pos hb
    rw [hv] at h
    try simp -dsimp only [↓RE,↓c_seq,RU,RL,if_true,if_false,forall_const,implies_true,Nat.reduceLeDiff,Nat.reduceLT,pureOp,binPure,intBin,strBin,eqPure,isConstO,unPure,sliceLo,sliceHi,slicePure,lenPure,minPure,maxPure,buildP,resK,endV,yieldE,↓reduceIte,Nat.reduceEqDiff,reduceCtorEq,Nat.reduceAdd,Nat.reduceMul,Nat.reduceSub,Int.reduceLT,Int.reduceLE,Int.reduceToNat,Int.reduceAdd,Int.reduceSub,Int.reduceMul,ne_eq,decide_true,decide_false,tf87, he0, he1, he2, hw1, hb, eq_self]
    refine hL3.aggK (by simp) ?_
    try simp -dsimp only [↓RE,↓c_seq,RU,RL,if_true,if_false,forall_const,implies_true,Nat.reduceLeDiff,Nat.reduceLT,pureOp,binPure,intBin,strBin,eqPure,isConstO,unPure,sliceLo,sliceHi,slicePure,lenPure,minPure,maxPure,buildP,resK,endV,yieldE,↓reduceIte,Nat.reduceEqDiff,reduceCtorEq,Nat.reduceAdd,Nat.reduceMul,Nat.reduceSub,Int.reduceLT,Int.reduceLE,Int.reduceToNat,Int.reduceAdd,Int.reduceSub,Int.reduceMul,ne_eq,decide_true,decide_false,tf87, he0, he1, he2, hw1, List.drop_zero, List.take_succ_cons, List.take_zero]
    refine fin (v := last) hZ3 (fun w4 hB4 hK4 => ?_)
    have k4 : Keep (fun k => k = p) w w4 := k3.above hK4 (fun i hi e => by omega)
    try simp -dsimp only [↓RE,↓c_seq,RU,RL,if_true,if_false,forall_const,implies_true,Nat.reduceLeDiff,Nat.reduceLT,pureOp,binPure,intBin,strBin,eqPure,isConstO,unPure,sliceLo,sliceHi,slicePure,lenPure,minPure,maxPure,buildP,resK,endV,yieldE,↓reduceIte,Nat.reduceEqDiff,reduceCtorEq,Nat.reduceAdd,Nat.reduceMul,Nat.reduceSub,Int.reduceLT,Int.reduceLE,Int.reduceToNat,Int.reduceAdd,Int.reduceSub,Int.reduceMul,ne_eq,decide_true,decide_false,tf87, he0, he1, he2, hw1]
    refine hB4.aggK (by simp [vcells]) ?_
    try simp -dsimp only [↓RE,↓c_seq,RU,RL,if_true,if_false,forall_const,implies_true,Nat.reduceLeDiff,Nat.reduceLT,pureOp,binPure,intBin,strBin,eqPure,isConstO,unPure,sliceLo,sliceHi,slicePure,lenPure,minPure,maxPure,buildP,resK,endV,yieldE,↓reduceIte,Nat.reduceEqDiff,reduceCtorEq,Nat.reduceAdd,Nat.reduceMul,Nat.reduceSub,Int.reduceLT,Int.reduceLE,Int.reduceToNat,Int.reduceAdd,Int.reduceSub,Int.reduceMul,ne_eq,decide_true,decide_false,tf87, he0, he1, he2, hw1, vcells, List.drop_zero, List.take_succ_cons, List.take_zero]
    exact h w4 (hR3.keep hK4 (fun k hk e => by have := hR.lt k hk; omega)) k4
  have ok2 := ok.bits 1
  try simp -dsimp only [↓RE,↓c_seq,RU,RL,if_true,if_false,forall_const,implies_true,Nat.reduceLeDiff,Nat.reduceLT,pureOp,binPure,intBin,strBin,eqPure,isConstO,unPure,sliceLo,sliceHi,slicePure,lenPure,minPure,maxPure,buildP,resK,endV,yieldE,↓reduceIte,Nat.reduceEqDiff,reduceCtorEq,Nat.reduceAdd,Nat.reduceMul,Nat.reduceSub,Int.reduceLT,Int.reduceLE,Int.reduceToNat,Int.reduceAdd,Int.reduceSub,Int.reduceMul,ne_eq,decide_true,decide_false,tf87, he0, he1, he2, hw1, hb, Int.reduceEq]
  refine bitsR_ok hR3 ok2 (by omega) (by omega) (fun w4 hR4 hK4 => ?_)
  have hZ4 := hZ3.keep hK4 (by omega)
  have k4 : Keep (fun k => k = p) w w4 := k3.trans hK4 (fun _ _ e => e) (fun _ _ e => e)
  have ok3 := ok2.bits 1
  rcases rBits_01 (rBits 1 s).1 with hc | hc
  · have hv : rVal s last ahead = ((rBits ((rBits 6 (rBits 1 (rBits 1 s).1).1).2 + 1) (rBits 6 (rBits 1 (rBits 1 s).1).1).1).1,
      (0, IntKind.i64.wrap (ahead + unfoldI (rBits ((rBits 6 (rBits 1 (rBits 1 s).1).1).2 + 1) (rBits 6 (rBits 1 (rBits 1 s).1).1).1).2))) := by
      unfold rVal; rw [if_neg (by omega), if_pos hc]
    rw [hv] at h
    have hrg := rBits_range 6 (rBits 1 (rBits 1 s).1).1
    rw [show brought 6 = 6 by decide, show (2 : Int) ^ 6 = 64 by decide] at hrg
    generalize (rBits 1 (rBits 1 s).1).1 = q3 at *
    try simp -dsimp only [↓RE,↓c_seq,RU,RL,if_true,if_false,forall_const,implies_true,Nat.reduceLeDiff,Nat.reduceLT,pureOp,binPure,intBin,strBin,eqPure,isConstO,unPure,sliceLo,sliceHi,slicePure,lenPure,minPure,maxPure,buildP,resK,endV,yieldE,↓reduceIte,Nat.reduceEqDiff,reduceCtorEq,Nat.reduceAdd,Nat.reduceMul,Nat.reduceSub,Int.reduceLT,Int.reduceLE,Int.reduceToNat,Int.reduceAdd,Int.reduceSub,Int.reduceMul,ne_eq,decide_true,decide_false,tf87, he0, he1, he2, hw1, hc, eq_self]
    refine bitsR_ok hR4 ok3 (by omega) (by omega) (fun w5 hR5 hK5 => ?_)
    have hZ5 := hZ4.keep hK5 (by omega)
    have k5 : Keep (fun k => k = p) w w5 := k4.trans hK5 (fun _ _ e => e) (fun _ _ e => e)
    have ok4 := ok3.bits 6
    have e1 : IntKind.i64.wrap (rBits 6 q3).2 = (rBits 6 q3).2 := wrap_i64_in (by omega) (by omega)
    have e2 : IntKind.i64.wrap ((rBits 6 q3).2 + 1) = (rBits 6 q3).2 + 1 := wrap_i64_in (by omega) (by omega)
    try simp -dsimp only [↓RE,↓c_seq,RU,RL,if_true,if_false,forall_const,implies_true,Nat.reduceLeDiff,Nat.reduceLT,pureOp,binPure,intBin,strBin,eqPure,isConstO,unPure,sliceLo,sliceHi,slicePure,lenPure,minPure,maxPure,buildP,resK,endV,yieldE,↓reduceIte,Nat.reduceEqDiff,reduceCtorEq,Nat.reduceAdd,Nat.reduceMul,Nat.reduceSub,Int.reduceLT,Int.reduceLE,Int.reduceToNat,Int.reduceAdd,Int.reduceSub,Int.reduceMul,ne_eq,decide_true,decide_false,tf87, he0, he1, he2, hw1, e1, e2]
    refine bitsR_ok hR5 ok4 (by omega) (by omega) (fun w6 hR6 hK6 => ?_)
    have hZ6 := hZ5.keep hK6 (by omega)
    have k6 : Keep (fun k => k = p) w w6 := k5.trans hK6 (fun _ _ e => e) (fun _ _ e => e)
    have hs6 := k6.size
    have hz := rBits_range64 ((rBits 6 q3).2 + 1) (rBits 6 q3).1
    generalize rBits ((rBits 6 q3).2 + 1) (rBits 6 q3).1 = zq at *
    obtain ⟨q5, z⟩ := zq
    simp only at hz hR6 h
    have hand := and_u64_1 hz.1 hz.2
    have e3 : IntKind.i64.wrap (z / 2) = z / 2 := wrap_i64_in (by omega) (by omega)
    have e4 : IntKind.i64.wrap (z % 2) = z % 2 := wrap_i64_in (by omega) (by omega)
    have e5 : IntKind.i64.wrap (0 - z % 2) = - (z % 2) := by rw [wrap_i64_in (by omega) (by omega)]; omega
    have e6 : bitsOp .xor .i64 (z / 2) (- (z % 2)) = unfoldI z := by
      unfold unfoldI
      by_cases hv : z % 2 = 0
      · rw [if_pos hv, hv, Int.neg_zero, xor_i64_zero (by omega) (by omega)]
      · rw [if_neg hv, show z % 2 = 1 by omega, xor_i64_ones (by omega) (by omega)]
    try simp -dsimp only [↓RE,↓c_seq,RU,RL,if_true,if_false,forall_const,implies_true,Nat.reduceLeDiff,Nat.reduceLT,pureOp,binPure,intBin,strBin,eqPure,isConstO,unPure,sliceLo,sliceHi,slicePure,lenPure,minPure,maxPure,buildP,resK,endV,yieldE,↓reduceIte,Nat.reduceEqDiff,reduceCtorEq,Nat.reduceAdd,Nat.reduceMul,Nat.reduceSub,Int.reduceLT,Int.reduceLE,Int.reduceToNat,Int.reduceAdd,Int.reduceSub,Int.reduceMul,ne_eq,decide_true,decide_false,tf87, he0, he1, he2, hw1, shr_u64_1, hand, e3, e4, e5, e6]
    refine fin (v := (0, IntKind.i64.wrap (ahead + unfoldI z))) hZ6 (fun w7 hB7 hK7 => ?_)
    have k7 : Keep (fun k => k = p) w w7 := k6.above hK7 (fun i hi e => by omega)
    try simp -dsimp only [↓RE,↓c_seq,RU,RL,if_true,if_false,forall_const,implies_true,Nat.reduceLeDiff,Nat.reduceLT,pureOp,binPure,intBin,strBin,eqPure,isConstO,unPure,sliceLo,sliceHi,slicePure,lenPure,minPure,maxPure,buildP,resK,endV,yieldE,↓reduceIte,Nat.reduceEqDiff,reduceCtorEq,Nat.reduceAdd,Nat.reduceMul,Nat.reduceSub,Int.reduceLT,Int.reduceLE,Int.reduceToNat,Int.reduceAdd,Int.reduceSub,Int.reduceMul,ne_eq,decide_true,decide_false,tf87, he0, he1, he2, hw1]
    refine hB7.aggK (by simp [vcells]) ?_
    try simp -dsimp only [↓RE,↓c_seq,RU,RL,if_true,if_false,forall_const,implies_true,Nat.reduceLeDiff,Nat.reduceLT,pureOp,binPure,intBin,strBin,eqPure,isConstO,unPure,sliceLo,sliceHi,slicePure,lenPure,minPure,maxPure,buildP,resK,endV,yieldE,↓reduceIte,Nat.reduceEqDiff,reduceCtorEq,Nat.reduceAdd,Nat.reduceMul,Nat.reduceSub,Int.reduceLT,Int.reduceLE,Int.reduceToNat,Int.reduceAdd,Int.reduceSub,Int.reduceMul,ne_eq,decide_true,decide_false,tf87, he0, he1, he2, hw1, vcells, List.drop_zero, List.take_succ_cons, List.take_zero]
    exact h w7 (hR6.keep hK7 (fun k hk e => by have := hR.lt k hk; omega)) k7
  have hv : rVal s last ahead = ((rBits 1 (rBits 1 (rBits 1 s).1).1).1, (1 + (rBits 1 (rBits 1 (rBits 1 s).1).1).2, 0)) := by
    unfold rVal; rw [if_neg (by omega), if_neg (by omega)]
  rw [hv] at h
  generalize (rBits 1 (rBits 1 s).1).1 = q3 at *
  try simp -dsimp only [↓RE,↓c_seq,RU,RL,if_true,if_false,forall_const,implies_true,Nat.reduceLeDiff,Nat.reduceLT,pureOp,binPure,intBin,strBin,eqPure,isConstO,unPure,sliceLo,sliceHi,slicePure,lenPure,minPure,maxPure,buildP,resK,endV,yieldE,↓reduceIte,Nat.reduceEqDiff,reduceCtorEq,Nat.reduceAdd,Nat.reduceMul,Nat.reduceSub,Int.reduceLT,Int.reduceLE,Int.reduceToNat,Int.reduceAdd,Int.reduceSub,Int.reduceMul,ne_eq,decide_true,decide_false,tf87, he0, he1, he2, hw1, hc, Int.reduceEq]
  refine bitsR_ok hR4 ok3 (by omega) (by omega) (fun w5 hR5 hK5 => ?_)
  have hZ5 := hZ4.keep hK5 (by omega)
  have k5 : Keep (fun k => k = p) w w5 := k4.trans hK5 (fun _ _ e => e) (fun _ _ e => e)
  have hs5 := k5.size
  rcases rBits_01 q3 with hd | hd
  · rw [hd] at h
    try simp -dsimp only [↓RE,↓c_seq,RU,RL,if_true,if_false,forall_const,implies_true,Nat.reduceLeDiff,Nat.reduceLT,pureOp,binPure,intBin,strBin,eqPure,isConstO,unPure,sliceLo,sliceHi,slicePure,lenPure,minPure,maxPure,buildP,resK,endV,yieldE,↓reduceIte,Nat.reduceEqDiff,reduceCtorEq,Nat.reduceAdd,Nat.reduceMul,Nat.reduceSub,Int.reduceLT,Int.reduceLE,Int.reduceToNat,Int.reduceAdd,Int.reduceSub,Int.reduceMul,ne_eq,decide_true,decide_false,tf87, he0, he1, he2, hw1, hd, eq_self]
    refine fin (v := (1, 0)) hZ5 (fun w7 hB7 hK7 => ?_)
    have k7 : Keep (fun k => k = p) w w7 := k5.above hK7 (fun i hi e => by omega)
    try simp -dsimp only [↓RE,↓c_seq,RU,RL,if_true,if_false,forall_const,implies_true,Nat.reduceLeDiff,Nat.reduceLT,pureOp,binPure,intBin,strBin,eqPure,isConstO,unPure,sliceLo,sliceHi,slicePure,lenPure,minPure,maxPure,buildP,resK,endV,yieldE,↓reduceIte,Nat.reduceEqDiff,reduceCtorEq,Nat.reduceAdd,Nat.reduceMul,Nat.reduceSub,Int.reduceLT,Int.reduceLE,Int.reduceToNat,Int.reduceAdd,Int.reduceSub,Int.reduceMul,ne_eq,decide_true,decide_false,tf87, he0, he1, he2, hw1]
    refine hB7.aggK (by simp [vcells]) ?_
    try simp -dsimp only [↓RE,↓c_seq,RU,RL,if_true,if_false,forall_const,implies_true,Nat.reduceLeDiff,Nat.reduceLT,pureOp,binPure,intBin,strBin,eqPure,isConstO,unPure,sliceLo,sliceHi,slicePure,lenPure,minPure,maxPure,buildP,resK,endV,yieldE,↓reduceIte,Nat.reduceEqDiff,reduceCtorEq,Nat.reduceAdd,Nat.reduceMul,Nat.reduceSub,Int.reduceLT,Int.reduceLE,Int.reduceToNat,Int.reduceAdd,Int.reduceSub,Int.reduceMul,ne_eq,decide_true,decide_false,tf87, he0, he1, he2, hw1, vcells, List.drop_zero, List.take_succ_cons, List.take_zero]
    exact h w7 (hR5.keep hK7 (fun k hk e => by have := hR.lt k hk; omega)) k7
  · rw [hd] at h
    try simp -dsimp only [↓RE,↓c_seq,RU,RL,if_true,if_false,forall_const,implies_true,Nat.reduceLeDiff,Nat.reduceLT,pureOp,binPure,intBin,strBin,eqPure,isConstO,unPure,sliceLo,sliceHi,slicePure,lenPure,minPure,maxPure,buildP,resK,endV,yieldE,↓reduceIte,Nat.reduceEqDiff,reduceCtorEq,Nat.reduceAdd,Nat.reduceMul,Nat.reduceSub,Int.reduceLT,Int.reduceLE,Int.reduceToNat,Int.reduceAdd,Int.reduceSub,Int.reduceMul,ne_eq,decide_true,decide_false,tf87, he0, he1, he2, hw1, hd, Int.reduceEq]
    refine fin (v := (2, 0)) hZ5 (fun w7 hB7 hK7 => ?_)
    have k7 : Keep (fun k => k = p) w w7 := k5.above hK7 (fun i hi e => by omega)
    try simp -dsimp only [↓RE,↓c_seq,RU,RL,if_true,if_false,forall_const,implies_true,Nat.reduceLeDiff,Nat.reduceLT,pureOp,binPure,intBin,strBin,eqPure,isConstO,unPure,sliceLo,sliceHi,slicePure,lenPure,minPure,maxPure,buildP,resK,endV,yieldE,↓reduceIte,Nat.reduceEqDiff,reduceCtorEq,Nat.reduceAdd,Nat.reduceMul,Nat.reduceSub,Int.reduceLT,Int.reduceLE,Int.reduceToNat,Int.reduceAdd,Int.reduceSub,Int.reduceMul,ne_eq,decide_true,decide_false,tf87, he0, he1, he2, hw1]
    refine hB7.aggK (by simp [vcells]) ?_
    try simp -dsimp only [↓RE,↓c_seq,RU,RL,if_true,if_false,forall_const,implies_true,Nat.reduceLeDiff,Nat.reduceLT,pureOp,binPure,intBin,strBin,eqPure,isConstO,unPure,sliceLo,sliceHi,slicePure,lenPure,minPure,maxPure,buildP,resK,endV,yieldE,↓reduceIte,Nat.reduceEqDiff,reduceCtorEq,Nat.reduceAdd,Nat.reduceMul,Nat.reduceSub,Int.reduceLT,Int.reduceLE,Int.reduceToNat,Int.reduceAdd,Int.reduceSub,Int.reduceMul,ne_eq,decide_true,decide_false,tf87, he0, he1, he2, hw1, vcells, List.drop_zero, List.take_succ_cons, List.take_zero]
    exact h w7 (hR5.keep hK7 (fun k hk e => by have := hR.lt k hk; omega)) k7

end Go.Proofs.Ytmgiichlccdcfaa
