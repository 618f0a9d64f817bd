/- block.undifference, block.unvalue: one difference, one value, read. -/
/- block.unvalue: one value, read. -/
/- bytes.Equal, and the document's comparison: two rows of bytes are the same just when the lists are. -/
/- block.UnTimes: what it reads, or what is wrong. -/
/- block.UnValues: what it reads, or what is wrong. -/
import Derived.Test.YtpocfghkolppmaaUnSpec
import Derived.Test.YtpocfghkolppmaaTimes
import Derived.Test.YtpocfghkolppmaaVals
import Derived.Test.YtpocfghkolppmaaRefA
import Derived.Test.YtpocfghkolppmaaSame
import Derived.Laws.Strings
import Derived.Test.YtpocfghkolppmaaLives
set_option linter.unusedVariables false
set_option linter.unusedSimpArgs false
set_option maxRecDepth 100000
namespace Go.Proofs.Ytpocfghkolppmaa
open Go

theorem undiff_ok {w : World} {F : Nat → Prop} {p : Nat} {s : RS} (hR : RAt w F p s) (ok : RSok s) {R : VWK}
    (h : ∀ w', RAt w' F p (rDelta s).1 → Keep (fun k => k = p) w w' → R (.int .i64 (rDelta s).2) w') :
    CallsV Try.prog 47 [.pointer (some ⟨p, 0, none⟩)] w R := by
  have hpl := hR.lt p hR.at
  have hlt := hR.lt
  refine calls_of_wpC mixed Try.func47 rfl (by kernel_rfl) ?_
  intro e he
  have he0 := he 0
  simp only [List.getD_cons_zero, List.getD_cons_succ] at he0
  clear he
  try simp -dsimp only [↓RE,↓c_seq,RU,RL,if_true,if_false,forall_const,implies_true,Nat.reduceLeDiff,Nat.reduceLT,pureOp,binPure,intBin,strBin,eqPure,isConstO,unPure,sliceLo,sliceHi,slicePure,slice3Pure,lenPure,capPure,minPure,maxPure,buildP,resK,endV,yieldE,↓reduceIte,Nat.reduceEqDiff,reduceCtorEq,Nat.reduceAdd,Nat.reduceMul,Nat.reduceSub,Int.reduceLT,Int.reduceLE,Int.reduceToNat,Int.reduceAdd,Int.reduceSub,Int.reduceMul,ne_eq,decide_true,decide_false,tf47, he0]
  refine classes_ok (fun w1 g hB1 g1 hg => ?_)
  try simp -dsimp only [↓RE,↓c_seq,RU,RL,if_true,if_false,forall_const,implies_true,Nat.reduceLeDiff,Nat.reduceLT,pureOp,binPure,intBin,strBin,eqPure,isConstO,unPure,sliceLo,sliceHi,slicePure,slice3Pure,lenPure,capPure,minPure,maxPure,buildP,resK,endV,yieldE,↓reduceIte,Nat.reduceEqDiff,reduceCtorEq,Nat.reduceAdd,Nat.reduceMul,Nat.reduceSub,Int.reduceLT,Int.reduceLE,Int.reduceToNat,Int.reduceAdd,Int.reduceSub,Int.reduceMul,ne_eq,decide_true,decide_false,tf47, he0]
  refine wpLoop_intro (fun e' w' => e' 0 = .pointer (some ⟨p, 0, none⟩) ∧ e' 5 = .slice (some ⟨g, 0, none⟩) 4 4 ∧ e' 6 = .int .i64 (4 : Nat) ∧ ∃ (k : Nat) (q : RS), k ≤ 4 ∧ e' 7 = .int .i64 k ∧ Blk w' g 126 clsCells ∧
      RAt w' F p q ∧ RSok q ∧ rDfrom (4 - k) k q = rDelta s ∧ Keep (fun k => k = p) w w')
    (fun e' _ => 4 - (envInt (e' 7)).toNat) ⟨?_, ?_, ?_, 0, s, by omega, ?_, hB1, hR.grow g1, ok, rfl, g1.then (Keep.refl _ _)⟩ ?_
  · simp -dsimp only [↓RE,RU,RL,if_true,if_false,↓reduceIte,Nat.reduceEqDiff,reduceCtorEq,decide_true,decide_false, he0]
  · simp -dsimp only [↓RE,RU,RL,if_true,if_false,↓reduceIte,Nat.reduceEqDiff,reduceCtorEq,decide_true,decide_false, he0]
  · simp -dsimp only [↓RE,RU,RL,if_true,if_false,↓reduceIte,Nat.reduceEqDiff,reduceCtorEq,decide_true,decide_false, he0]
  · simp -dsimp only [↓RE,RU,RL,if_true,if_false,↓reduceIte,Nat.reduceEqDiff,reduceCtorEq,decide_true,decide_false, he0, Int.cast_ofNat_Int]
  rintro e' w' ⟨h0, h5, h6, k, q, hk, h7, hB, hRq, okq, hd, hgr⟩
  have hz0 := Blk.new' w' 126 #[.int .i64 0, .int .i64 0, .int .i64 0, .int .i64 0, .int .i64 0]
  have ga := Grow.alloc w' (.cells #[.int .i64 0, .int .i64 0, .int .i64 0, .int .i64 0, .int .i64 0] 126)
  have hk5 : k = 0 ∨ k = 1 ∨ k = 2 ∨ k = 3 ∨ k = 4 := by omega
  have hgs := hgr.size
  have hgp : g ≠ p := by omega
  have b01 := rBits_01 q
  rcases hk5 with rfl | rfl | rfl | rfl | rfl
  · try simp -dsimp only [↓RE,↓c_seq,RU,RL,if_true,if_false,forall_const,implies_true,Nat.reduceLeDiff,Nat.reduceLT,pureOp,binPure,intBin,strBin,eqPure,isConstO,unPure,sliceLo,sliceHi,slicePure,slice3Pure,lenPure,capPure,minPure,maxPure,buildP,resK,endV,yieldE,↓reduceIte,Nat.reduceEqDiff,reduceCtorEq,Nat.reduceAdd,Nat.reduceMul,Nat.reduceSub,Int.reduceLT,Int.reduceLE,Int.reduceToNat,Int.reduceAdd,Int.reduceSub,Int.reduceMul,ne_eq,decide_true,decide_false,tf47, h0, h5, h6, h7, Int.cast_ofNat_Int]
    refine hB.aggK (o := 0) (by simp [clsCells]) ?_
    try simp -dsimp only [↓RE,↓c_seq,RU,RL,if_true,if_false,forall_const,implies_true,Nat.reduceLeDiff,Nat.reduceLT,pureOp,binPure,intBin,strBin,eqPure,isConstO,unPure,sliceLo,sliceHi,slicePure,slice3Pure,lenPure,capPure,minPure,maxPure,buildP,resK,endV,yieldE,↓reduceIte,Nat.reduceEqDiff,reduceCtorEq,Nat.reduceAdd,Nat.reduceMul,Nat.reduceSub,Int.reduceLT,Int.reduceLE,Int.reduceToNat,Int.reduceAdd,Int.reduceSub,Int.reduceMul,ne_eq,decide_true,decide_false,tf47, h0, h5, h6, h7, clsCells, List.drop_zero, List.drop_succ_cons, List.take_succ_cons, List.take_zero]
    refine hz0.stAgg (by simp) (by simp [Value.oneCell']) (fun w2 hB2 hK2 => ?_)
    have hB2 : Blk w2 w'.heap.size 126 [.int .i64 0, .int .i64 1, .int .i64 0, .int .i64 0, .int .i64 0] := by simpa using hB2
    have g2 : Grow w' w2 := ga.above hK2 (fun i hi e => by omega)
    have hpw : p < w'.heap.size := by omega
    try simp -dsimp only [↓RE,↓c_seq,RU,RL,if_true,if_false,forall_const,implies_true,Nat.reduceLeDiff,Nat.reduceLT,pureOp,binPure,intBin,strBin,eqPure,isConstO,unPure,sliceLo,sliceHi,slicePure,slice3Pure,lenPure,capPure,minPure,maxPure,buildP,resK,endV,yieldE,↓reduceIte,Nat.reduceEqDiff,reduceCtorEq,Nat.reduceAdd,Nat.reduceMul,Nat.reduceSub,Int.reduceLT,Int.reduceLE,Int.reduceToNat,Int.reduceAdd,Int.reduceSub,Int.reduceMul,ne_eq,decide_true,decide_false,tf47, h0, h5, h6, h7, hB2.cell]
    refine bitsR_ok (hRq.grow g2) okq (by omega) (by omega) (fun w3 hR3 hK3 => ?_)
    have g3 : Keep (fun k => k = p) w w3 := (hgr.then_grow g2).trans hK3 (fun _ _ e => e) (fun _ _ e => e)
    have hB3 := hB2.keep hK3 (by omega)
    have hBc3 := (hB.grow g2).keep hK3 hgp
    rcases b01 with hb | hb
    · have hde : rDelta s = dTail 0 (rBits 1 q).1 := by rw [← hd]; show (if (rBits 1 q).2 = 0 then dTail 0 (rBits 1 q).1 else _) = _; rw [if_pos hb]
      have okd := okq.bits 1
      generalize (rBits 1 q).1 = q2 at hR3 hde okd
      have hrg := rBits_range 0 q2
      try simp -dsimp only [↓RE,↓c_seq,RU,RL,if_true,if_false,forall_const,implies_true,Nat.reduceLeDiff,Nat.reduceLT,pureOp,binPure,intBin,strBin,eqPure,isConstO,unPure,sliceLo,sliceHi,slicePure,slice3Pure,lenPure,capPure,minPure,maxPure,buildP,resK,endV,yieldE,↓reduceIte,Nat.reduceEqDiff,reduceCtorEq,Nat.reduceAdd,Nat.reduceMul,Nat.reduceSub,Int.reduceLT,Int.reduceLE,Int.reduceToNat,Int.reduceAdd,Int.reduceSub,Int.reduceMul,ne_eq,decide_true,decide_false,tf47, h0, h5, h6, h7, hb, eq_self, hB3.cell]
      refine wpDraw_by (fun w0 => Blk w0 w'.heap.size 126 [.int .i64 0, .int .i64 1, .int .i64 0, .int .i64 0, .int .i64 0]) [(0, true), (1, true), (2, true), (5, true), (6, true), (3, false), (4, true), (7, true), (8, true)] (by kernel_rfl) hB3.drew ?_
      simp only [planL, List.getElem?_toArray, List.getElem?_cons_zero, List.getElem?_cons_succ, Option.toList_some, List.map_cons, List.map_nil, List.cons_append, List.nil_append]
      try simp -dsimp only [↓RE,↓c_seq,RU,RL,if_true,if_false,forall_const,implies_true,Nat.reduceLeDiff,Nat.reduceLT,pureOp,binPure,intBin,strBin,eqPure,isConstO,unPure,sliceLo,sliceHi,slicePure,slice3Pure,lenPure,capPure,minPure,maxPure,buildP,resK,endV,yieldE,↓reduceIte,Nat.reduceEqDiff,reduceCtorEq,Nat.reduceAdd,Nat.reduceMul,Nat.reduceSub,Int.reduceLT,Int.reduceLE,Int.reduceToNat,Int.reduceAdd,Int.reduceSub,Int.reduceMul,ne_eq,decide_true,decide_false,tf47, h0, h5, h6, h7]
      refine ⟨_, fun w9 hS => Blk.cell hS 4, ?_⟩
      try simp -dsimp only [↓RE,↓c_seq,RU,RL,if_true,if_false,forall_const,implies_true,Nat.reduceLeDiff,Nat.reduceLT,pureOp,binPure,intBin,strBin,eqPure,isConstO,unPure,sliceLo,sliceHi,slicePure,slice3Pure,lenPure,capPure,minPure,maxPure,buildP,resK,endV,yieldE,↓reduceIte,Nat.reduceEqDiff,reduceCtorEq,Nat.reduceAdd,Nat.reduceMul,Nat.reduceSub,Int.reduceLT,Int.reduceLE,Int.reduceToNat,Int.reduceAdd,Int.reduceSub,Int.reduceMul,ne_eq,decide_true,decide_false,tf47, h0, h5, h6, h7]
      refine ⟨_, fun w9 hS => Blk.cell hS 2, ?_⟩
      try simp -dsimp only [↓RE,↓c_seq,RU,RL,if_true,if_false,forall_const,implies_true,Nat.reduceLeDiff,Nat.reduceLT,pureOp,binPure,intBin,strBin,eqPure,isConstO,unPure,sliceLo,sliceHi,slicePure,slice3Pure,lenPure,capPure,minPure,maxPure,buildP,resK,endV,yieldE,↓reduceIte,Nat.reduceEqDiff,reduceCtorEq,Nat.reduceAdd,Nat.reduceMul,Nat.reduceSub,Int.reduceLT,Int.reduceLE,Int.reduceToNat,Int.reduceAdd,Int.reduceSub,Int.reduceMul,ne_eq,decide_true,decide_false,tf47, h0, h5, h6, h7]
      refine bitsR_ok (hR3.grow (Grow.drew _)) okd (by omega) (by omega) (fun w4 hR4 hK4 => ?_)
      have g4 : Keep (fun k => k = p) w w4 := (g3.then_grow (Grow.drew _)).trans hK4 (fun _ _ e => e) (fun _ _ e => e)
      have hB4 := hB3.drew.keep hK4 (by omega)
      have hfin := h w4 (by rw [hde]; show RAt w4 F p q2; have := hR4; rwa [rBits_0] at this) g4
      rw [hde] at hfin
      have v1 : IntKind.i64.wrap (IntKind.i64.wrap (rBits 0 q2).2 + 0) = 0 := by rw [rBits_0]; show IntKind.i64.wrap (IntKind.i64.wrap 0 + 0) = 0; decide
      try simp -dsimp only [↓RE,↓c_seq,RU,RL,if_true,if_false,forall_const,implies_true,Nat.reduceLeDiff,Nat.reduceLT,pureOp,binPure,intBin,strBin,eqPure,isConstO,unPure,sliceLo,sliceHi,slicePure,slice3Pure,lenPure,capPure,minPure,maxPure,buildP,resK,endV,yieldE,↓reduceIte,Nat.reduceEqDiff,reduceCtorEq,Nat.reduceAdd,Nat.reduceMul,Nat.reduceSub,Int.reduceLT,Int.reduceLE,Int.reduceToNat,Int.reduceAdd,Int.reduceSub,Int.reduceMul,ne_eq,decide_true,decide_false,tf47, h0, h5, h6, h7, v1]
      refine ⟨hB4, ?_⟩
      try simp -dsimp only [↓RE,↓c_seq,RU,RL,if_true,if_false,forall_const,implies_true,Nat.reduceLeDiff,Nat.reduceLT,pureOp,binPure,intBin,strBin,eqPure,isConstO,unPure,sliceLo,sliceHi,slicePure,slice3Pure,lenPure,capPure,minPure,maxPure,buildP,resK,endV,yieldE,↓reduceIte,Nat.reduceEqDiff,reduceCtorEq,Nat.reduceAdd,Nat.reduceMul,Nat.reduceSub,Int.reduceLT,Int.reduceLE,Int.reduceToNat,Int.reduceAdd,Int.reduceSub,Int.reduceMul,ne_eq,decide_true,decide_false,tf47, h0, h5, h6, h7, v1]
      exact hfin
    · have hd2 : rDfrom (4 - 1) 1 (rBits 1 q).1 = rDelta s := by rw [← hd]; show _ = (if (rBits 1 q).2 = 0 then _ else rDfrom (3) 1 (rBits 1 q).1); rw [if_neg (by omega)]
      have okd := okq.bits 1
      try simp -dsimp only [↓RE,↓c_seq,RU,RL,if_true,if_false,forall_const,implies_true,Nat.reduceLeDiff,Nat.reduceLT,pureOp,binPure,intBin,strBin,eqPure,isConstO,unPure,sliceLo,sliceHi,slicePure,slice3Pure,lenPure,capPure,minPure,maxPure,buildP,resK,endV,yieldE,↓reduceIte,Nat.reduceEqDiff,reduceCtorEq,Nat.reduceAdd,Nat.reduceMul,Nat.reduceSub,Int.reduceLT,Int.reduceLE,Int.reduceToNat,Int.reduceAdd,Int.reduceSub,Int.reduceMul,ne_eq,decide_true,decide_false,tf47, h0, h5, h6, h7, hb, Int.cast_ofNat_Int, Int.reduceEq]
      refine hold_intro ⟨⟨?_, ?_, ?_, 1, (rBits 1 q).1, by omega, ?_, hBc3, hR3, okd, hd2, g3⟩, ?_⟩
      · simp -dsimp only [↓RE,RU,RL,if_true,if_false,↓reduceIte,Nat.reduceEqDiff,reduceCtorEq,decide_true,decide_false, h0]
      · simp -dsimp only [↓RE,RU,RL,if_true,if_false,↓reduceIte,Nat.reduceEqDiff,reduceCtorEq,decide_true,decide_false, h5]
      · simp -dsimp only [↓RE,RU,RL,if_true,if_false,↓reduceIte,Nat.reduceEqDiff,reduceCtorEq,decide_true,decide_false, h6]
      · simp -dsimp only [↓RE,RU,RL,if_true,if_false,↓reduceIte,Nat.reduceEqDiff,reduceCtorEq,decide_true,decide_false, h7, Int.cast_ofNat_Int]
        rfl
      · simp -dsimp only [↓RE,RU,RL,if_true,if_false,↓reduceIte,Nat.reduceEqDiff,reduceCtorEq,decide_true,decide_false, h7, Int.cast_ofNat_Int]
        decide
  · try simp -dsimp only [↓RE,↓c_seq,RU,RL,if_true,if_false,forall_const,implies_true,Nat.reduceLeDiff,Nat.reduceLT,pureOp,binPure,intBin,strBin,eqPure,isConstO,unPure,sliceLo,sliceHi,slicePure,slice3Pure,lenPure,capPure,minPure,maxPure,buildP,resK,endV,yieldE,↓reduceIte,Nat.reduceEqDiff,reduceCtorEq,Nat.reduceAdd,Nat.reduceMul,Nat.reduceSub,Int.reduceLT,Int.reduceLE,Int.reduceToNat,Int.reduceAdd,Int.reduceSub,Int.reduceMul,ne_eq,decide_true,decide_false,tf47, h0, h5, h6, h7, Int.cast_ofNat_Int]
    refine hB.aggK (o := 5) (by simp [clsCells]) ?_
    try simp -dsimp only [↓RE,↓c_seq,RU,RL,if_true,if_false,forall_const,implies_true,Nat.reduceLeDiff,Nat.reduceLT,pureOp,binPure,intBin,strBin,eqPure,isConstO,unPure,sliceLo,sliceHi,slicePure,slice3Pure,lenPure,capPure,minPure,maxPure,buildP,resK,endV,yieldE,↓reduceIte,Nat.reduceEqDiff,reduceCtorEq,Nat.reduceAdd,Nat.reduceMul,Nat.reduceSub,Int.reduceLT,Int.reduceLE,Int.reduceToNat,Int.reduceAdd,Int.reduceSub,Int.reduceMul,ne_eq,decide_true,decide_false,tf47, h0, h5, h6, h7, clsCells, List.drop_zero, List.drop_succ_cons, List.take_succ_cons, List.take_zero]
    refine hz0.stAgg (by simp) (by simp [Value.oneCell']) (fun w2 hB2 hK2 => ?_)
    have hB2 : Blk w2 w'.heap.size 126 [.int .i64 2, .int .i64 2, .int .i64 (-63), .int .i64 64, .int .i64 7] := by simpa using hB2
    have g2 : Grow w' w2 := ga.above hK2 (fun i hi e => by omega)
    have hpw : p < w'.heap.size := by omega
    try simp -dsimp only [↓RE,↓c_seq,RU,RL,if_true,if_false,forall_const,implies_true,Nat.reduceLeDiff,Nat.reduceLT,pureOp,binPure,intBin,strBin,eqPure,isConstO,unPure,sliceLo,sliceHi,slicePure,slice3Pure,lenPure,capPure,minPure,maxPure,buildP,resK,endV,yieldE,↓reduceIte,Nat.reduceEqDiff,reduceCtorEq,Nat.reduceAdd,Nat.reduceMul,Nat.reduceSub,Int.reduceLT,Int.reduceLE,Int.reduceToNat,Int.reduceAdd,Int.reduceSub,Int.reduceMul,ne_eq,decide_true,decide_false,tf47, h0, h5, h6, h7, hB2.cell]
    refine bitsR_ok (hRq.grow g2) okq (by omega) (by omega) (fun w3 hR3 hK3 => ?_)
    have g3 : Keep (fun k => k = p) w w3 := (hgr.then_grow g2).trans hK3 (fun _ _ e => e) (fun _ _ e => e)
    have hB3 := hB2.keep hK3 (by omega)
    have hBc3 := (hB.grow g2).keep hK3 hgp
    rcases b01 with hb | hb
    · have hde : rDelta s = dTail 1 (rBits 1 q).1 := by rw [← hd]; show (if (rBits 1 q).2 = 0 then dTail 1 (rBits 1 q).1 else _) = _; rw [if_pos hb]
      have okd := okq.bits 1
      generalize (rBits 1 q).1 = q2 at hR3 hde okd
      have hrg := rBits_range 7 q2
      try simp -dsimp only [↓RE,↓c_seq,RU,RL,if_true,if_false,forall_const,implies_true,Nat.reduceLeDiff,Nat.reduceLT,pureOp,binPure,intBin,strBin,eqPure,isConstO,unPure,sliceLo,sliceHi,slicePure,slice3Pure,lenPure,capPure,minPure,maxPure,buildP,resK,endV,yieldE,↓reduceIte,Nat.reduceEqDiff,reduceCtorEq,Nat.reduceAdd,Nat.reduceMul,Nat.reduceSub,Int.reduceLT,Int.reduceLE,Int.reduceToNat,Int.reduceAdd,Int.reduceSub,Int.reduceMul,ne_eq,decide_true,decide_false,tf47, h0, h5, h6, h7, hb, eq_self, hB3.cell]
      refine wpDraw_by (fun w0 => Blk w0 w'.heap.size 126 [.int .i64 2, .int .i64 2, .int .i64 (-63), .int .i64 64, .int .i64 7]) [(0, true), (1, true), (2, true), (5, true), (6, true), (3, false), (4, true), (7, true), (8, true)] (by kernel_rfl) hB3.drew ?_
      simp only [planL, List.getElem?_toArray, List.getElem?_cons_zero, List.getElem?_cons_succ, Option.toList_some, List.map_cons, List.map_nil, List.cons_append, List.nil_append]
      try simp -dsimp only [↓RE,↓c_seq,RU,RL,if_true,if_false,forall_const,implies_true,Nat.reduceLeDiff,Nat.reduceLT,pureOp,binPure,intBin,strBin,eqPure,isConstO,unPure,sliceLo,sliceHi,slicePure,slice3Pure,lenPure,capPure,minPure,maxPure,buildP,resK,endV,yieldE,↓reduceIte,Nat.reduceEqDiff,reduceCtorEq,Nat.reduceAdd,Nat.reduceMul,Nat.reduceSub,Int.reduceLT,Int.reduceLE,Int.reduceToNat,Int.reduceAdd,Int.reduceSub,Int.reduceMul,ne_eq,decide_true,decide_false,tf47, h0, h5, h6, h7]
      refine ⟨_, fun w9 hS => Blk.cell hS 4, ?_⟩
      try simp -dsimp only [↓RE,↓c_seq,RU,RL,if_true,if_false,forall_const,implies_true,Nat.reduceLeDiff,Nat.reduceLT,pureOp,binPure,intBin,strBin,eqPure,isConstO,unPure,sliceLo,sliceHi,slicePure,slice3Pure,lenPure,capPure,minPure,maxPure,buildP,resK,endV,yieldE,↓reduceIte,Nat.reduceEqDiff,reduceCtorEq,Nat.reduceAdd,Nat.reduceMul,Nat.reduceSub,Int.reduceLT,Int.reduceLE,Int.reduceToNat,Int.reduceAdd,Int.reduceSub,Int.reduceMul,ne_eq,decide_true,decide_false,tf47, h0, h5, h6, h7]
      refine ⟨_, fun w9 hS => Blk.cell hS 2, ?_⟩
      try simp -dsimp only [↓RE,↓c_seq,RU,RL,if_true,if_false,forall_const,implies_true,Nat.reduceLeDiff,Nat.reduceLT,pureOp,binPure,intBin,strBin,eqPure,isConstO,unPure,sliceLo,sliceHi,slicePure,slice3Pure,lenPure,capPure,minPure,maxPure,buildP,resK,endV,yieldE,↓reduceIte,Nat.reduceEqDiff,reduceCtorEq,Nat.reduceAdd,Nat.reduceMul,Nat.reduceSub,Int.reduceLT,Int.reduceLE,Int.reduceToNat,Int.reduceAdd,Int.reduceSub,Int.reduceMul,ne_eq,decide_true,decide_false,tf47, h0, h5, h6, h7]
      refine bitsR_ok (hR3.grow (Grow.drew _)) okd (by omega) (by omega) (fun w4 hR4 hK4 => ?_)
      have g4 : Keep (fun k => k = p) w w4 := (g3.then_grow (Grow.drew _)).trans hK4 (fun _ _ e => e) (fun _ _ e => e)
      have hB4 := hB3.drew.keep hK4 (by omega)
      have hfin := h w4 (by rw [hde]; exact hR4) g4
      rw [hde] at hfin
      rw [show brought 7 = 7 by decide, show (2 : Int) ^ 7 = 128 by decide] at hrg
      have v1 : IntKind.i64.wrap (IntKind.i64.wrap (rBits 7 q2).2 + (-63)) = (rBits 7 q2).2 - 63 := by rw [wrap_i64_in (n := (rBits 7 q2).2) (by omega) (by omega), wrap_i64_in (by omega) (by omega)]; omega
      try simp -dsimp only [↓RE,↓c_seq,RU,RL,if_true,if_false,forall_const,implies_true,Nat.reduceLeDiff,Nat.reduceLT,pureOp,binPure,intBin,strBin,eqPure,isConstO,unPure,sliceLo,sliceHi,slicePure,slice3Pure,lenPure,capPure,minPure,maxPure,buildP,resK,endV,yieldE,↓reduceIte,Nat.reduceEqDiff,reduceCtorEq,Nat.reduceAdd,Nat.reduceMul,Nat.reduceSub,Int.reduceLT,Int.reduceLE,Int.reduceToNat,Int.reduceAdd,Int.reduceSub,Int.reduceMul,ne_eq,decide_true,decide_false,tf47, h0, h5, h6, h7, v1]
      refine ⟨hB4, ?_⟩
      try simp -dsimp only [↓RE,↓c_seq,RU,RL,if_true,if_false,forall_const,implies_true,Nat.reduceLeDiff,Nat.reduceLT,pureOp,binPure,intBin,strBin,eqPure,isConstO,unPure,sliceLo,sliceHi,slicePure,slice3Pure,lenPure,capPure,minPure,maxPure,buildP,resK,endV,yieldE,↓reduceIte,Nat.reduceEqDiff,reduceCtorEq,Nat.reduceAdd,Nat.reduceMul,Nat.reduceSub,Int.reduceLT,Int.reduceLE,Int.reduceToNat,Int.reduceAdd,Int.reduceSub,Int.reduceMul,ne_eq,decide_true,decide_false,tf47, h0, h5, h6, h7, v1]
      exact hfin
    · have hd2 : rDfrom (4 - 2) 2 (rBits 1 q).1 = rDelta s := by rw [← hd]; show _ = (if (rBits 1 q).2 = 0 then _ else rDfrom (2) 2 (rBits 1 q).1); rw [if_neg (by omega)]
      have okd := okq.bits 1
      try simp -dsimp only [↓RE,↓c_seq,RU,RL,if_true,if_false,forall_const,implies_true,Nat.reduceLeDiff,Nat.reduceLT,pureOp,binPure,intBin,strBin,eqPure,isConstO,unPure,sliceLo,sliceHi,slicePure,slice3Pure,lenPure,capPure,minPure,maxPure,buildP,resK,endV,yieldE,↓reduceIte,Nat.reduceEqDiff,reduceCtorEq,Nat.reduceAdd,Nat.reduceMul,Nat.reduceSub,Int.reduceLT,Int.reduceLE,Int.reduceToNat,Int.reduceAdd,Int.reduceSub,Int.reduceMul,ne_eq,decide_true,decide_false,tf47, h0, h5, h6, h7, hb, Int.cast_ofNat_Int, Int.reduceEq]
      refine hold_intro ⟨⟨?_, ?_, ?_, 2, (rBits 1 q).1, by omega, ?_, hBc3, hR3, okd, hd2, g3⟩, ?_⟩
      · simp -dsimp only [↓RE,RU,RL,if_true,if_false,↓reduceIte,Nat.reduceEqDiff,reduceCtorEq,decide_true,decide_false, h0]
      · simp -dsimp only [↓RE,RU,RL,if_true,if_false,↓reduceIte,Nat.reduceEqDiff,reduceCtorEq,decide_true,decide_false, h5]
      · simp -dsimp only [↓RE,RU,RL,if_true,if_false,↓reduceIte,Nat.reduceEqDiff,reduceCtorEq,decide_true,decide_false, h6]
      · simp -dsimp only [↓RE,RU,RL,if_true,if_false,↓reduceIte,Nat.reduceEqDiff,reduceCtorEq,decide_true,decide_false, h7, Int.cast_ofNat_Int]
        rfl
      · simp -dsimp only [↓RE,RU,RL,if_true,if_false,↓reduceIte,Nat.reduceEqDiff,reduceCtorEq,decide_true,decide_false, h7, Int.cast_ofNat_Int]
        decide
  · try simp -dsimp only [↓RE,↓c_seq,RU,RL,if_true,if_false,forall_const,implies_true,Nat.reduceLeDiff,Nat.reduceLT,pureOp,binPure,intBin,strBin,eqPure,isConstO,unPure,sliceLo,sliceHi,slicePure,slice3Pure,lenPure,capPure,minPure,maxPure,buildP,resK,endV,yieldE,↓reduceIte,Nat.reduceEqDiff,reduceCtorEq,Nat.reduceAdd,Nat.reduceMul,Nat.reduceSub,Int.reduceLT,Int.reduceLE,Int.reduceToNat,Int.reduceAdd,Int.reduceSub,Int.reduceMul,ne_eq,decide_true,decide_false,tf47, h0, h5, h6, h7, Int.cast_ofNat_Int]
    refine hB.aggK (o := 10) (by simp [clsCells]) ?_
    try simp -dsimp only [↓RE,↓c_seq,RU,RL,if_true,if_false,forall_const,implies_true,Nat.reduceLeDiff,Nat.reduceLT,pureOp,binPure,intBin,strBin,eqPure,isConstO,unPure,sliceLo,sliceHi,slicePure,slice3Pure,lenPure,capPure,minPure,maxPure,buildP,resK,endV,yieldE,↓reduceIte,Nat.reduceEqDiff,reduceCtorEq,Nat.reduceAdd,Nat.reduceMul,Nat.reduceSub,Int.reduceLT,Int.reduceLE,Int.reduceToNat,Int.reduceAdd,Int.reduceSub,Int.reduceMul,ne_eq,decide_true,decide_false,tf47, h0, h5, h6, h7, clsCells, List.drop_zero, List.drop_succ_cons, List.take_succ_cons, List.take_zero]
    refine hz0.stAgg (by simp) (by simp [Value.oneCell']) (fun w2 hB2 hK2 => ?_)
    have hB2 : Blk w2 w'.heap.size 126 [.int .i64 6, .int .i64 3, .int .i64 (-255), .int .i64 256, .int .i64 9] := by simpa using hB2
    have g2 : Grow w' w2 := ga.above hK2 (fun i hi e => by omega)
    have hpw : p < w'.heap.size := by omega
    try simp -dsimp only [↓RE,↓c_seq,RU,RL,if_true,if_false,forall_const,implies_true,Nat.reduceLeDiff,Nat.reduceLT,pureOp,binPure,intBin,strBin,eqPure,isConstO,unPure,sliceLo,sliceHi,slicePure,slice3Pure,lenPure,capPure,minPure,maxPure,buildP,resK,endV,yieldE,↓reduceIte,Nat.reduceEqDiff,reduceCtorEq,Nat.reduceAdd,Nat.reduceMul,Nat.reduceSub,Int.reduceLT,Int.reduceLE,Int.reduceToNat,Int.reduceAdd,Int.reduceSub,Int.reduceMul,ne_eq,decide_true,decide_false,tf47, h0, h5, h6, h7, hB2.cell]
    refine bitsR_ok (hRq.grow g2) okq (by omega) (by omega) (fun w3 hR3 hK3 => ?_)
    have g3 : Keep (fun k => k = p) w w3 := (hgr.then_grow g2).trans hK3 (fun _ _ e => e) (fun _ _ e => e)
    have hB3 := hB2.keep hK3 (by omega)
    have hBc3 := (hB.grow g2).keep hK3 hgp
    rcases b01 with hb | hb
    · have hde : rDelta s = dTail 2 (rBits 1 q).1 := by rw [← hd]; show (if (rBits 1 q).2 = 0 then dTail 2 (rBits 1 q).1 else _) = _; rw [if_pos hb]
      have okd := okq.bits 1
      generalize (rBits 1 q).1 = q2 at hR3 hde okd
      have hrg := rBits_range 9 q2
      try simp -dsimp only [↓RE,↓c_seq,RU,RL,if_true,if_false,forall_const,implies_true,Nat.reduceLeDiff,Nat.reduceLT,pureOp,binPure,intBin,strBin,eqPure,isConstO,unPure,sliceLo,sliceHi,slicePure,slice3Pure,lenPure,capPure,minPure,maxPure,buildP,resK,endV,yieldE,↓reduceIte,Nat.reduceEqDiff,reduceCtorEq,Nat.reduceAdd,Nat.reduceMul,Nat.reduceSub,Int.reduceLT,Int.reduceLE,Int.reduceToNat,Int.reduceAdd,Int.reduceSub,Int.reduceMul,ne_eq,decide_true,decide_false,tf47, h0, h5, h6, h7, hb, eq_self, hB3.cell]
      refine wpDraw_by (fun w0 => Blk w0 w'.heap.size 126 [.int .i64 6, .int .i64 3, .int .i64 (-255), .int .i64 256, .int .i64 9]) [(0, true), (1, true), (2, true), (5, true), (6, true), (3, false), (4, true), (7, true), (8, true)] (by kernel_rfl) hB3.drew ?_
      simp only [planL, List.getElem?_toArray, List.getElem?_cons_zero, List.getElem?_cons_succ, Option.toList_some, List.map_cons, List.map_nil, List.cons_append, List.nil_append]
      try simp -dsimp only [↓RE,↓c_seq,RU,RL,if_true,if_false,forall_const,implies_true,Nat.reduceLeDiff,Nat.reduceLT,pureOp,binPure,intBin,strBin,eqPure,isConstO,unPure,sliceLo,sliceHi,slicePure,slice3Pure,lenPure,capPure,minPure,maxPure,buildP,resK,endV,yieldE,↓reduceIte,Nat.reduceEqDiff,reduceCtorEq,Nat.reduceAdd,Nat.reduceMul,Nat.reduceSub,Int.reduceLT,Int.reduceLE,Int.reduceToNat,Int.reduceAdd,Int.reduceSub,Int.reduceMul,ne_eq,decide_true,decide_false,tf47, h0, h5, h6, h7]
      refine ⟨_, fun w9 hS => Blk.cell hS 4, ?_⟩
      try simp -dsimp only [↓RE,↓c_seq,RU,RL,if_true,if_false,forall_const,implies_true,Nat.reduceLeDiff,Nat.reduceLT,pureOp,binPure,intBin,strBin,eqPure,isConstO,unPure,sliceLo,sliceHi,slicePure,slice3Pure,lenPure,capPure,minPure,maxPure,buildP,resK,endV,yieldE,↓reduceIte,Nat.reduceEqDiff,reduceCtorEq,Nat.reduceAdd,Nat.reduceMul,Nat.reduceSub,Int.reduceLT,Int.reduceLE,Int.reduceToNat,Int.reduceAdd,Int.reduceSub,Int.reduceMul,ne_eq,decide_true,decide_false,tf47, h0, h5, h6, h7]
      refine ⟨_, fun w9 hS => Blk.cell hS 2, ?_⟩
      try simp -dsimp only [↓RE,↓c_seq,RU,RL,if_true,if_false,forall_const,implies_true,Nat.reduceLeDiff,Nat.reduceLT,pureOp,binPure,intBin,strBin,eqPure,isConstO,unPure,sliceLo,sliceHi,slicePure,slice3Pure,lenPure,capPure,minPure,maxPure,buildP,resK,endV,yieldE,↓reduceIte,Nat.reduceEqDiff,reduceCtorEq,Nat.reduceAdd,Nat.reduceMul,Nat.reduceSub,Int.reduceLT,Int.reduceLE,Int.reduceToNat,Int.reduceAdd,Int.reduceSub,Int.reduceMul,ne_eq,decide_true,decide_false,tf47, h0, h5, h6, h7]
      refine bitsR_ok (hR3.grow (Grow.drew _)) okd (by omega) (by omega) (fun w4 hR4 hK4 => ?_)
      have g4 : Keep (fun k => k = p) w w4 := (g3.then_grow (Grow.drew _)).trans hK4 (fun _ _ e => e) (fun _ _ e => e)
      have hB4 := hB3.drew.keep hK4 (by omega)
      have hfin := h w4 (by rw [hde]; exact hR4) g4
      rw [hde] at hfin
      rw [show brought 9 = 9 by decide, show (2 : Int) ^ 9 = 512 by decide] at hrg
      have v1 : IntKind.i64.wrap (IntKind.i64.wrap (rBits 9 q2).2 + (-255)) = (rBits 9 q2).2 - 255 := by rw [wrap_i64_in (n := (rBits 9 q2).2) (by omega) (by omega), wrap_i64_in (by omega) (by omega)]; omega
      try simp -dsimp only [↓RE,↓c_seq,RU,RL,if_true,if_false,forall_const,implies_true,Nat.reduceLeDiff,Nat.reduceLT,pureOp,binPure,intBin,strBin,eqPure,isConstO,unPure,sliceLo,sliceHi,slicePure,slice3Pure,lenPure,capPure,minPure,maxPure,buildP,resK,endV,yieldE,↓reduceIte,Nat.reduceEqDiff,reduceCtorEq,Nat.reduceAdd,Nat.reduceMul,Nat.reduceSub,Int.reduceLT,Int.reduceLE,Int.reduceToNat,Int.reduceAdd,Int.reduceSub,Int.reduceMul,ne_eq,decide_true,decide_false,tf47, h0, h5, h6, h7, v1]
      refine ⟨hB4, ?_⟩
      try simp -dsimp only [↓RE,↓c_seq,RU,RL,if_true,if_false,forall_const,implies_true,Nat.reduceLeDiff,Nat.reduceLT,pureOp,binPure,intBin,strBin,eqPure,isConstO,unPure,sliceLo,sliceHi,slicePure,slice3Pure,lenPure,capPure,minPure,maxPure,buildP,resK,endV,yieldE,↓reduceIte,Nat.reduceEqDiff,reduceCtorEq,Nat.reduceAdd,Nat.reduceMul,Nat.reduceSub,Int.reduceLT,Int.reduceLE,Int.reduceToNat,Int.reduceAdd,Int.reduceSub,Int.reduceMul,ne_eq,decide_true,decide_false,tf47, h0, h5, h6, h7, v1]
      exact hfin
    · have hd2 : rDfrom (4 - 3) 3 (rBits 1 q).1 = rDelta s := by rw [← hd]; show _ = (if (rBits 1 q).2 = 0 then _ else rDfrom (1) 3 (rBits 1 q).1); rw [if_neg (by omega)]
      have okd := okq.bits 1
      try simp -dsimp only [↓RE,↓c_seq,RU,RL,if_true,if_false,forall_const,implies_true,Nat.reduceLeDiff,Nat.reduceLT,pureOp,binPure,intBin,strBin,eqPure,isConstO,unPure,sliceLo,sliceHi,slicePure,slice3Pure,lenPure,capPure,minPure,maxPure,buildP,resK,endV,yieldE,↓reduceIte,Nat.reduceEqDiff,reduceCtorEq,Nat.reduceAdd,Nat.reduceMul,Nat.reduceSub,Int.reduceLT,Int.reduceLE,Int.reduceToNat,Int.reduceAdd,Int.reduceSub,Int.reduceMul,ne_eq,decide_true,decide_false,tf47, h0, h5, h6, h7, hb, Int.cast_ofNat_Int, Int.reduceEq]
      refine hold_intro ⟨⟨?_, ?_, ?_, 3, (rBits 1 q).1, by omega, ?_, hBc3, hR3, okd, hd2, g3⟩, ?_⟩
      · simp -dsimp only [↓RE,RU,RL,if_true,if_false,↓reduceIte,Nat.reduceEqDiff,reduceCtorEq,decide_true,decide_false, h0]
      · simp -dsimp only [↓RE,RU,RL,if_true,if_false,↓reduceIte,Nat.reduceEqDiff,reduceCtorEq,decide_true,decide_false, h5]
      · simp -dsimp only [↓RE,RU,RL,if_true,if_false,↓reduceIte,Nat.reduceEqDiff,reduceCtorEq,decide_true,decide_false, h6]
      · simp -dsimp only [↓RE,RU,RL,if_true,if_false,↓reduceIte,Nat.reduceEqDiff,reduceCtorEq,decide_true,decide_false, h7, Int.cast_ofNat_Int]
        rfl
      · simp -dsimp only [↓RE,RU,RL,if_true,if_false,↓reduceIte,Nat.reduceEqDiff,reduceCtorEq,decide_true,decide_false, h7, Int.cast_ofNat_Int]
        decide
  · try simp -dsimp only [↓RE,↓c_seq,RU,RL,if_true,if_false,forall_const,implies_true,Nat.reduceLeDiff,Nat.reduceLT,pureOp,binPure,intBin,strBin,eqPure,isConstO,unPure,sliceLo,sliceHi,slicePure,slice3Pure,lenPure,capPure,minPure,maxPure,buildP,resK,endV,yieldE,↓reduceIte,Nat.reduceEqDiff,reduceCtorEq,Nat.reduceAdd,Nat.reduceMul,Nat.reduceSub,Int.reduceLT,Int.reduceLE,Int.reduceToNat,Int.reduceAdd,Int.reduceSub,Int.reduceMul,ne_eq,decide_true,decide_false,tf47, h0, h5, h6, h7, Int.cast_ofNat_Int]
    refine hB.aggK (o := 15) (by simp [clsCells]) ?_
    try simp -dsimp only [↓RE,↓c_seq,RU,RL,if_true,if_false,forall_const,implies_true,Nat.reduceLeDiff,Nat.reduceLT,pureOp,binPure,intBin,strBin,eqPure,isConstO,unPure,sliceLo,sliceHi,slicePure,slice3Pure,lenPure,capPure,minPure,maxPure,buildP,resK,endV,yieldE,↓reduceIte,Nat.reduceEqDiff,reduceCtorEq,Nat.reduceAdd,Nat.reduceMul,Nat.reduceSub,Int.reduceLT,Int.reduceLE,Int.reduceToNat,Int.reduceAdd,Int.reduceSub,Int.reduceMul,ne_eq,decide_true,decide_false,tf47, h0, h5, h6, h7, clsCells, List.drop_zero, List.drop_succ_cons, List.take_succ_cons, List.take_zero]
    refine hz0.stAgg (by simp) (by simp [Value.oneCell']) (fun w2 hB2 hK2 => ?_)
    have hB2 : Blk w2 w'.heap.size 126 [.int .i64 14, .int .i64 4, .int .i64 (-2047), .int .i64 2048, .int .i64 12] := by simpa using hB2
    have g2 : Grow w' w2 := ga.above hK2 (fun i hi e => by omega)
    have hpw : p < w'.heap.size := by omega
    try simp -dsimp only [↓RE,↓c_seq,RU,RL,if_true,if_false,forall_const,implies_true,Nat.reduceLeDiff,Nat.reduceLT,pureOp,binPure,intBin,strBin,eqPure,isConstO,unPure,sliceLo,sliceHi,slicePure,slice3Pure,lenPure,capPure,minPure,maxPure,buildP,resK,endV,yieldE,↓reduceIte,Nat.reduceEqDiff,reduceCtorEq,Nat.reduceAdd,Nat.reduceMul,Nat.reduceSub,Int.reduceLT,Int.reduceLE,Int.reduceToNat,Int.reduceAdd,Int.reduceSub,Int.reduceMul,ne_eq,decide_true,decide_false,tf47, h0, h5, h6, h7, hB2.cell]
    refine bitsR_ok (hRq.grow g2) okq (by omega) (by omega) (fun w3 hR3 hK3 => ?_)
    have g3 : Keep (fun k => k = p) w w3 := (hgr.then_grow g2).trans hK3 (fun _ _ e => e) (fun _ _ e => e)
    have hB3 := hB2.keep hK3 (by omega)
    have hBc3 := (hB.grow g2).keep hK3 hgp
    rcases b01 with hb | hb
    · have hde : rDelta s = dTail 3 (rBits 1 q).1 := by rw [← hd]; show (if (rBits 1 q).2 = 0 then dTail 3 (rBits 1 q).1 else _) = _; rw [if_pos hb]
      have okd := okq.bits 1
      generalize (rBits 1 q).1 = q2 at hR3 hde okd
      have hrg := rBits_range 12 q2
      try simp -dsimp only [↓RE,↓c_seq,RU,RL,if_true,if_false,forall_const,implies_true,Nat.reduceLeDiff,Nat.reduceLT,pureOp,binPure,intBin,strBin,eqPure,isConstO,unPure,sliceLo,sliceHi,slicePure,slice3Pure,lenPure,capPure,minPure,maxPure,buildP,resK,endV,yieldE,↓reduceIte,Nat.reduceEqDiff,reduceCtorEq,Nat.reduceAdd,Nat.reduceMul,Nat.reduceSub,Int.reduceLT,Int.reduceLE,Int.reduceToNat,Int.reduceAdd,Int.reduceSub,Int.reduceMul,ne_eq,decide_true,decide_false,tf47, h0, h5, h6, h7, hb, eq_self, hB3.cell]
      refine wpDraw_by (fun w0 => Blk w0 w'.heap.size 126 [.int .i64 14, .int .i64 4, .int .i64 (-2047), .int .i64 2048, .int .i64 12]) [(0, true), (1, true), (2, true), (5, true), (6, true), (3, false), (4, true), (7, true), (8, true)] (by kernel_rfl) hB3.drew ?_
      simp only [planL, List.getElem?_toArray, List.getElem?_cons_zero, List.getElem?_cons_succ, Option.toList_some, List.map_cons, List.map_nil, List.cons_append, List.nil_append]
      try simp -dsimp only [↓RE,↓c_seq,RU,RL,if_true,if_false,forall_const,implies_true,Nat.reduceLeDiff,Nat.reduceLT,pureOp,binPure,intBin,strBin,eqPure,isConstO,unPure,sliceLo,sliceHi,slicePure,slice3Pure,lenPure,capPure,minPure,maxPure,buildP,resK,endV,yieldE,↓reduceIte,Nat.reduceEqDiff,reduceCtorEq,Nat.reduceAdd,Nat.reduceMul,Nat.reduceSub,Int.reduceLT,Int.reduceLE,Int.reduceToNat,Int.reduceAdd,Int.reduceSub,Int.reduceMul,ne_eq,decide_true,decide_false,tf47, h0, h5, h6, h7]
      refine ⟨_, fun w9 hS => Blk.cell hS 4, ?_⟩
      try simp -dsimp only [↓RE,↓c_seq,RU,RL,if_true,if_false,forall_const,implies_true,Nat.reduceLeDiff,Nat.reduceLT,pureOp,binPure,intBin,strBin,eqPure,isConstO,unPure,sliceLo,sliceHi,slicePure,slice3Pure,lenPure,capPure,minPure,maxPure,buildP,resK,endV,yieldE,↓reduceIte,Nat.reduceEqDiff,reduceCtorEq,Nat.reduceAdd,Nat.reduceMul,Nat.reduceSub,Int.reduceLT,Int.reduceLE,Int.reduceToNat,Int.reduceAdd,Int.reduceSub,Int.reduceMul,ne_eq,decide_true,decide_false,tf47, h0, h5, h6, h7]
      refine ⟨_, fun w9 hS => Blk.cell hS 2, ?_⟩
      try simp -dsimp only [↓RE,↓c_seq,RU,RL,if_true,if_false,forall_const,implies_true,Nat.reduceLeDiff,Nat.reduceLT,pureOp,binPure,intBin,strBin,eqPure,isConstO,unPure,sliceLo,sliceHi,slicePure,slice3Pure,lenPure,capPure,minPure,maxPure,buildP,resK,endV,yieldE,↓reduceIte,Nat.reduceEqDiff,reduceCtorEq,Nat.reduceAdd,Nat.reduceMul,Nat.reduceSub,Int.reduceLT,Int.reduceLE,Int.reduceToNat,Int.reduceAdd,Int.reduceSub,Int.reduceMul,ne_eq,decide_true,decide_false,tf47, h0, h5, h6, h7]
      refine bitsR_ok (hR3.grow (Grow.drew _)) okd (by omega) (by omega) (fun w4 hR4 hK4 => ?_)
      have g4 : Keep (fun k => k = p) w w4 := (g3.then_grow (Grow.drew _)).trans hK4 (fun _ _ e => e) (fun _ _ e => e)
      have hB4 := hB3.drew.keep hK4 (by omega)
      have hfin := h w4 (by rw [hde]; exact hR4) g4
      rw [hde] at hfin
      rw [show brought 12 = 12 by decide, show (2 : Int) ^ 12 = 4096 by decide] at hrg
      have v1 : IntKind.i64.wrap (IntKind.i64.wrap (rBits 12 q2).2 + (-2047)) = (rBits 12 q2).2 - 2047 := by rw [wrap_i64_in (n := (rBits 12 q2).2) (by omega) (by omega), wrap_i64_in (by omega) (by omega)]; omega
      try simp -dsimp only [↓RE,↓c_seq,RU,RL,if_true,if_false,forall_const,implies_true,Nat.reduceLeDiff,Nat.reduceLT,pureOp,binPure,intBin,strBin,eqPure,isConstO,unPure,sliceLo,sliceHi,slicePure,slice3Pure,lenPure,capPure,minPure,maxPure,buildP,resK,endV,yieldE,↓reduceIte,Nat.reduceEqDiff,reduceCtorEq,Nat.reduceAdd,Nat.reduceMul,Nat.reduceSub,Int.reduceLT,Int.reduceLE,Int.reduceToNat,Int.reduceAdd,Int.reduceSub,Int.reduceMul,ne_eq,decide_true,decide_false,tf47, h0, h5, h6, h7, v1]
      refine ⟨hB4, ?_⟩
      try simp -dsimp only [↓RE,↓c_seq,RU,RL,if_true,if_false,forall_const,implies_true,Nat.reduceLeDiff,Nat.reduceLT,pureOp,binPure,intBin,strBin,eqPure,isConstO,unPure,sliceLo,sliceHi,slicePure,slice3Pure,lenPure,capPure,minPure,maxPure,buildP,resK,endV,yieldE,↓reduceIte,Nat.reduceEqDiff,reduceCtorEq,Nat.reduceAdd,Nat.reduceMul,Nat.reduceSub,Int.reduceLT,Int.reduceLE,Int.reduceToNat,Int.reduceAdd,Int.reduceSub,Int.reduceMul,ne_eq,decide_true,decide_false,tf47, h0, h5, h6, h7, v1]
      exact hfin
    · have hd2 : rDfrom (4 - 4) 4 (rBits 1 q).1 = rDelta s := by rw [← hd]; show _ = (if (rBits 1 q).2 = 0 then _ else rDfrom (0) 4 (rBits 1 q).1); rw [if_neg (by omega)]
      have okd := okq.bits 1
      try simp -dsimp only [↓RE,↓c_seq,RU,RL,if_true,if_false,forall_const,implies_true,Nat.reduceLeDiff,Nat.reduceLT,pureOp,binPure,intBin,strBin,eqPure,isConstO,unPure,sliceLo,sliceHi,slicePure,slice3Pure,lenPure,capPure,minPure,maxPure,buildP,resK,endV,yieldE,↓reduceIte,Nat.reduceEqDiff,reduceCtorEq,Nat.reduceAdd,Nat.reduceMul,Nat.reduceSub,Int.reduceLT,Int.reduceLE,Int.reduceToNat,Int.reduceAdd,Int.reduceSub,Int.reduceMul,ne_eq,decide_true,decide_false,tf47, h0, h5, h6, h7, hb, Int.cast_ofNat_Int, Int.reduceEq]
      refine hold_intro ⟨⟨?_, ?_, ?_, 4, (rBits 1 q).1, by omega, ?_, hBc3, hR3, okd, hd2, g3⟩, ?_⟩
      · simp -dsimp only [↓RE,RU,RL,if_true,if_false,↓reduceIte,Nat.reduceEqDiff,reduceCtorEq,decide_true,decide_false, h0]
      · simp -dsimp only [↓RE,RU,RL,if_true,if_false,↓reduceIte,Nat.reduceEqDiff,reduceCtorEq,decide_true,decide_false, h5]
      · simp -dsimp only [↓RE,RU,RL,if_true,if_false,↓reduceIte,Nat.reduceEqDiff,reduceCtorEq,decide_true,decide_false, h6]
      · simp -dsimp only [↓RE,RU,RL,if_true,if_false,↓reduceIte,Nat.reduceEqDiff,reduceCtorEq,decide_true,decide_false, h7, Int.cast_ofNat_Int]
        rfl
      · simp -dsimp only [↓RE,RU,RL,if_true,if_false,↓reduceIte,Nat.reduceEqDiff,reduceCtorEq,decide_true,decide_false, h7, Int.cast_ofNat_Int]
        decide
  · have hde : rDelta s = ((rBits 64 q).1, IntKind.i64.wrap (rBits 64 q).2) := hd.symm
    try simp -dsimp only [↓RE,↓c_seq,RU,RL,if_true,if_false,forall_const,implies_true,Nat.reduceLeDiff,Nat.reduceLT,pureOp,binPure,intBin,strBin,eqPure,isConstO,unPure,sliceLo,sliceHi,slicePure,slice3Pure,lenPure,capPure,minPure,maxPure,buildP,resK,endV,yieldE,↓reduceIte,Nat.reduceEqDiff,reduceCtorEq,Nat.reduceAdd,Nat.reduceMul,Nat.reduceSub,Int.reduceLT,Int.reduceLE,Int.reduceToNat,Int.reduceAdd,Int.reduceSub,Int.reduceMul,ne_eq,decide_true,decide_false,tf47, h0, h5, h6, h7, Int.cast_ofNat_Int]
    refine bitsR_ok hRq okq (by omega) (by omega) (fun w3 hR3 hK3 => ?_)
    rw [hde] at h
    try simp -dsimp only [↓RE,↓c_seq,RU,RL,if_true,if_false,forall_const,implies_true,Nat.reduceLeDiff,Nat.reduceLT,pureOp,binPure,intBin,strBin,eqPure,isConstO,unPure,sliceLo,sliceHi,slicePure,slice3Pure,lenPure,capPure,minPure,maxPure,buildP,resK,endV,yieldE,↓reduceIte,Nat.reduceEqDiff,reduceCtorEq,Nat.reduceAdd,Nat.reduceMul,Nat.reduceSub,Int.reduceLT,Int.reduceLE,Int.reduceToNat,Int.reduceAdd,Int.reduceSub,Int.reduceMul,ne_eq,decide_true,decide_false,tf47, h0]
    exact h w3 hR3 (hgr.trans hK3 (fun _ _ e => e) (fun _ _ e => e))

end Go.Proofs.Ytpocfghkolppmaa

namespace Go.Proofs.Ytpocfghkolppmaa
open Go

theorem unvalue_ok {w : World} {F : Nat → Prop} {p : Nat} {s : RS} (hR : RAt w F p s) (ok : RSok s) {last : Int × Int} (hl : VOk last) {ahead : Int} (a0 : -9223372036854775808 ≤ ahead) (a1 : ahead < 9223372036854775808) {R : VWK}
    (h : ∀ w', RAt w' F p (rVal s last ahead).1 → Keep (fun k => k = p) w w' → R (.agg #[.int .u8 (rVal s last ahead).2.1, .int .i64 (rVal s last ahead).2.2]) w') :
    CallsV Try.prog 49 [.pointer (some ⟨p, 0, none⟩), .agg #[.int .u8 last.1, .int .i64 last.2], .int .i64 ahead] w R := by
  have hpl := hR.lt p hR.at
  refine calls_of_wpC mixed Try.func49 rfl (by kernel_rfl) ?_
  intro e he
  have he0 := he 0
  have he1 := he 1
  have he2 := he 2
  simp only [List.getD_cons_zero, List.getD_cons_succ] at he0 he1 he2
  clear he
  have hb1 := Blk.new' w 35 #[.int .u8 last.1, .int .i64 last.2]
  have ga1 := Grow.alloc w (.cells #[.int .u8 last.1, .int .i64 last.2] 35)
  rw [c_seq]
  simp -dsimp only [↓RE,RU,RL,if_true,if_false,forall_const,implies_true,Nat.reduceLeDiff,Nat.reduceLT,pureOp,binPure,intBin,strBin,eqPure,isConstO,unPure,sliceLo,sliceHi,slicePure,slice3Pure,lenPure,capPure,minPure,maxPure,buildP,resK,endV,yieldE,↓reduceIte,Nat.reduceEqDiff,reduceCtorEq,Nat.reduceAdd,Nat.reduceMul,Nat.reduceSub,Int.reduceLT,Int.reduceLE,Int.reduceToNat,Int.reduceAdd,Int.reduceSub,Int.reduceMul,ne_eq,decide_true,decide_false,tf49, he0, he1, he2]
  generalize hw1 : w.alloc (.cells #[.int .u8 last.1, .int .i64 last.2] 35) = w1 at *
  have hs1 : w1.heap.size = w.heap.size + 1 := by rw [← hw1]; simp
  have hb2 := Blk.new' w1 35 #[.int .u8 0, .int .i64 0]
  have ga2 := Grow.alloc w1 (.cells #[.int .u8 0, .int .i64 0] 35)
  have hb1' := hb1.grow ga2
  have g2 := ga1.trans ga2
  try simp -dsimp only [↓RE,↓c_seq,RU,RL,if_true,if_false,forall_const,implies_true,Nat.reduceLeDiff,Nat.reduceLT,pureOp,binPure,intBin,strBin,eqPure,isConstO,unPure,sliceLo,sliceHi,slicePure,slice3Pure,lenPure,capPure,minPure,maxPure,buildP,resK,endV,yieldE,↓reduceIte,Nat.reduceEqDiff,reduceCtorEq,Nat.reduceAdd,Nat.reduceMul,Nat.reduceSub,Int.reduceLT,Int.reduceLE,Int.reduceToNat,Int.reduceAdd,Int.reduceSub,Int.reduceMul,ne_eq,decide_true,decide_false,tf49, he0, he1, he2, hw1]
  have fin : ∀ {w' : World} {v : Int × Int} {K : WK} {tk : Tok K}, Blk w' w1.heap.size 35 [.int .u8 0, .int .i64 0] → (∀ w2, Blk w2 w1.heap.size 35 (vcells v) → Keep (fun k => k = w1.heap.size) w' w2 → K w2) →
      aggSt Try.prog w' ⟨w1.heap.size, 0, none⟩ [.int .u8 v.1, .int .i64 v.2] K tk := by
    intro w' v K tk hB hk
    refine hB.stAgg (by simp) (by simp [Value.oneCell']) (fun w2 hB2 hK2 => hk w2 (by simpa [vcells] using hB2) hK2)
  refine bitsR_ok (hR.grow g2) ok (by omega) (by omega) (fun w3 hR3 hK3 => ?_)
  have hL3 := hb1'.keep hK3 (by omega)
  have hZ3 := hb2.keep hK3 (by omega)
  have k3 : Keep (fun k => k = p) w w3 := g2.then hK3
  have hs3 := k3.size
  rcases rBits_01 s with hb | hb
  · have hv : rVal s last ahead = ((rBits 1 s).1, last) := if_pos hb
    rw [hv] at h
    try simp -dsimp only [↓RE,↓c_seq,RU,RL,if_true,if_false,forall_const,implies_true,Nat.reduceLeDiff,Nat.reduceLT,pureOp,binPure,intBin,strBin,eqPure,isConstO,unPure,sliceLo,sliceHi,slicePure,slice3Pure,lenPure,capPure,minPure,maxPure,buildP,resK,endV,yieldE,↓reduceIte,Nat.reduceEqDiff,reduceCtorEq,Nat.reduceAdd,Nat.reduceMul,Nat.reduceSub,Int.reduceLT,Int.reduceLE,Int.reduceToNat,Int.reduceAdd,Int.reduceSub,Int.reduceMul,ne_eq,decide_true,decide_false,tf49, he0, he1, he2, hw1, hb, eq_self]
    refine hL3.aggK (by simp) ?_
    try simp -dsimp only [↓RE,↓c_seq,RU,RL,if_true,if_false,forall_const,implies_true,Nat.reduceLeDiff,Nat.reduceLT,pureOp,binPure,intBin,strBin,eqPure,isConstO,unPure,sliceLo,sliceHi,slicePure,slice3Pure,lenPure,capPure,minPure,maxPure,buildP,resK,endV,yieldE,↓reduceIte,Nat.reduceEqDiff,reduceCtorEq,Nat.reduceAdd,Nat.reduceMul,Nat.reduceSub,Int.reduceLT,Int.reduceLE,Int.reduceToNat,Int.reduceAdd,Int.reduceSub,Int.reduceMul,ne_eq,decide_true,decide_false,tf49, he0, he1, he2, hw1, List.drop_zero, List.take_succ_cons, List.take_zero]
    refine fin (v := last) hZ3 (fun w4 hB4 hK4 => ?_)
    have k4 : Keep (fun k => k = p) w w4 := k3.above hK4 (fun i hi e => by omega)
    try simp -dsimp only [↓RE,↓c_seq,RU,RL,if_true,if_false,forall_const,implies_true,Nat.reduceLeDiff,Nat.reduceLT,pureOp,binPure,intBin,strBin,eqPure,isConstO,unPure,sliceLo,sliceHi,slicePure,slice3Pure,lenPure,capPure,minPure,maxPure,buildP,resK,endV,yieldE,↓reduceIte,Nat.reduceEqDiff,reduceCtorEq,Nat.reduceAdd,Nat.reduceMul,Nat.reduceSub,Int.reduceLT,Int.reduceLE,Int.reduceToNat,Int.reduceAdd,Int.reduceSub,Int.reduceMul,ne_eq,decide_true,decide_false,tf49, he0, he1, he2, hw1]
    refine hB4.aggK (by simp [vcells]) ?_
    try simp -dsimp only [↓RE,↓c_seq,RU,RL,if_true,if_false,forall_const,implies_true,Nat.reduceLeDiff,Nat.reduceLT,pureOp,binPure,intBin,strBin,eqPure,isConstO,unPure,sliceLo,sliceHi,slicePure,slice3Pure,lenPure,capPure,minPure,maxPure,buildP,resK,endV,yieldE,↓reduceIte,Nat.reduceEqDiff,reduceCtorEq,Nat.reduceAdd,Nat.reduceMul,Nat.reduceSub,Int.reduceLT,Int.reduceLE,Int.reduceToNat,Int.reduceAdd,Int.reduceSub,Int.reduceMul,ne_eq,decide_true,decide_false,tf49, he0, he1, he2, hw1, vcells, List.drop_zero, List.take_succ_cons, List.take_zero]
    exact h w4 (hR3.keep hK4 (fun k hk e => by have := hR.lt k hk; omega)) k4
  have ok2 := ok.bits 1
  try simp -dsimp only [↓RE,↓c_seq,RU,RL,if_true,if_false,forall_const,implies_true,Nat.reduceLeDiff,Nat.reduceLT,pureOp,binPure,intBin,strBin,eqPure,isConstO,unPure,sliceLo,sliceHi,slicePure,slice3Pure,lenPure,capPure,minPure,maxPure,buildP,resK,endV,yieldE,↓reduceIte,Nat.reduceEqDiff,reduceCtorEq,Nat.reduceAdd,Nat.reduceMul,Nat.reduceSub,Int.reduceLT,Int.reduceLE,Int.reduceToNat,Int.reduceAdd,Int.reduceSub,Int.reduceMul,ne_eq,decide_true,decide_false,tf49, he0, he1, he2, hw1, hb, Int.reduceEq]
  refine bitsR_ok hR3 ok2 (by omega) (by omega) (fun w4 hR4 hK4 => ?_)
  have hZ4 := hZ3.keep hK4 (by omega)
  have k4 : Keep (fun k => k = p) w w4 := k3.trans hK4 (fun _ _ e => e) (fun _ _ e => e)
  have ok3 := ok2.bits 1
  rcases rBits_01 (rBits 1 s).1 with hc | hc
  · have hv : rVal s last ahead = ((rBits ((rBits 6 (rBits 1 (rBits 1 s).1).1).2 + 1) (rBits 6 (rBits 1 (rBits 1 s).1).1).1).1,
      (0, IntKind.i64.wrap (ahead + unfoldI (rBits ((rBits 6 (rBits 1 (rBits 1 s).1).1).2 + 1) (rBits 6 (rBits 1 (rBits 1 s).1).1).1).2))) := by
      unfold rVal; rw [if_neg (by omega), if_pos hc]
    rw [hv] at h
    have hrg := rBits_range 6 (rBits 1 (rBits 1 s).1).1
    rw [show brought 6 = 6 by decide, show (2 : Int) ^ 6 = 64 by decide] at hrg
    generalize (rBits 1 (rBits 1 s).1).1 = q3 at *
    try simp -dsimp only [↓RE,↓c_seq,RU,RL,if_true,if_false,forall_const,implies_true,Nat.reduceLeDiff,Nat.reduceLT,pureOp,binPure,intBin,strBin,eqPure,isConstO,unPure,sliceLo,sliceHi,slicePure,slice3Pure,lenPure,capPure,minPure,maxPure,buildP,resK,endV,yieldE,↓reduceIte,Nat.reduceEqDiff,reduceCtorEq,Nat.reduceAdd,Nat.reduceMul,Nat.reduceSub,Int.reduceLT,Int.reduceLE,Int.reduceToNat,Int.reduceAdd,Int.reduceSub,Int.reduceMul,ne_eq,decide_true,decide_false,tf49, he0, he1, he2, hw1, hc, eq_self]
    refine bitsR_ok hR4 ok3 (by omega) (by omega) (fun w5 hR5 hK5 => ?_)
    have hZ5 := hZ4.keep hK5 (by omega)
    have k5 : Keep (fun k => k = p) w w5 := k4.trans hK5 (fun _ _ e => e) (fun _ _ e => e)
    have ok4 := ok3.bits 6
    have e1 : IntKind.i64.wrap (rBits 6 q3).2 = (rBits 6 q3).2 := wrap_i64_in (by omega) (by omega)
    have e2 : IntKind.i64.wrap ((rBits 6 q3).2 + 1) = (rBits 6 q3).2 + 1 := wrap_i64_in (by omega) (by omega)
    try simp -dsimp only [↓RE,↓c_seq,RU,RL,if_true,if_false,forall_const,implies_true,Nat.reduceLeDiff,Nat.reduceLT,pureOp,binPure,intBin,strBin,eqPure,isConstO,unPure,sliceLo,sliceHi,slicePure,slice3Pure,lenPure,capPure,minPure,maxPure,buildP,resK,endV,yieldE,↓reduceIte,Nat.reduceEqDiff,reduceCtorEq,Nat.reduceAdd,Nat.reduceMul,Nat.reduceSub,Int.reduceLT,Int.reduceLE,Int.reduceToNat,Int.reduceAdd,Int.reduceSub,Int.reduceMul,ne_eq,decide_true,decide_false,tf49, he0, he1, he2, hw1, e1, e2]
    refine bitsR_ok hR5 ok4 (by omega) (by omega) (fun w6 hR6 hK6 => ?_)
    have hZ6 := hZ5.keep hK6 (by omega)
    have k6 : Keep (fun k => k = p) w w6 := k5.trans hK6 (fun _ _ e => e) (fun _ _ e => e)
    have hs6 := k6.size
    have hz := rBits_range64 ((rBits 6 q3).2 + 1) (rBits 6 q3).1
    generalize rBits ((rBits 6 q3).2 + 1) (rBits 6 q3).1 = zq at *
    obtain ⟨q5, z⟩ := zq
    simp only at hz hR6 h
    have hand := and_u64_1 hz.1 hz.2
    have e3 : IntKind.i64.wrap (z / 2) = z / 2 := wrap_i64_in (by omega) (by omega)
    have e4 : IntKind.i64.wrap (z % 2) = z % 2 := wrap_i64_in (by omega) (by omega)
    have e5 : IntKind.i64.wrap (0 - z % 2) = - (z % 2) := by rw [wrap_i64_in (by omega) (by omega)]; omega
    have e6 : bitsOp .xor .i64 (z / 2) (- (z % 2)) = unfoldI z := by
      unfold unfoldI
      by_cases hv : z % 2 = 0
      · rw [if_pos hv, hv, Int.neg_zero, xor_i64_zero (by omega) (by omega)]
      · rw [if_neg hv, show z % 2 = 1 by omega, xor_i64_ones (by omega) (by omega)]
    try simp -dsimp only [↓RE,↓c_seq,RU,RL,if_true,if_false,forall_const,implies_true,Nat.reduceLeDiff,Nat.reduceLT,pureOp,binPure,intBin,strBin,eqPure,isConstO,unPure,sliceLo,sliceHi,slicePure,slice3Pure,lenPure,capPure,minPure,maxPure,buildP,resK,endV,yieldE,↓reduceIte,Nat.reduceEqDiff,reduceCtorEq,Nat.reduceAdd,Nat.reduceMul,Nat.reduceSub,Int.reduceLT,Int.reduceLE,Int.reduceToNat,Int.reduceAdd,Int.reduceSub,Int.reduceMul,ne_eq,decide_true,decide_false,tf49, he0, he1, he2, hw1, shr_u64_1, hand, e3, e4, e5, e6]
    refine fin (v := (0, IntKind.i64.wrap (ahead + unfoldI z))) hZ6 (fun w7 hB7 hK7 => ?_)
    have k7 : Keep (fun k => k = p) w w7 := k6.above hK7 (fun i hi e => by omega)
    try simp -dsimp only [↓RE,↓c_seq,RU,RL,if_true,if_false,forall_const,implies_true,Nat.reduceLeDiff,Nat.reduceLT,pureOp,binPure,intBin,strBin,eqPure,isConstO,unPure,sliceLo,sliceHi,slicePure,slice3Pure,lenPure,capPure,minPure,maxPure,buildP,resK,endV,yieldE,↓reduceIte,Nat.reduceEqDiff,reduceCtorEq,Nat.reduceAdd,Nat.reduceMul,Nat.reduceSub,Int.reduceLT,Int.reduceLE,Int.reduceToNat,Int.reduceAdd,Int.reduceSub,Int.reduceMul,ne_eq,decide_true,decide_false,tf49, he0, he1, he2, hw1]
    refine hB7.aggK (by simp [vcells]) ?_
    try simp -dsimp only [↓RE,↓c_seq,RU,RL,if_true,if_false,forall_const,implies_true,Nat.reduceLeDiff,Nat.reduceLT,pureOp,binPure,intBin,strBin,eqPure,isConstO,unPure,sliceLo,sliceHi,slicePure,slice3Pure,lenPure,capPure,minPure,maxPure,buildP,resK,endV,yieldE,↓reduceIte,Nat.reduceEqDiff,reduceCtorEq,Nat.reduceAdd,Nat.reduceMul,Nat.reduceSub,Int.reduceLT,Int.reduceLE,Int.reduceToNat,Int.reduceAdd,Int.reduceSub,Int.reduceMul,ne_eq,decide_true,decide_false,tf49, he0, he1, he2, hw1, vcells, List.drop_zero, List.take_succ_cons, List.take_zero]
    exact h w7 (hR6.keep hK7 (fun k hk e => by have := hR.lt k hk; omega)) k7
  have hv : rVal s last ahead = ((rBits 1 (rBits 1 (rBits 1 s).1).1).1, (1 + (rBits 1 (rBits 1 (rBits 1 s).1).1).2, 0)) := by
    unfold rVal; rw [if_neg (by omega), if_neg (by omega)]
  rw [hv] at h
  generalize (rBits 1 (rBits 1 s).1).1 = q3 at *
  try simp -dsimp only [↓RE,↓c_seq,RU,RL,if_true,if_false,forall_const,implies_true,Nat.reduceLeDiff,Nat.reduceLT,pureOp,binPure,intBin,strBin,eqPure,isConstO,unPure,sliceLo,sliceHi,slicePure,slice3Pure,lenPure,capPure,minPure,maxPure,buildP,resK,endV,yieldE,↓reduceIte,Nat.reduceEqDiff,reduceCtorEq,Nat.reduceAdd,Nat.reduceMul,Nat.reduceSub,Int.reduceLT,Int.reduceLE,Int.reduceToNat,Int.reduceAdd,Int.reduceSub,Int.reduceMul,ne_eq,decide_true,decide_false,tf49, he0, he1, he2, hw1, hc, Int.reduceEq]
  refine bitsR_ok hR4 ok3 (by omega) (by omega) (fun w5 hR5 hK5 => ?_)
  have hZ5 := hZ4.keep hK5 (by omega)
  have k5 : Keep (fun k => k = p) w w5 := k4.trans hK5 (fun _ _ e => e) (fun _ _ e => e)
  have hs5 := k5.size
  rcases rBits_01 q3 with hd | hd
  · rw [hd] at h
    try simp -dsimp only [↓RE,↓c_seq,RU,RL,if_true,if_false,forall_const,implies_true,Nat.reduceLeDiff,Nat.reduceLT,pureOp,binPure,intBin,strBin,eqPure,isConstO,unPure,sliceLo,sliceHi,slicePure,slice3Pure,lenPure,capPure,minPure,maxPure,buildP,resK,endV,yieldE,↓reduceIte,Nat.reduceEqDiff,reduceCtorEq,Nat.reduceAdd,Nat.reduceMul,Nat.reduceSub,Int.reduceLT,Int.reduceLE,Int.reduceToNat,Int.reduceAdd,Int.reduceSub,Int.reduceMul,ne_eq,decide_true,decide_false,tf49, he0, he1, he2, hw1, hd, eq_self]
    refine fin (v := (1, 0)) hZ5 (fun w7 hB7 hK7 => ?_)
    have k7 : Keep (fun k => k = p) w w7 := k5.above hK7 (fun i hi e => by omega)
    try simp -dsimp only [↓RE,↓c_seq,RU,RL,if_true,if_false,forall_const,implies_true,Nat.reduceLeDiff,Nat.reduceLT,pureOp,binPure,intBin,strBin,eqPure,isConstO,unPure,sliceLo,sliceHi,slicePure,slice3Pure,lenPure,capPure,minPure,maxPure,buildP,resK,endV,yieldE,↓reduceIte,Nat.reduceEqDiff,reduceCtorEq,Nat.reduceAdd,Nat.reduceMul,Nat.reduceSub,Int.reduceLT,Int.reduceLE,Int.reduceToNat,Int.reduceAdd,Int.reduceSub,Int.reduceMul,ne_eq,decide_true,decide_false,tf49, he0, he1, he2, hw1]
    refine hB7.aggK (by simp [vcells]) ?_
    try simp -dsimp only [↓RE,↓c_seq,RU,RL,if_true,if_false,forall_const,implies_true,Nat.reduceLeDiff,Nat.reduceLT,pureOp,binPure,intBin,strBin,eqPure,isConstO,unPure,sliceLo,sliceHi,slicePure,slice3Pure,lenPure,capPure,minPure,maxPure,buildP,resK,endV,yieldE,↓reduceIte,Nat.reduceEqDiff,reduceCtorEq,Nat.reduceAdd,Nat.reduceMul,Nat.reduceSub,Int.reduceLT,Int.reduceLE,Int.reduceToNat,Int.reduceAdd,Int.reduceSub,Int.reduceMul,ne_eq,decide_true,decide_false,tf49, he0, he1, he2, hw1, vcells, List.drop_zero, List.take_succ_cons, List.take_zero]
    exact h w7 (hR5.keep hK7 (fun k hk e => by have := hR.lt k hk; omega)) k7
  · rw [hd] at h
    try simp -dsimp only [↓RE,↓c_seq,RU,RL,if_true,if_false,forall_const,implies_true,Nat.reduceLeDiff,Nat.reduceLT,pureOp,binPure,intBin,strBin,eqPure,isConstO,unPure,sliceLo,sliceHi,slicePure,slice3Pure,lenPure,capPure,minPure,maxPure,buildP,resK,endV,yieldE,↓reduceIte,Nat.reduceEqDiff,reduceCtorEq,Nat.reduceAdd,Nat.reduceMul,Nat.reduceSub,Int.reduceLT,Int.reduceLE,Int.reduceToNat,Int.reduceAdd,Int.reduceSub,Int.reduceMul,ne_eq,decide_true,decide_false,tf49, he0, he1, he2, hw1, hd, Int.reduceEq]
    refine fin (v := (2, 0)) hZ5 (fun w7 hB7 hK7 => ?_)
    have k7 : Keep (fun k => k = p) w w7 := k5.above hK7 (fun i hi e => by omega)
    try simp -dsimp only [↓RE,↓c_seq,RU,RL,if_true,if_false,forall_const,implies_true,Nat.reduceLeDiff,Nat.reduceLT,pureOp,binPure,intBin,strBin,eqPure,isConstO,unPure,sliceLo,sliceHi,slicePure,slice3Pure,lenPure,capPure,minPure,maxPure,buildP,resK,endV,yieldE,↓reduceIte,Nat.reduceEqDiff,reduceCtorEq,Nat.reduceAdd,Nat.reduceMul,Nat.reduceSub,Int.reduceLT,Int.reduceLE,Int.reduceToNat,Int.reduceAdd,Int.reduceSub,Int.reduceMul,ne_eq,decide_true,decide_false,tf49, he0, he1, he2, hw1]
    refine hB7.aggK (by simp [vcells]) ?_
    try simp -dsimp only [↓RE,↓c_seq,RU,RL,if_true,if_false,forall_const,implies_true,Nat.reduceLeDiff,Nat.reduceLT,pureOp,binPure,intBin,strBin,eqPure,isConstO,unPure,sliceLo,sliceHi,slicePure,slice3Pure,lenPure,capPure,minPure,maxPure,buildP,resK,endV,yieldE,↓reduceIte,Nat.reduceEqDiff,reduceCtorEq,Nat.reduceAdd,Nat.reduceMul,Nat.reduceSub,Int.reduceLT,Int.reduceLE,Int.reduceToNat,Int.reduceAdd,Int.reduceSub,Int.reduceMul,ne_eq,decide_true,decide_false,tf49, he0, he1, he2, hw1, vcells, List.drop_zero, List.take_succ_cons, List.take_zero]
    exact h w7 (hR5.keep hK7 (fun k hk e => by have := hR.lt k hk; omega)) k7

end Go.Proofs.Ytpocfghkolppmaa

namespace Go.Proofs.Ytpocfghkolppmaa
open Go

theorem nums_inj {xs ys : List Int} (hx : ∀ z ∈ xs, 0 ≤ z ∧ z < 256) (hy : ∀ z ∈ ys, 0 ≤ z ∧ z < 256) : (strOfNums xs = strOfNums ys) ↔ xs = ys := by
  refine ⟨fun h => ?_, fun h => by rw [h]⟩
  have h1 := nums_back hx
  rw [h, nums_back hy] at h1
  exact (List.map_inj_right (fun a b hab => by injection hab)).1 h1.symm
theorem nums_eqb {xs ys : List Int} (hx : ∀ z ∈ xs, 0 ≤ z ∧ z < 256) (hy : ∀ z ∈ ys, 0 ≤ z ∧ z < 256) : ((strOfNums xs).toList == (strOfNums ys).toList) = decide (xs = ys) := by
  rw [ByteArray.toList_eq, ByteArray.toList_eq]
  by_cases h : xs = ys
  · subst h
    rw [decide_eq_true rfl]; exact beq_self_eq_true _
  · rw [decide_eq_false h, beq_eq_false_iff_ne]
    intro hq
    refine h ((nums_inj hx hy).1 ?_)
    cases hs : strOfNums xs; cases ht : strOfNums ys
    rw [hs, ht] at hq
    have hq := Array.toList_inj.1 hq
    simp only at hq
    rw [hq]
theorem equal_ok {w : World} {A B : Option Addr} {n m c d : Nat} {xs ys : List Int} (hA : Rd w A n 1 (xs.map (Value.int .u8))) (hB : Rd w B m 1 (ys.map (Value.int .u8)))
    (hx : ∀ z ∈ xs, 0 ≤ z ∧ z < 256) (hy : ∀ z ∈ ys, 0 ≤ z ∧ z < 256) {R : VWK} (h : ∀ w', Grow w w' → R (.bool (decide (xs = ys))) w') :
    CallsV Try.prog 48 [.slice A n c, .slice B m d] w R := by
  refine calls_of_wpC mixed Try.func48 rfl (by kernel_rfl) ?_
  intro e he
  have he0 := he 0
  have he1 := he 1
  simp only [List.getD_cons_zero, List.getD_cons_succ] at he0 he1
  clear he
  try simp -dsimp only [↓RE,↓c_seq,RU,RL,if_true,if_false,forall_const,implies_true,Nat.reduceLeDiff,Nat.reduceLT,pureOp,binPure,intBin,strBin,eqPure,isConstO,unPure,sliceLo,sliceHi,slicePure,slice3Pure,lenPure,capPure,minPure,maxPure,buildP,resK,endV,yieldE,↓reduceIte,Nat.reduceEqDiff,reduceCtorEq,Nat.reduceAdd,Nat.reduceMul,Nat.reduceSub,Int.reduceLT,Int.reduceLE,Int.reduceToNat,Int.reduceAdd,Int.reduceSub,Int.reduceMul,ne_eq,decide_true,decide_false,tf48, he0, he1]
  refine genK_totext rfl Try.underlying28 Try.underlying5 Try.underlying9 (A := A) (n := n) (c := c) (xs := xs) (by simp -dsimp only [↓RE,RU,RL,if_true,if_false,↓reduceIte,Nat.reduceEqDiff,reduceCtorEq,decide_true,decide_false, he0, he1]) hA ?_
  try simp -dsimp only [↓RE,↓c_seq,RU,RL,if_true,if_false,forall_const,implies_true,Nat.reduceLeDiff,Nat.reduceLT,pureOp,binPure,intBin,strBin,eqPure,isConstO,unPure,sliceLo,sliceHi,slicePure,slice3Pure,lenPure,capPure,minPure,maxPure,buildP,resK,endV,yieldE,↓reduceIte,Nat.reduceEqDiff,reduceCtorEq,Nat.reduceAdd,Nat.reduceMul,Nat.reduceSub,Int.reduceLT,Int.reduceLE,Int.reduceToNat,Int.reduceAdd,Int.reduceSub,Int.reduceMul,ne_eq,decide_true,decide_false,tf48, he0, he1]
  refine genK_totext rfl Try.underlying28 Try.underlying5 Try.underlying9 (A := B) (n := m) (c := d) (xs := ys) (by simp -dsimp only [↓RE,RU,RL,if_true,if_false,↓reduceIte,Nat.reduceEqDiff,reduceCtorEq,decide_true,decide_false, he0, he1]) hB ?_
  try simp -dsimp only [↓RE,↓c_seq,RU,RL,if_true,if_false,forall_const,implies_true,Nat.reduceLeDiff,Nat.reduceLT,pureOp,binPure,intBin,strBin,eqPure,isConstO,unPure,sliceLo,sliceHi,slicePure,slice3Pure,lenPure,capPure,minPure,maxPure,buildP,resK,endV,yieldE,↓reduceIte,Nat.reduceEqDiff,reduceCtorEq,Nat.reduceAdd,Nat.reduceMul,Nat.reduceSub,Int.reduceLT,Int.reduceLE,Int.reduceToNat,Int.reduceAdd,Int.reduceSub,Int.reduceMul,ne_eq,decide_true,decide_false,tf48, he0, he1]
  rw [nums_eqb hx hy]
  exact h w (Keep.refl _ _)
end Go.Proofs.Ytpocfghkolppmaa

namespace Go.Proofs.Ytpocfghkolppmaa
open Go

/-- the list so far, a row of one's own, beside a Reader. -/
structure UT (w : World) (b1 : Nat) (F : Nat → Prop) (p : Nat) (t : TS) (sv : Value) (w' : World) : Prop where
  r : RAt w' F p t.s
  o : w'.ownsRow 0 2 1 sv t.l.length (t.l.map (Value.int .i64))
  f : ∀ i, fpV sv i → b1 ≤ i
  g : Grow w w'
  b : w.heap.size ≤ b1
  lo : ∀ i, F i → w.heap.size ≤ i
  hi : ∀ i, F i → i < b1
  sz : b1 ≤ w'.heap.size
theorem UT.read {w : World} {b1 : Nat} {F : Nat → Prop} {p : Nat} {t : TS} {sv : Value} {w' w2 : World} (h : UT w b1 F p t sv w') {s : RS} {g : Int} (hR : RAt w2 F p s) (k : Keep (fun k => k = p) w' w2) : UT w b1 F p ⟨s, g, t.l⟩ sv w2 := by
  have hp : F p := h.r.at
  have h1 := h.lo p hp
  have h2 := h.hi p hp
  exact ⟨hR, own_keep h.o k (fun i hi e => by have := h.f i hi; omega), h.f, h.g.above k (fun i hi e => by omega), h.b, h.lo, h.hi, Nat.le_trans h.sz k.size⟩

theorem UT.push {w : World} {b1 : Nat} {F : Nat → Prop} {p : Nat} {s : RS} {g : Int} {l : List Int} {sv : Value} {w' : World} (h : UT w b1 F p ⟨s, g, l⟩ sv w') {x : Int} (hl : l.length ≤ 1048576) {K : VWK} {tk : Tok K}
    (hk : ∀ sv' w2, UT w b1 F p ⟨s, g, l ++ [x]⟩ sv' w2 → K sv' w2) : appK Try.prog [47, 47] 47 [sv, .slice (some ⟨w'.heap.size, 0, none⟩) 1 1] (w'.alloc (.cells #[.int .i64 x] 2)) K tk := by
  have hb1 := Blk.new' w' 2 #[.int .i64 x]
  have ga1 := Grow.alloc w' (.cells #[.int .i64 x] 2)
  have hr1 : Rd (w'.alloc (.cells #[.int .i64 x] 2)) (some ⟨w'.heap.size, 0, none⟩) 1 1 (([x] : List Int).map (Value.int .i64)) := Rd.of_cells _ _ _ _ _ hb1 rfl
  have ho := h.o
  have hgs := h.g.size
  have hb := h.b
  have hpl := h.r.lt p h.r.at
  simp only at ho
  refine appK_own (m := 1) (bytes := 8) (by kernel_rfl) (own_grow ho ga1) hr1 (ints_one _ _) (by show l.length + 1 ≤ maxLen; simp only [maxLen]; omega) (by show (l.length + 1) * 8 ≤ 140737488355328; omega) (fun A3 c3 w3 hO3 hK3 hF3 => ?_)
  refine hk _ w3 ⟨(h.r.grow ga1).keep hK3 (fun i hi hf => by have := h.hi i hi; have := h.f i hf; omega), ?_, fun i hi => (hF3 i hi).elim (h.f i) (fun q => ?_), (h.g.trans ga1).above hK3 (fun i hi hf => by have := h.f i hf; omega), h.b, h.lo, h.hi, by have := h.sz; have := ga1.size; have := hK3.size; omega⟩
  · simp only [List.length_append, List.length_cons, List.length_nil, List.map_append]; exact hO3
  · have := h.sz
    have := ga1.size
    omega

theorem untimes_ok {w : World} {A : Option Addr} {n c : Nat} {b : List Int} (hR : Rd w A n 1 (b.map (Value.int .u8))) (hb : ∀ z ∈ b, 0 ≤ z ∧ z < 256) (hn : n ≤ 140737488355328) {R : VWK}
    (h1 : ∀ x w', rDone (uT b).s = some x → Grow w w' → R (.tuple #[.slice none 0 0, errV (some x)]) w')
    (h2 : ∀ w', rDone (uT b).s = none → ¬ TGood b → Grow w w' → R (.tuple #[.slice none 0 0, .iface 77 (.int .i64 90)]) w')
    (h : rDone (uT b).s = none → TGood b → ∀ w' A' c', w'.ownsRow 0 2 1 (.slice A' (uT b).l.length c') (uT b).l.length ((uT b).l.map (Value.int .i64)) → Grow w w' → (∀ k, fpA A' k → w.heap.size ≤ k) →
      R (.tuple #[.slice A' (uT b).l.length c', .nilIface]) w') :
    CallsV Try.prog 24 [.slice A n c] w R := by
  have hl := hR.len1
  have hN := uN_le b
  refine calls_of_wpC mixed Try.func24 rfl (by kernel_rfl) ?_
  intro e he
  have he0 := he 0
  simp only [List.getD_cons_zero, List.getD_cons_succ] at he0
  clear he
  rw [c_seq]
  simp -dsimp only [↓RE,RU,RL,if_true,if_false,forall_const,implies_true,Nat.reduceLeDiff,Nat.reduceLT,pureOp,binPure,intBin,strBin,eqPure,isConstO,unPure,sliceLo,sliceHi,slicePure,slice3Pure,lenPure,capPure,minPure,maxPure,buildP,resK,endV,yieldE,↓reduceIte,Nat.reduceEqDiff,reduceCtorEq,Nat.reduceAdd,Nat.reduceMul,Nat.reduceSub,Int.reduceLT,Int.reduceLE,Int.reduceToNat,Int.reduceAdd,Int.reduceSub,Int.reduceMul,ne_eq,decide_true,decide_false,tf24, he0]
  rw [c_seq]
  simp -dsimp only [↓RE,RU,RL,if_true,if_false,forall_const,implies_true,Nat.reduceLeDiff,Nat.reduceLT,pureOp,binPure,intBin,strBin,eqPure,isConstO,unPure,sliceLo,sliceHi,slicePure,slice3Pure,lenPure,capPure,minPure,maxPure,buildP,resK,endV,yieldE,↓reduceIte,Nat.reduceEqDiff,reduceCtorEq,Nat.reduceAdd,Nat.reduceMul,Nat.reduceSub,Int.reduceLT,Int.reduceLE,Int.reduceToNat,Int.reduceAdd,Int.reduceSub,Int.reduceMul,ne_eq,decide_true,decide_false,tf24, he0]
  refine newReader_ok hR hn (fun w1 F p hR1 g1 hF1 => ?_)
  have hF1' := hR1.lt
  simp -dsimp only [↓RE,RU,RL,if_true,if_false,forall_const,implies_true,Nat.reduceLeDiff,Nat.reduceLT,pureOp,binPure,intBin,strBin,eqPure,isConstO,unPure,sliceLo,sliceHi,slicePure,slice3Pure,lenPure,capPure,minPure,maxPure,buildP,resK,endV,yieldE,↓reduceIte,Nat.reduceEqDiff,reduceCtorEq,Nat.reduceAdd,Nat.reduceMul,Nat.reduceSub,Int.reduceLT,Int.reduceLE,Int.reduceToNat,Int.reduceAdd,Int.reduceSub,Int.reduceMul,ne_eq,decide_true,decide_false,tf24, he0]
  rw [c_seq]
  simp -dsimp only [↓RE,RU,RL,if_true,if_false,forall_const,implies_true,Nat.reduceLeDiff,Nat.reduceLT,pureOp,binPure,intBin,strBin,eqPure,isConstO,unPure,sliceLo,sliceHi,slicePure,slice3Pure,lenPure,capPure,minPure,maxPure,buildP,resK,endV,yieldE,↓reduceIte,Nat.reduceEqDiff,reduceCtorEq,Nat.reduceAdd,Nat.reduceMul,Nat.reduceSub,Int.reduceLT,Int.reduceLE,Int.reduceToNat,Int.reduceAdd,Int.reduceSub,Int.reduceMul,ne_eq,decide_true,decide_false,tf24, he0]
  have ok0 := rs0_ok hb (by omega)
  refine uintR_ok hR1 ok0 (by omega) (fun w2 hR2 hK2 => ?_)
  have hn0 := rNumber_range ok0 1048576 2
  have hnm := rNumber_most (s := ⟨b, 0, 0, none⟩) (most := 1048576) (by omega) 2
  have hNe : IntKind.i64.wrap (rNumber 1048576 2 ⟨b, 0, 0, none⟩).2 = ((uN b : Nat) : Int) := by rw [wrap_i64_in (by omega) (by omega)]; unfold uN; omega
  simp -dsimp only [↓RE,RU,RL,if_true,if_false,forall_const,implies_true,Nat.reduceLeDiff,Nat.reduceLT,pureOp,binPure,intBin,strBin,eqPure,isConstO,unPure,sliceLo,sliceHi,slicePure,slice3Pure,lenPure,capPure,minPure,maxPure,buildP,resK,endV,yieldE,↓reduceIte,Nat.reduceEqDiff,reduceCtorEq,Nat.reduceAdd,Nat.reduceMul,Nat.reduceSub,Int.reduceLT,Int.reduceLE,Int.reduceToNat,Int.reduceAdd,Int.reduceSub,Int.reduceMul,ne_eq,decide_true,decide_false,tf24, he0, hNe]
  rw [c_seq]
  simp -dsimp only [↓RE,RU,RL,if_true,if_false,forall_const,implies_true,Nat.reduceLeDiff,Nat.reduceLT,pureOp,binPure,intBin,strBin,eqPure,isConstO,unPure,sliceLo,sliceHi,slicePure,slice3Pure,lenPure,capPure,minPure,maxPure,buildP,resK,endV,yieldE,↓reduceIte,Nat.reduceEqDiff,reduceCtorEq,Nat.reduceAdd,Nat.reduceMul,Nat.reduceSub,Int.reduceLT,Int.reduceLE,Int.reduceToNat,Int.reduceAdd,Int.reduceSub,Int.reduceMul,ne_eq,decide_true,decide_false,tf24, he0]
  rw [c_seq]
  simp -dsimp only [↓RE,RU,RL,if_true,if_false,forall_const,implies_true,Nat.reduceLeDiff,Nat.reduceLT,pureOp,binPure,intBin,strBin,eqPure,isConstO,unPure,sliceLo,sliceHi,slicePure,slice3Pure,lenPure,capPure,minPure,maxPure,buildP,resK,endV,yieldE,↓reduceIte,Nat.reduceEqDiff,reduceCtorEq,Nat.reduceAdd,Nat.reduceMul,Nat.reduceSub,Int.reduceLT,Int.reduceLE,Int.reduceToNat,Int.reduceAdd,Int.reduceSub,Int.reduceMul,ne_eq,decide_true,decide_false,tf24, he0]
  have hs1 := g1.size
  have hp1 := hR1.at
  have hU0 : UT w w1.heap.size F p (uT0 b) (.slice none 0 0) w2 := ⟨hR2, own_nil _ _ _, fun i hi => absurd hi (fpV_none _), g1.above hK2 (fun i hi e => by have := hF1 p hp1; omega), hs1, hF1, hF1', hK2.size⟩
  refine c_seq_cut (fun e' w' => e' 0 = .slice A n c ∧ e' 4 = .pointer (some ⟨p, 0, none⟩) ∧ ∃ sv, e' 6 = sv ∧ UT w w1.heap.size F p (uT b) sv w') ?_ ?_
  · try simp -dsimp only [↓RE,↓c_seq,RU,RL,if_true,if_false,forall_const,implies_true,Nat.reduceLeDiff,Nat.reduceLT,pureOp,binPure,intBin,strBin,eqPure,isConstO,unPure,sliceLo,sliceHi,slicePure,slice3Pure,lenPure,capPure,minPure,maxPure,buildP,resK,endV,yieldE,↓reduceIte,Nat.reduceEqDiff,reduceCtorEq,Nat.reduceAdd,Nat.reduceMul,Nat.reduceSub,Int.reduceLT,Int.reduceLE,Int.reduceToNat,Int.reduceAdd,Int.reduceSub,Int.reduceMul,ne_eq,decide_true,decide_false,tf24, he0]
    refine wpLoop_intro (fun e' w' => e' 0 = .slice A n c ∧ e' 4 = .pointer (some ⟨p, 0, none⟩) ∧ e' 5 = .int .i64 (uN b : Nat) ∧ ∃ (t : TS) (sv : Value), t.l.length ≤ uN b ∧ e' 8 = .int .i64 (t.l.length : Nat) ∧ e' 6 = sv ∧ e' 7 = .int .u64 t.g ∧
        TSok t ∧ tsRun (uN b - t.l.length) t = uT b ∧ UT w w1.heap.size F p t sv w')
      (fun e' _ => uN b - (envInt (e' 8)).toNat) ⟨?_, ?_, ?_, uT0 b, .slice none 0 0, Nat.zero_le _, ?_, ?_, ?_, uT0_ok hb (by omega), rfl, hU0⟩ ?_
    · simp -dsimp only [↓RE,RU,RL,if_true,if_false,↓reduceIte,Nat.reduceEqDiff,reduceCtorEq,decide_true,decide_false, he0]
    · simp -dsimp only [↓RE,RU,RL,if_true,if_false,↓reduceIte,Nat.reduceEqDiff,reduceCtorEq,decide_true,decide_false, he0]
    · simp -dsimp only [↓RE,RU,RL,if_true,if_false,↓reduceIte,Nat.reduceEqDiff,reduceCtorEq,decide_true,decide_false, he0]
    · simp -dsimp only [↓RE,RU,RL,if_true,if_false,↓reduceIte,Nat.reduceEqDiff,reduceCtorEq,decide_true,decide_false, he0, Int.cast_ofNat_Int]
      rfl
    · simp -dsimp only [↓RE,RU,RL,if_true,if_false,↓reduceIte,Nat.reduceEqDiff,reduceCtorEq,decide_true,decide_false, he0]
    · simp -dsimp only [↓RE,RU,RL,if_true,if_false,↓reduceIte,Nat.reduceEqDiff,reduceCtorEq,decide_true,decide_false, he0]
      rfl
    rintro e' w' ⟨h0, h4, h5, t, sv, hk, h8, h6, h7, hok, hrun, hU⟩
    by_cases hlt : t.l.length < uN b
    · have d1 : decide ((t.l.length : Int) < ((uN b : Nat) : Int)) = true := decide_eq_true (by omega)
      try simp -dsimp only [↓RE,↓c_seq,RU,RL,if_true,if_false,forall_const,implies_true,Nat.reduceLeDiff,Nat.reduceLT,pureOp,binPure,intBin,strBin,eqPure,isConstO,unPure,sliceLo,sliceHi,slicePure,slice3Pure,lenPure,capPure,minPure,maxPure,buildP,resK,endV,yieldE,↓reduceIte,Nat.reduceEqDiff,reduceCtorEq,Nat.reduceAdd,Nat.reduceMul,Nat.reduceSub,Int.reduceLT,Int.reduceLE,Int.reduceToNat,Int.reduceAdd,Int.reduceSub,Int.reduceMul,ne_eq,decide_true,decide_false,tf24, h0, h4, h5, h6, h7, h8, d1]
      refine faultR_ok hU.r ?_
      cases hf : t.s.fault with
      | some x =>
        have he : uT b = t := by rw [← hrun]; exact tsRun_fault (by rw [hf]; simp)
        try simp -dsimp only [↓RE,↓c_seq,RU,RL,if_true,if_false,forall_const,implies_true,Nat.reduceLeDiff,Nat.reduceLT,pureOp,binPure,intBin,strBin,eqPure,isConstO,unPure,sliceLo,sliceHi,slicePure,slice3Pure,lenPure,capPure,minPure,maxPure,buildP,resK,endV,yieldE,↓reduceIte,Nat.reduceEqDiff,reduceCtorEq,Nat.reduceAdd,Nat.reduceMul,Nat.reduceSub,Int.reduceLT,Int.reduceLE,Int.reduceToNat,Int.reduceAdd,Int.reduceSub,Int.reduceMul,ne_eq,decide_true,decide_false,tf24, h0, h4, h5, h6, h7, h8, errV]
        refine hold_intro ⟨?_, ?_, sv, ?_, by rw [he]; exact hU⟩
        · simp -dsimp only [↓RE,RU,RL,if_true,if_false,↓reduceIte,Nat.reduceEqDiff,reduceCtorEq,decide_true,decide_false, h0]
        · simp -dsimp only [↓RE,RU,RL,if_true,if_false,↓reduceIte,Nat.reduceEqDiff,reduceCtorEq,decide_true,decide_false, h4]
        · simp -dsimp only [↓RE,RU,RL,if_true,if_false,↓reduceIte,Nat.reduceEqDiff,reduceCtorEq,decide_true,decide_false, h6]
      | none =>
        obtain ⟨m, hm⟩ : ∃ m, uN b - t.l.length = m + 1 := ⟨uN b - t.l.length - 1, by omega⟩
        rw [hm, tsRun_step hf] at hrun
        have hlen := tsStep_len t
        have hrun' : tsRun (uN b - (tsStep t).l.length) (tsStep t) = uT b := by rw [hlen, show uN b - (t.l.length + 1) = m by omega]; exact hrun
        have hok' := hok.step
        try simp -dsimp only [↓RE,↓c_seq,RU,RL,if_true,if_false,forall_const,implies_true,Nat.reduceLeDiff,Nat.reduceLT,pureOp,binPure,intBin,strBin,eqPure,isConstO,unPure,sliceLo,sliceHi,slicePure,slice3Pure,lenPure,capPure,minPure,maxPure,buildP,resK,endV,yieldE,↓reduceIte,Nat.reduceEqDiff,reduceCtorEq,Nat.reduceAdd,Nat.reduceMul,Nat.reduceSub,Int.reduceLT,Int.reduceLE,Int.reduceToNat,Int.reduceAdd,Int.reduceSub,Int.reduceMul,ne_eq,decide_true,decide_false,tf24, h0, h4, h5, h6, h7, h8, errV]
        refine ⟨fun hk0 => ?_, fun hk0 => ?_⟩
        · have hst : tsStep t = ⟨(rNumber 18446744073709551615 2 t.s).1, t.g, t.l ++ [unfoldI (rNumber 18446744073709551615 2 t.s).2]⟩ := if_pos (by omega)
          refine intR_ok hU.r hok.s (fun w3 hR3 hK3 => ?_)
          have hU3 := hU.read (g := t.g) hR3 hK3
          try simp -dsimp only [↓RE,↓c_seq,RU,RL,if_true,if_false,forall_const,implies_true,Nat.reduceLeDiff,Nat.reduceLT,pureOp,binPure,intBin,strBin,eqPure,isConstO,unPure,sliceLo,sliceHi,slicePure,slice3Pure,lenPure,capPure,minPure,maxPure,buildP,resK,endV,yieldE,↓reduceIte,Nat.reduceEqDiff,reduceCtorEq,Nat.reduceAdd,Nat.reduceMul,Nat.reduceSub,Int.reduceLT,Int.reduceLE,Int.reduceToNat,Int.reduceAdd,Int.reduceSub,Int.reduceMul,ne_eq,decide_true,decide_false,tf24, h0, h4, h5, h6, h7, h8]
          refine hU3.push (by show t.l.length ≤ 1048576; omega) (fun sv5 w5 hU5 => ?_)
          try simp -dsimp only [↓RE,↓c_seq,RU,RL,if_true,if_false,forall_const,implies_true,Nat.reduceLeDiff,Nat.reduceLT,pureOp,binPure,intBin,strBin,eqPure,isConstO,unPure,sliceLo,sliceHi,slicePure,slice3Pure,lenPure,capPure,minPure,maxPure,buildP,resK,endV,yieldE,↓reduceIte,Nat.reduceEqDiff,reduceCtorEq,Nat.reduceAdd,Nat.reduceMul,Nat.reduceSub,Int.reduceLT,Int.reduceLE,Int.reduceToNat,Int.reduceAdd,Int.reduceSub,Int.reduceMul,ne_eq,decide_true,decide_false,tf24, h0, h4, h5, h6, h7, h8]
          refine hold_intro ⟨⟨?_, ?_, ?_, tsStep t, sv5, by rw [hlen]; omega, ?_, ?_, ?_, hok', hrun', by rw [hst]; exact hU5⟩, ?_⟩
          · simp -dsimp only [↓RE,RU,RL,if_true,if_false,↓reduceIte,Nat.reduceEqDiff,reduceCtorEq,decide_true,decide_false, h0]
          · simp -dsimp only [↓RE,RU,RL,if_true,if_false,↓reduceIte,Nat.reduceEqDiff,reduceCtorEq,decide_true,decide_false, h4]
          · simp -dsimp only [↓RE,RU,RL,if_true,if_false,↓reduceIte,Nat.reduceEqDiff,reduceCtorEq,decide_true,decide_false, h5]
          · simp -dsimp only [↓RE,RU,RL,if_true,if_false,↓reduceIte,Nat.reduceEqDiff,reduceCtorEq,decide_true,decide_false, h8]
            rw [wrap_i64_in (by omega) (by omega), hlen]; rfl
          · simp -dsimp only [↓RE,RU,RL,if_true,if_false,↓reduceIte,Nat.reduceEqDiff,reduceCtorEq,decide_true,decide_false, h6]
          · simp -dsimp only [↓RE,RU,RL,if_true,if_false,↓reduceIte,Nat.reduceEqDiff,reduceCtorEq,decide_true,decide_false, h7]
            rw [hst]
          · simp -dsimp only [↓RE,RU,RL,if_true,if_false,↓reduceIte,Nat.reduceEqDiff,reduceCtorEq,decide_true,decide_false, h8]
            rw [wrap_i64_in (by omega) (by omega), envInt_int, envInt_int]; omega
        try simp -dsimp only [↓RE,↓c_seq,RU,RL,if_true,if_false,forall_const,implies_true,Nat.reduceLeDiff,Nat.reduceLT,pureOp,binPure,intBin,strBin,eqPure,isConstO,unPure,sliceLo,sliceHi,slicePure,slice3Pure,lenPure,capPure,minPure,maxPure,buildP,resK,endV,yieldE,↓reduceIte,Nat.reduceEqDiff,reduceCtorEq,Nat.reduceAdd,Nat.reduceMul,Nat.reduceSub,Int.reduceLT,Int.reduceLE,Int.reduceToNat,Int.reduceAdd,Int.reduceSub,Int.reduceMul,ne_eq,decide_true,decide_false,tf24, h0, h4, h5, h6, h7, h8]
        refine ⟨fun hk1 => ?_, fun hk1 => ?_⟩
        · have hst : tsStep t = ⟨(rNumber 18446744073709551615 2 t.s).1, (rNumber 18446744073709551615 2 t.s).2, t.l ++ [tNext t.l (rNumber 18446744073709551615 2 t.s).2]⟩ := by
            unfold tsStep; rw [if_neg (by omega), if_pos (by omega)]
          refine uintR_ok hU.r hok.s (by omega) (fun w3 hR3 hK3 => ?_)
          have hU3 := hU.read (g := (rNumber 18446744073709551615 2 t.s).2) hR3 hK3
          have v2 : IntKind.i64.wrap (IntKind.u64.wrap (IntKind.u64.wrap (t.l.getD (t.l.length - 1) 0) + (rNumber 18446744073709551615 2 t.s).2)) = tNext t.l (rNumber 18446744073709551615 2 t.s).2 := by
            unfold tNext; simp only [wrap_u64, wrap_i64]; omega
          try simp -dsimp only [↓RE,↓c_seq,RU,RL,if_true,if_false,forall_const,implies_true,Nat.reduceLeDiff,Nat.reduceLT,pureOp,binPure,intBin,strBin,eqPure,isConstO,unPure,sliceLo,sliceHi,slicePure,slice3Pure,lenPure,capPure,minPure,maxPure,buildP,resK,endV,yieldE,↓reduceIte,Nat.reduceEqDiff,reduceCtorEq,Nat.reduceAdd,Nat.reduceMul,Nat.reduceSub,Int.reduceLT,Int.reduceLE,Int.reduceToNat,Int.reduceAdd,Int.reduceSub,Int.reduceMul,ne_eq,decide_true,decide_false,tf24, h0, h4, h5, h6, h7, h8]
          obtain ⟨A6, c6, rfl, _, _⟩ := own_form hU3.o
          obtain ⟨ad, hA6, hca⟩ := (Rd.of_own hU3.o).int (k := t.l.length - 1) (by show t.l.length - 1 < t.l.length; omega)
          subst hA6
          have v1 : IntKind.i64.wrap ((t.l.length : Int) - 1) = ((t.l.length - 1 : Nat) : Int) := by rw [wrap_i64_in (by omega) (by omega)]; omega
          try simp -dsimp only [↓RE,↓c_seq,RU,RL,if_true,if_false,forall_const,implies_true,Nat.reduceLeDiff,Nat.reduceLT,pureOp,binPure,intBin,strBin,eqPure,isConstO,unPure,sliceLo,sliceHi,slicePure,slice3Pure,lenPure,capPure,minPure,maxPure,buildP,resK,endV,yieldE,↓reduceIte,Nat.reduceEqDiff,reduceCtorEq,Nat.reduceAdd,Nat.reduceMul,Nat.reduceSub,Int.reduceLT,Int.reduceLE,Int.reduceToNat,Int.reduceAdd,Int.reduceSub,Int.reduceMul,ne_eq,decide_true,decide_false,tf24, h0, h4, h5, h6, h7, h8, v1]
          refine ⟨⟨by omega, by omega⟩, ?_⟩
          try simp -dsimp only [↓RE,↓c_seq,RU,RL,if_true,if_false,forall_const,implies_true,Nat.reduceLeDiff,Nat.reduceLT,pureOp,binPure,intBin,strBin,eqPure,isConstO,unPure,sliceLo,sliceHi,slicePure,slice3Pure,lenPure,capPure,minPure,maxPure,buildP,resK,endV,yieldE,↓reduceIte,Nat.reduceEqDiff,reduceCtorEq,Nat.reduceAdd,Nat.reduceMul,Nat.reduceSub,Int.reduceLT,Int.reduceLE,Int.reduceToNat,Int.reduceAdd,Int.reduceSub,Int.reduceMul,ne_eq,decide_true,decide_false,tf24, h0, h4, h5, h6, h7, h8, v1, hca, Int.toNat_natCast, v2]
          refine hU3.push (by show t.l.length ≤ 1048576; omega) (fun sv5 w5 hU5 => ?_)
          try simp -dsimp only [↓RE,↓c_seq,RU,RL,if_true,if_false,forall_const,implies_true,Nat.reduceLeDiff,Nat.reduceLT,pureOp,binPure,intBin,strBin,eqPure,isConstO,unPure,sliceLo,sliceHi,slicePure,slice3Pure,lenPure,capPure,minPure,maxPure,buildP,resK,endV,yieldE,↓reduceIte,Nat.reduceEqDiff,reduceCtorEq,Nat.reduceAdd,Nat.reduceMul,Nat.reduceSub,Int.reduceLT,Int.reduceLE,Int.reduceToNat,Int.reduceAdd,Int.reduceSub,Int.reduceMul,ne_eq,decide_true,decide_false,tf24, h0, h4, h5, h6, h7, h8]
          refine hold_intro ⟨⟨?_, ?_, ?_, tsStep t, sv5, by rw [hlen]; omega, ?_, ?_, ?_, hok', hrun', by rw [hst]; exact hU5⟩, ?_⟩
          · simp -dsimp only [↓RE,RU,RL,if_true,if_false,↓reduceIte,Nat.reduceEqDiff,reduceCtorEq,decide_true,decide_false, h0]
          · simp -dsimp only [↓RE,RU,RL,if_true,if_false,↓reduceIte,Nat.reduceEqDiff,reduceCtorEq,decide_true,decide_false, h4]
          · simp -dsimp only [↓RE,RU,RL,if_true,if_false,↓reduceIte,Nat.reduceEqDiff,reduceCtorEq,decide_true,decide_false, h5]
          · simp -dsimp only [↓RE,RU,RL,if_true,if_false,↓reduceIte,Nat.reduceEqDiff,reduceCtorEq,decide_true,decide_false, h8]
            rw [wrap_i64_in (by omega) (by omega), hlen]; rfl
          · simp -dsimp only [↓RE,RU,RL,if_true,if_false,↓reduceIte,Nat.reduceEqDiff,reduceCtorEq,decide_true,decide_false, h6]
          · simp -dsimp only [↓RE,RU,RL,if_true,if_false,↓reduceIte,Nat.reduceEqDiff,reduceCtorEq,decide_true,decide_false, h7]
            rw [hst]
          · simp -dsimp only [↓RE,RU,RL,if_true,if_false,↓reduceIte,Nat.reduceEqDiff,reduceCtorEq,decide_true,decide_false, h8]
            rw [wrap_i64_in (by omega) (by omega), envInt_int, envInt_int]; omega
        · have hst : tsStep t = ⟨(rDelta t.s).1, IntKind.u64.wrap (t.g + (rDelta t.s).2), t.l ++ [tNext t.l (IntKind.u64.wrap (t.g + (rDelta t.s).2))]⟩ := by
            unfold tsStep; rw [if_neg (by omega), if_neg (by omega)]
          try simp -dsimp only [↓RE,↓c_seq,RU,RL,if_true,if_false,forall_const,implies_true,Nat.reduceLeDiff,Nat.reduceLT,pureOp,binPure,intBin,strBin,eqPure,isConstO,unPure,sliceLo,sliceHi,slicePure,slice3Pure,lenPure,capPure,minPure,maxPure,buildP,resK,endV,yieldE,↓reduceIte,Nat.reduceEqDiff,reduceCtorEq,Nat.reduceAdd,Nat.reduceMul,Nat.reduceSub,Int.reduceLT,Int.reduceLE,Int.reduceToNat,Int.reduceAdd,Int.reduceSub,Int.reduceMul,ne_eq,decide_true,decide_false,tf24, h0, h4, h5, h6, h7, h8]
          refine undiff_ok hU.r hok.s (fun w3 hR3 hK3 => ?_)
          have hU3 := hU.read (g := IntKind.u64.wrap (t.g + (rDelta t.s).2)) hR3 hK3
          have v3 : IntKind.u64.wrap (t.g + IntKind.u64.wrap (rDelta t.s).2) = IntKind.u64.wrap (t.g + (rDelta t.s).2) := by simp only [wrap_u64]; omega
          have v2 : IntKind.i64.wrap (IntKind.u64.wrap (IntKind.u64.wrap (t.l.getD (t.l.length - 1) 0) + IntKind.u64.wrap (t.g + (rDelta t.s).2))) = tNext t.l (IntKind.u64.wrap (t.g + (rDelta t.s).2)) := by
            unfold tNext; simp only [wrap_u64, wrap_i64]; omega
          try simp -dsimp only [↓RE,↓c_seq,RU,RL,if_true,if_false,forall_const,implies_true,Nat.reduceLeDiff,Nat.reduceLT,pureOp,binPure,intBin,strBin,eqPure,isConstO,unPure,sliceLo,sliceHi,slicePure,slice3Pure,lenPure,capPure,minPure,maxPure,buildP,resK,endV,yieldE,↓reduceIte,Nat.reduceEqDiff,reduceCtorEq,Nat.reduceAdd,Nat.reduceMul,Nat.reduceSub,Int.reduceLT,Int.reduceLE,Int.reduceToNat,Int.reduceAdd,Int.reduceSub,Int.reduceMul,ne_eq,decide_true,decide_false,tf24, h0, h4, h5, h6, h7, h8, v3]
          obtain ⟨A6, c6, rfl, _, _⟩ := own_form hU3.o
          obtain ⟨ad, hA6, hca⟩ := (Rd.of_own hU3.o).int (k := t.l.length - 1) (by show t.l.length - 1 < t.l.length; omega)
          subst hA6
          have v1 : IntKind.i64.wrap ((t.l.length : Int) - 1) = ((t.l.length - 1 : Nat) : Int) := by rw [wrap_i64_in (by omega) (by omega)]; omega
          try simp -dsimp only [↓RE,↓c_seq,RU,RL,if_true,if_false,forall_const,implies_true,Nat.reduceLeDiff,Nat.reduceLT,pureOp,binPure,intBin,strBin,eqPure,isConstO,unPure,sliceLo,sliceHi,slicePure,slice3Pure,lenPure,capPure,minPure,maxPure,buildP,resK,endV,yieldE,↓reduceIte,Nat.reduceEqDiff,reduceCtorEq,Nat.reduceAdd,Nat.reduceMul,Nat.reduceSub,Int.reduceLT,Int.reduceLE,Int.reduceToNat,Int.reduceAdd,Int.reduceSub,Int.reduceMul,ne_eq,decide_true,decide_false,tf24, h0, h4, h5, h6, h7, h8, v3, v1]
          refine ⟨⟨by omega, by omega⟩, ?_⟩
          try simp -dsimp only [↓RE,↓c_seq,RU,RL,if_true,if_false,forall_const,implies_true,Nat.reduceLeDiff,Nat.reduceLT,pureOp,binPure,intBin,strBin,eqPure,isConstO,unPure,sliceLo,sliceHi,slicePure,slice3Pure,lenPure,capPure,minPure,maxPure,buildP,resK,endV,yieldE,↓reduceIte,Nat.reduceEqDiff,reduceCtorEq,Nat.reduceAdd,Nat.reduceMul,Nat.reduceSub,Int.reduceLT,Int.reduceLE,Int.reduceToNat,Int.reduceAdd,Int.reduceSub,Int.reduceMul,ne_eq,decide_true,decide_false,tf24, h0, h4, h5, h6, h7, h8, v3, v1, hca, Int.toNat_natCast, v2]
          refine hU3.push (by show t.l.length ≤ 1048576; omega) (fun sv5 w5 hU5 => ?_)
          try simp -dsimp only [↓RE,↓c_seq,RU,RL,if_true,if_false,forall_const,implies_true,Nat.reduceLeDiff,Nat.reduceLT,pureOp,binPure,intBin,strBin,eqPure,isConstO,unPure,sliceLo,sliceHi,slicePure,slice3Pure,lenPure,capPure,minPure,maxPure,buildP,resK,endV,yieldE,↓reduceIte,Nat.reduceEqDiff,reduceCtorEq,Nat.reduceAdd,Nat.reduceMul,Nat.reduceSub,Int.reduceLT,Int.reduceLE,Int.reduceToNat,Int.reduceAdd,Int.reduceSub,Int.reduceMul,ne_eq,decide_true,decide_false,tf24, h0, h4, h5, h6, h7, h8]
          refine hold_intro ⟨⟨?_, ?_, ?_, tsStep t, sv5, by rw [hlen]; omega, ?_, ?_, ?_, hok', hrun', by rw [hst]; exact hU5⟩, ?_⟩
          · simp -dsimp only [↓RE,RU,RL,if_true,if_false,↓reduceIte,Nat.reduceEqDiff,reduceCtorEq,decide_true,decide_false, h0]
          · simp -dsimp only [↓RE,RU,RL,if_true,if_false,↓reduceIte,Nat.reduceEqDiff,reduceCtorEq,decide_true,decide_false, h4]
          · simp -dsimp only [↓RE,RU,RL,if_true,if_false,↓reduceIte,Nat.reduceEqDiff,reduceCtorEq,decide_true,decide_false, h5]
          · simp -dsimp only [↓RE,RU,RL,if_true,if_false,↓reduceIte,Nat.reduceEqDiff,reduceCtorEq,decide_true,decide_false, h8]
            rw [wrap_i64_in (by omega) (by omega), hlen]; rfl
          · simp -dsimp only [↓RE,RU,RL,if_true,if_false,↓reduceIte,Nat.reduceEqDiff,reduceCtorEq,decide_true,decide_false, h6]
          · simp -dsimp only [↓RE,RU,RL,if_true,if_false,↓reduceIte,Nat.reduceEqDiff,reduceCtorEq,decide_true,decide_false, h7, v3]
            rw [hst]
          · simp -dsimp only [↓RE,RU,RL,if_true,if_false,↓reduceIte,Nat.reduceEqDiff,reduceCtorEq,decide_true,decide_false, h8]
            rw [wrap_i64_in (by omega) (by omega), envInt_int, envInt_int]; omega
    · have he : uT b = t := by rw [← hrun, show uN b - t.l.length = 0 by omega]; rfl
      have d1 : decide ((t.l.length : Int) < ((uN b : Nat) : Int)) = false := decide_eq_false (by omega)
      try simp -dsimp only [↓RE,↓c_seq,RU,RL,if_true,if_false,forall_const,implies_true,Nat.reduceLeDiff,Nat.reduceLT,pureOp,binPure,intBin,strBin,eqPure,isConstO,unPure,sliceLo,sliceHi,slicePure,slice3Pure,lenPure,capPure,minPure,maxPure,buildP,resK,endV,yieldE,↓reduceIte,Nat.reduceEqDiff,reduceCtorEq,Nat.reduceAdd,Nat.reduceMul,Nat.reduceSub,Int.reduceLT,Int.reduceLE,Int.reduceToNat,Int.reduceAdd,Int.reduceSub,Int.reduceMul,ne_eq,decide_true,decide_false,tf24, h0, h4, h5, h6, h7, h8, d1, undef]
      refine hold_intro ⟨?_, ?_, sv, ?_, by rw [he]; exact hU⟩
      · simp -dsimp only [↓RE,RU,RL,if_true,if_false,↓reduceIte,Nat.reduceEqDiff,reduceCtorEq,decide_true,decide_false, h0]
      · simp -dsimp only [↓RE,RU,RL,if_true,if_false,↓reduceIte,Nat.reduceEqDiff,reduceCtorEq,decide_true,decide_false, h4]
      · simp -dsimp only [↓RE,RU,RL,if_true,if_false,↓reduceIte,Nat.reduceEqDiff,reduceCtorEq,decide_true,decide_false, h6]
  · rintro e3 w3 ⟨h0, h4, sv, h6, hU⟩
    try simp -dsimp only [↓RE,↓c_seq,RU,RL,if_true,if_false,forall_const,implies_true,Nat.reduceLeDiff,Nat.reduceLT,pureOp,binPure,intBin,strBin,eqPure,isConstO,unPure,sliceLo,sliceHi,slicePure,slice3Pure,lenPure,capPure,minPure,maxPure,buildP,resK,endV,yieldE,↓reduceIte,Nat.reduceEqDiff,reduceCtorEq,Nat.reduceAdd,Nat.reduceMul,Nat.reduceSub,Int.reduceLT,Int.reduceLE,Int.reduceToNat,Int.reduceAdd,Int.reduceSub,Int.reduceMul,ne_eq,decide_true,decide_false,tf24, h0, h4, h6]
    refine doneR_ok hU.r (uT_ok hb (by omega)).s (fun w4 g4 => ?_)
    have hg4 := hU.g.trans g4
    cases hd : rDone (uT b).s with
    | some x =>
      try simp -dsimp only [↓RE,↓c_seq,RU,RL,if_true,if_false,forall_const,implies_true,Nat.reduceLeDiff,Nat.reduceLT,pureOp,binPure,intBin,strBin,eqPure,isConstO,unPure,sliceLo,sliceHi,slicePure,slice3Pure,lenPure,capPure,minPure,maxPure,buildP,resK,endV,yieldE,↓reduceIte,Nat.reduceEqDiff,reduceCtorEq,Nat.reduceAdd,Nat.reduceMul,Nat.reduceSub,Int.reduceLT,Int.reduceLE,Int.reduceToNat,Int.reduceAdd,Int.reduceSub,Int.reduceMul,ne_eq,decide_true,decide_false,tf24, h0, h4, h6, hd, errV]
      exact h1 x w4 hd hg4
    | none =>
      obtain ⟨A6, c6, rfl, _, _⟩ := own_form hU.o
      have hO4 := own_grow hU.o g4
      have hln := uT_len b
      have htok := uT_ok hb (b := b) (by omega)
      try simp -dsimp only [↓RE,↓c_seq,RU,RL,if_true,if_false,forall_const,implies_true,Nat.reduceLeDiff,Nat.reduceLT,pureOp,binPure,intBin,strBin,eqPure,isConstO,unPure,sliceLo,sliceHi,slicePure,slice3Pure,lenPure,capPure,minPure,maxPure,buildP,resK,endV,yieldE,↓reduceIte,Nat.reduceEqDiff,reduceCtorEq,Nat.reduceAdd,Nat.reduceMul,Nat.reduceSub,Int.reduceLT,Int.reduceLE,Int.reduceToNat,Int.reduceAdd,Int.reduceSub,Int.reduceMul,ne_eq,decide_true,decide_false,tf24, h0, h4, h6, hd, errV]
      refine times_ok (Rd.of_own hO4) htok.l (by omega) (fun er w5 hte g5 => ?_) (fun hte w5 A5 c5 hO5 g5 hF5 => ?_)
      · try simp -dsimp only [↓RE,↓c_seq,RU,RL,if_true,if_false,forall_const,implies_true,Nat.reduceLeDiff,Nat.reduceLT,pureOp,binPure,intBin,strBin,eqPure,isConstO,unPure,sliceLo,sliceHi,slicePure,slice3Pure,lenPure,capPure,minPure,maxPure,buildP,resK,endV,yieldE,↓reduceIte,Nat.reduceEqDiff,reduceCtorEq,Nat.reduceAdd,Nat.reduceMul,Nat.reduceSub,Int.reduceLT,Int.reduceLE,Int.reduceToNat,Int.reduceAdd,Int.reduceSub,Int.reduceMul,ne_eq,decide_true,decide_false,tf24, h0, h4, h6, undef]
        refine fnew_ok (by decide) ?_
        try simp -dsimp only [↓RE,↓c_seq,RU,RL,if_true,if_false,forall_const,implies_true,Nat.reduceLeDiff,Nat.reduceLT,pureOp,binPure,intBin,strBin,eqPure,isConstO,unPure,sliceLo,sliceHi,slicePure,slice3Pure,lenPure,capPure,minPure,maxPure,buildP,resK,endV,yieldE,↓reduceIte,Nat.reduceEqDiff,reduceCtorEq,Nat.reduceAdd,Nat.reduceMul,Nat.reduceSub,Int.reduceLT,Int.reduceLE,Int.reduceToNat,Int.reduceAdd,Int.reduceSub,Int.reduceMul,ne_eq,decide_true,decide_false,tf24, h0, h4, h6]
        exact h2 w5 hd (fun hq => by rw [hq.1] at hte; cases hte) (hg4.trans g5)
      have hwb := (tW_ok (uT b).l (uT b).l.length).2.1
      try simp -dsimp only [↓RE,↓c_seq,RU,RL,if_true,if_false,forall_const,implies_true,Nat.reduceLeDiff,Nat.reduceLT,pureOp,binPure,intBin,strBin,eqPure,isConstO,unPure,sliceLo,sliceHi,slicePure,slice3Pure,lenPure,capPure,minPure,maxPure,buildP,resK,endV,yieldE,↓reduceIte,Nat.reduceEqDiff,reduceCtorEq,Nat.reduceAdd,Nat.reduceMul,Nat.reduceSub,Int.reduceLT,Int.reduceLE,Int.reduceToNat,Int.reduceAdd,Int.reduceSub,Int.reduceMul,ne_eq,decide_true,decide_false,tf24, h0, h4, h6]
      refine equal_ok (Rd.of_own hO5) (hR.grow (hg4.trans g5)) hwb hb (fun w6 g6 => ?_)
      by_cases hq : (tW (uT b).l (uT b).l.length).1 = b
      · have d6 : decide ((tW (uT b).l (uT b).l.length).1 = b) = true := decide_eq_true hq
        try simp -dsimp only [↓RE,↓c_seq,RU,RL,if_true,if_false,forall_const,implies_true,Nat.reduceLeDiff,Nat.reduceLT,pureOp,binPure,intBin,strBin,eqPure,isConstO,unPure,sliceLo,sliceHi,slicePure,slice3Pure,lenPure,capPure,minPure,maxPure,buildP,resK,endV,yieldE,↓reduceIte,Nat.reduceEqDiff,reduceCtorEq,Nat.reduceAdd,Nat.reduceMul,Nat.reduceSub,Int.reduceLT,Int.reduceLE,Int.reduceToNat,Int.reduceAdd,Int.reduceSub,Int.reduceMul,ne_eq,decide_true,decide_false,tf24, h0, h4, h6, d6]
        exact h hd ⟨hte, hq⟩ w6 A6 c6 (own_grow (own_grow hO4 g5) g6) ((hg4.trans g5).trans g6) (fun k hk => Nat.le_trans hs1 (hU.f k ((fpV_fpA _ _ _ _).2 hk)))
      · have d6 : decide ((tW (uT b).l (uT b).l.length).1 = b) = false := decide_eq_false hq
        try simp -dsimp only [↓RE,↓c_seq,RU,RL,if_true,if_false,forall_const,implies_true,Nat.reduceLeDiff,Nat.reduceLT,pureOp,binPure,intBin,strBin,eqPure,isConstO,unPure,sliceLo,sliceHi,slicePure,slice3Pure,lenPure,capPure,minPure,maxPure,buildP,resK,endV,yieldE,↓reduceIte,Nat.reduceEqDiff,reduceCtorEq,Nat.reduceAdd,Nat.reduceMul,Nat.reduceSub,Int.reduceLT,Int.reduceLE,Int.reduceToNat,Int.reduceAdd,Int.reduceSub,Int.reduceMul,ne_eq,decide_true,decide_false,tf24, h0, h4, h6, d6]
        refine fnew_ok (by decide) ?_
        try simp -dsimp only [↓RE,↓c_seq,RU,RL,if_true,if_false,forall_const,implies_true,Nat.reduceLeDiff,Nat.reduceLT,pureOp,binPure,intBin,strBin,eqPure,isConstO,unPure,sliceLo,sliceHi,slicePure,slice3Pure,lenPure,capPure,minPure,maxPure,buildP,resK,endV,yieldE,↓reduceIte,Nat.reduceEqDiff,reduceCtorEq,Nat.reduceAdd,Nat.reduceMul,Nat.reduceSub,Int.reduceLT,Int.reduceLE,Int.reduceToNat,Int.reduceAdd,Int.reduceSub,Int.reduceMul,ne_eq,decide_true,decide_false,tf24, h0, h4, h6]
        exact h2 w6 hd (fun hg => hq hg.2) ((hg4.trans g5).trans g6)

end Go.Proofs.Ytpocfghkolppmaa

namespace Go.Proofs.Ytpocfghkolppmaa
open Go

/-- the list so far, a row of one's own, beside a Reader and the last value. -/
structure UV (w : World) (lb : Nat) (F : Nat → Prop) (p : Nat) (t : US) (sv : Value) (w' : World) : Prop where
  r : RAt w' F p t.s
  o : w'.ownsRow 0 35 2 sv t.l.length (t.l.flatMap vcells)
  f : ∀ i, fpV sv i → lb < i
  g : Grow w w'
  b : w.heap.size ≤ lb
  lo : ∀ i, F i → w.heap.size ≤ i
  hi : ∀ i, F i → i < lb
  last : Blk w' lb 35 (vcells t.last)
theorem UV.read {w : World} {lb : Nat} {F : Nat → Prop} {p : Nat} {t : US} {sv : Value} {w' w2 : World} (h : UV w lb F p t sv w') {s : RS} (hR : RAt w2 F p s) (k : Keep (fun k => k = p) w' w2) : UV w lb F p ⟨s, t.last, t.ahead, t.l⟩ sv w2 := by
  have hp : F p := h.r.at
  have h1 := h.lo p hp
  have h2 := h.hi p hp
  exact ⟨hR, own_keep h.o k (fun i hi e => by have := h.f i hi; omega), h.f, h.g.above k (fun i hi e => by omega), h.b, h.lo, h.hi, h.last.keep k (by omega)⟩
theorem UV.put {w : World} {lb : Nat} {F : Nat → Prop} {p : Nat} {s : RS} {last : Int × Int} {ahead : Int} {l : List (Int × Int)} {sv : Value} {w' : World} (h : UV w lb F p ⟨s, last, ahead, l⟩ sv w') {v : Int × Int} {K : WK} {tk : Tok K}
    (hk : ∀ w2, (∀ ah, UV w lb F p ⟨s, v, ah, l⟩ sv w2) → K w2) : aggSt Try.prog w' ⟨lb, 0, none⟩ [.int .u8 v.1, .int .i64 v.2] K tk := by
  have hb := h.b
  refine h.last.stAgg (by simp [vcells]) (by simp [Value.oneCell']) (fun w2 hB2 hK2 => hk w2 (fun ah => ⟨h.r.keep hK2 (fun i hi e => by have := h.hi i hi; omega), own_keep h.o hK2 (fun i hi e => by have := h.f i hi; omega), h.f, h.g.above hK2 (fun i hi e => by omega), h.b, h.lo, h.hi, by simpa [vcells] using hB2⟩))
theorem UV.push {w : World} {lb : Nat} {F : Nat → Prop} {p : Nat} {s : RS} {last : Int × Int} {ahead : Int} {l : List (Int × Int)} {sv : Value} {w' : World} (h : UV w lb F p ⟨s, last, ahead, l⟩ sv w') (hl : l.length ≤ 1048576) {v : Int × Int} {K : VWK} {tk : Tok K}
    (hk : ∀ sv' w2, UV w lb F p ⟨s, last, ahead, l ++ [v]⟩ sv' w2 → K sv' w2) : appK Try.prog [61, 61] 61 [sv, .slice (some ⟨w'.heap.size, 0, none⟩) 1 1] (w'.alloc (.cells #[.int .u8 v.1, .int .i64 v.2] 35)) K tk := by
  have hb1 := Blk.new' w' 35 #[.int .u8 v.1, .int .i64 v.2]
  have ga1 := Grow.alloc w' (.cells #[.int .u8 v.1, .int .i64 v.2] 35)
  have hr1 : Rd (w'.alloc (.cells #[.int .u8 v.1, .int .i64 v.2] 35)) (some ⟨w'.heap.size, 0, none⟩) 1 2 (([v] : List (Int × Int)).flatMap vcells) := Rd.of_blk hb1 rfl
  have ho := h.o
  have hgs := h.g.size
  have hb := h.b
  have hlt := h.last.lt
  simp only at ho
  refine appK_own (m := 1) (bytes := 16) (by kernel_rfl) (own_grow ho ga1) hr1 (vcells_one _) (by show l.length + 1 ≤ maxLen; simp only [maxLen]; omega) (by show (l.length + 1) * 16 ≤ 140737488355328; omega) (fun A3 c3 w3 hO3 hK3 hF3 => ?_)
  refine hk _ w3 ⟨(h.r.grow ga1).keep hK3 (fun i hi hf => by have := h.hi i hi; have := h.f i hf; omega), ?_, fun i hi => (hF3 i hi).elim (h.f i) (fun q => ?_), (h.g.trans ga1).above hK3 (fun i hi hf => by have := h.f i hf; omega), h.b, h.lo, h.hi, (h.last.grow ga1).keep hK3 (fun hf => by have := h.f lb hf; omega)⟩
  · simp only [List.length_append, List.length_cons, List.length_nil, List.flatMap_append]; exact hO3
  · have := ga1.size
    omega

theorem unvalues_ok {w : World} {A : Option Addr} {n c : Nat} {b : List Int} (hR : Rd w A n 1 (b.map (Value.int .u8))) (hb : ∀ z ∈ b, 0 ≤ z ∧ z < 256) (hn : n ≤ 140737488355328) {R : VWK}
    (h1 : ∀ x w', rDone (uV b).s = some x → Grow w w' → R (.tuple #[.slice none 0 0, errV (some x)]) w')
    (h2 : ∀ w', rDone (uV b).s = none → ¬ VGood b → Grow w w' → R (.tuple #[.slice none 0 0, .iface 77 (.int .i64 90)]) w')
    (h : rDone (uV b).s = none → VGood b → ∀ w' A' c', w'.ownsRow 0 35 2 (.slice A' (uV b).l.length c') (uV b).l.length ((uV b).l.flatMap vcells) → Grow w w' → (∀ k, fpA A' k → w.heap.size ≤ k) →
      R (.tuple #[.slice A' (uV b).l.length c', .nilIface]) w') :
    CallsV Try.prog 25 [.slice A n c] w R := by
  have hl := hR.len1
  have hN := uN_le b
  refine calls_of_wpC mixed Try.func25 rfl (by kernel_rfl) ?_
  intro e he
  have he0 := he 0
  simp only [List.getD_cons_zero, List.getD_cons_succ] at he0
  clear he
  rw [c_seq]
  simp -dsimp only [↓RE,RU,RL,if_true,if_false,forall_const,implies_true,Nat.reduceLeDiff,Nat.reduceLT,pureOp,binPure,intBin,strBin,eqPure,isConstO,unPure,sliceLo,sliceHi,slicePure,slice3Pure,lenPure,capPure,minPure,maxPure,buildP,resK,endV,yieldE,↓reduceIte,Nat.reduceEqDiff,reduceCtorEq,Nat.reduceAdd,Nat.reduceMul,Nat.reduceSub,Int.reduceLT,Int.reduceLE,Int.reduceToNat,Int.reduceAdd,Int.reduceSub,Int.reduceMul,ne_eq,decide_true,decide_false,tf25, he0]
  rw [c_seq]
  simp -dsimp only [↓RE,RU,RL,if_true,if_false,forall_const,implies_true,Nat.reduceLeDiff,Nat.reduceLT,pureOp,binPure,intBin,strBin,eqPure,isConstO,unPure,sliceLo,sliceHi,slicePure,slice3Pure,lenPure,capPure,minPure,maxPure,buildP,resK,endV,yieldE,↓reduceIte,Nat.reduceEqDiff,reduceCtorEq,Nat.reduceAdd,Nat.reduceMul,Nat.reduceSub,Int.reduceLT,Int.reduceLE,Int.reduceToNat,Int.reduceAdd,Int.reduceSub,Int.reduceMul,ne_eq,decide_true,decide_false,tf25, he0]
  refine newReader_ok hR hn (fun w1 F p hR1 g1 hF1 => ?_)
  have hF1' := hR1.lt
  simp -dsimp only [↓RE,RU,RL,if_true,if_false,forall_const,implies_true,Nat.reduceLeDiff,Nat.reduceLT,pureOp,binPure,intBin,strBin,eqPure,isConstO,unPure,sliceLo,sliceHi,slicePure,slice3Pure,lenPure,capPure,minPure,maxPure,buildP,resK,endV,yieldE,↓reduceIte,Nat.reduceEqDiff,reduceCtorEq,Nat.reduceAdd,Nat.reduceMul,Nat.reduceSub,Int.reduceLT,Int.reduceLE,Int.reduceToNat,Int.reduceAdd,Int.reduceSub,Int.reduceMul,ne_eq,decide_true,decide_false,tf25, he0]
  rw [c_seq]
  simp -dsimp only [↓RE,RU,RL,if_true,if_false,forall_const,implies_true,Nat.reduceLeDiff,Nat.reduceLT,pureOp,binPure,intBin,strBin,eqPure,isConstO,unPure,sliceLo,sliceHi,slicePure,slice3Pure,lenPure,capPure,minPure,maxPure,buildP,resK,endV,yieldE,↓reduceIte,Nat.reduceEqDiff,reduceCtorEq,Nat.reduceAdd,Nat.reduceMul,Nat.reduceSub,Int.reduceLT,Int.reduceLE,Int.reduceToNat,Int.reduceAdd,Int.reduceSub,Int.reduceMul,ne_eq,decide_true,decide_false,tf25, he0]
  have ok0 := rs0_ok hb (by omega)
  refine uintR_ok hR1 ok0 (by omega) (fun w2 hR2 hK2 => ?_)
  have hn0 := rNumber_range ok0 1048576 2
  have hnm := rNumber_most (s := ⟨b, 0, 0, none⟩) (most := 1048576) (by omega) 2
  have hNe : IntKind.i64.wrap (rNumber 1048576 2 ⟨b, 0, 0, none⟩).2 = ((uN b : Nat) : Int) := by rw [wrap_i64_in (by omega) (by omega)]; unfold uN; omega
  simp -dsimp only [↓RE,RU,RL,if_true,if_false,forall_const,implies_true,Nat.reduceLeDiff,Nat.reduceLT,pureOp,binPure,intBin,strBin,eqPure,isConstO,unPure,sliceLo,sliceHi,slicePure,slice3Pure,lenPure,capPure,minPure,maxPure,buildP,resK,endV,yieldE,↓reduceIte,Nat.reduceEqDiff,reduceCtorEq,Nat.reduceAdd,Nat.reduceMul,Nat.reduceSub,Int.reduceLT,Int.reduceLE,Int.reduceToNat,Int.reduceAdd,Int.reduceSub,Int.reduceMul,ne_eq,decide_true,decide_false,tf25, he0, hNe]
  rw [c_seq]
  simp -dsimp only [↓RE,RU,RL,if_true,if_false,forall_const,implies_true,Nat.reduceLeDiff,Nat.reduceLT,pureOp,binPure,intBin,strBin,eqPure,isConstO,unPure,sliceLo,sliceHi,slicePure,slice3Pure,lenPure,capPure,minPure,maxPure,buildP,resK,endV,yieldE,↓reduceIte,Nat.reduceEqDiff,reduceCtorEq,Nat.reduceAdd,Nat.reduceMul,Nat.reduceSub,Int.reduceLT,Int.reduceLE,Int.reduceToNat,Int.reduceAdd,Int.reduceSub,Int.reduceMul,ne_eq,decide_true,decide_false,tf25, he0]
  rw [c_seq]
  simp -dsimp only [↓RE,RU,RL,if_true,if_false,forall_const,implies_true,Nat.reduceLeDiff,Nat.reduceLT,pureOp,binPure,intBin,strBin,eqPure,isConstO,unPure,sliceLo,sliceHi,slicePure,slice3Pure,lenPure,capPure,minPure,maxPure,buildP,resK,endV,yieldE,↓reduceIte,Nat.reduceEqDiff,reduceCtorEq,Nat.reduceAdd,Nat.reduceMul,Nat.reduceSub,Int.reduceLT,Int.reduceLE,Int.reduceToNat,Int.reduceAdd,Int.reduceSub,Int.reduceMul,ne_eq,decide_true,decide_false,tf25, he0]
  have hs1 := g1.size
  have hs2 := hK2.size
  have hp1 := hR1.at
  have hz := Blk.new' w2 35 #[.int .u8 0, .int .i64 0]
  have ga := Grow.alloc w2 (.cells #[.int .u8 0, .int .i64 0] 35)
  have gw2 : Grow w w2 := g1.above hK2 (fun i hi e => by have := hF1 p hp1; omega)
  have hU0 : UV w w2.heap.size F p (uV0 b) (.slice none 0 0) (w2.alloc (.cells #[.int .u8 0, .int .i64 0] 35)) := ⟨hR2.grow ga, own_nil _ _ _, fun i hi => absurd hi (fpV_none _), gw2.trans ga, by omega, hF1, fun i hi => by have := hF1' i hi; omega, hz⟩
  rw [c_seq]
  simp -dsimp only [↓RE,RU,RL,if_true,if_false,forall_const,implies_true,Nat.reduceLeDiff,Nat.reduceLT,pureOp,binPure,intBin,strBin,eqPure,isConstO,unPure,sliceLo,sliceHi,slicePure,slice3Pure,lenPure,capPure,minPure,maxPure,buildP,resK,endV,yieldE,↓reduceIte,Nat.reduceEqDiff,reduceCtorEq,Nat.reduceAdd,Nat.reduceMul,Nat.reduceSub,Int.reduceLT,Int.reduceLE,Int.reduceToNat,Int.reduceAdd,Int.reduceSub,Int.reduceMul,ne_eq,decide_true,decide_false,tf25, he0]
  generalize hw3 : w2.alloc (.cells #[.int .u8 0, .int .i64 0] 35) = w3 at *
  refine c_seq_cut (fun e' w' => e' 0 = .slice A n c ∧ e' 4 = .pointer (some ⟨p, 0, none⟩) ∧ ∃ sv, e' 6 = sv ∧ UV w w2.heap.size F p (uV b) sv w') ?_ ?_
  · try simp -dsimp only [↓RE,↓c_seq,RU,RL,if_true,if_false,forall_const,implies_true,Nat.reduceLeDiff,Nat.reduceLT,pureOp,binPure,intBin,strBin,eqPure,isConstO,unPure,sliceLo,sliceHi,slicePure,slice3Pure,lenPure,capPure,minPure,maxPure,buildP,resK,endV,yieldE,↓reduceIte,Nat.reduceEqDiff,reduceCtorEq,Nat.reduceAdd,Nat.reduceMul,Nat.reduceSub,Int.reduceLT,Int.reduceLE,Int.reduceToNat,Int.reduceAdd,Int.reduceSub,Int.reduceMul,ne_eq,decide_true,decide_false,tf25, he0]
    refine wpLoop_intro (fun e' w' => e' 0 = .slice A n c ∧ e' 4 = .pointer (some ⟨p, 0, none⟩) ∧ e' 5 = .int .i64 (uN b : Nat) ∧ e' 7 = .pointer (some ⟨w2.heap.size, 0, none⟩) ∧ ∃ (t : US) (sv : Value), t.l.length ≤ uN b ∧ e' 6 = sv ∧ sv = .slice (match sv with | .slice a _ _ => a | _ => none) t.l.length (match sv with | .slice _ _ c => c | _ => 0) ∧ e' 8 = .int .i64 t.ahead ∧
        USok t ∧ usRun (uN b - t.l.length) t = uV b ∧ UV w w2.heap.size F p t sv w')
      (fun e' _ => uN b - (match e' 6 with | .slice _ m _ => m | _ => 0)) ⟨?_, ?_, ?_, ?_, uV0 b, .slice none 0 0, Nat.zero_le _, ?_, rfl, ?_, uV0_ok hb (by omega), rfl, hU0⟩ ?_
    · simp -dsimp only [↓RE,RU,RL,if_true,if_false,↓reduceIte,Nat.reduceEqDiff,reduceCtorEq,decide_true,decide_false, he0]
    · simp -dsimp only [↓RE,RU,RL,if_true,if_false,↓reduceIte,Nat.reduceEqDiff,reduceCtorEq,decide_true,decide_false, he0]
    · simp -dsimp only [↓RE,RU,RL,if_true,if_false,↓reduceIte,Nat.reduceEqDiff,reduceCtorEq,decide_true,decide_false, he0]
    · simp -dsimp only [↓RE,RU,RL,if_true,if_false,↓reduceIte,Nat.reduceEqDiff,reduceCtorEq,decide_true,decide_false, he0]
    · simp -dsimp only [↓RE,RU,RL,if_true,if_false,↓reduceIte,Nat.reduceEqDiff,reduceCtorEq,decide_true,decide_false, he0]
    · simp -dsimp only [↓RE,RU,RL,if_true,if_false,↓reduceIte,Nat.reduceEqDiff,reduceCtorEq,decide_true,decide_false, he0]
      rfl
    rintro e' w' ⟨h0, h4, h5, h7, t, sv, hk, h6, hsv, h8, hok, hrun, hU⟩
    obtain ⟨A6, c6, hq6, _, _⟩ := own_form hU.o
    subst hq6
    by_cases hlt : t.l.length < uN b
    · have d1 : decide ((t.l.length : Int) < ((uN b : Nat) : Int)) = true := decide_eq_true (by omega)
      try simp -dsimp only [↓RE,↓c_seq,RU,RL,if_true,if_false,forall_const,implies_true,Nat.reduceLeDiff,Nat.reduceLT,pureOp,binPure,intBin,strBin,eqPure,isConstO,unPure,sliceLo,sliceHi,slicePure,slice3Pure,lenPure,capPure,minPure,maxPure,buildP,resK,endV,yieldE,↓reduceIte,Nat.reduceEqDiff,reduceCtorEq,Nat.reduceAdd,Nat.reduceMul,Nat.reduceSub,Int.reduceLT,Int.reduceLE,Int.reduceToNat,Int.reduceAdd,Int.reduceSub,Int.reduceMul,ne_eq,decide_true,decide_false,tf25, h0, h4, h5, h6, h7, h8, d1]
      refine faultR_ok hU.r ?_
      cases hf : t.s.fault with
      | some x =>
        have he : uV b = t := by rw [← hrun]; exact usRun_fault (by rw [hf]; simp)
        try simp -dsimp only [↓RE,↓c_seq,RU,RL,if_true,if_false,forall_const,implies_true,Nat.reduceLeDiff,Nat.reduceLT,pureOp,binPure,intBin,strBin,eqPure,isConstO,unPure,sliceLo,sliceHi,slicePure,slice3Pure,lenPure,capPure,minPure,maxPure,buildP,resK,endV,yieldE,↓reduceIte,Nat.reduceEqDiff,reduceCtorEq,Nat.reduceAdd,Nat.reduceMul,Nat.reduceSub,Int.reduceLT,Int.reduceLE,Int.reduceToNat,Int.reduceAdd,Int.reduceSub,Int.reduceMul,ne_eq,decide_true,decide_false,tf25, h0, h4, h5, h6, h7, h8, errV]
        refine hold_intro ⟨?_, ?_, .slice A6 t.l.length c6, ?_, by rw [he]; exact hU⟩
        · simp -dsimp only [↓RE,RU,RL,if_true,if_false,↓reduceIte,Nat.reduceEqDiff,reduceCtorEq,decide_true,decide_false, h0]
        · simp -dsimp only [↓RE,RU,RL,if_true,if_false,↓reduceIte,Nat.reduceEqDiff,reduceCtorEq,decide_true,decide_false, h4]
        · simp -dsimp only [↓RE,RU,RL,if_true,if_false,↓reduceIte,Nat.reduceEqDiff,reduceCtorEq,decide_true,decide_false, h6]
      | none =>
        obtain ⟨m, hm⟩ : ∃ m, uN b - t.l.length = m + 1 := ⟨uN b - t.l.length - 1, by omega⟩
        rw [hm, usRun_step hf] at hrun
        have hlen := usStep_len t
        have hrun' : usRun (uN b - (usStep t).l.length) (usStep t) = uV b := by rw [hlen, show uN b - (t.l.length + 1) = m by omega]; exact hrun
        have hok' := hok.step
        try simp -dsimp only [↓RE,↓c_seq,RU,RL,if_true,if_false,forall_const,implies_true,Nat.reduceLeDiff,Nat.reduceLT,pureOp,binPure,intBin,strBin,eqPure,isConstO,unPure,sliceLo,sliceHi,slicePure,slice3Pure,lenPure,capPure,minPure,maxPure,buildP,resK,endV,yieldE,↓reduceIte,Nat.reduceEqDiff,reduceCtorEq,Nat.reduceAdd,Nat.reduceMul,Nat.reduceSub,Int.reduceLT,Int.reduceLE,Int.reduceToNat,Int.reduceAdd,Int.reduceSub,Int.reduceMul,ne_eq,decide_true,decide_false,tf25, h0, h4, h5, h6, h7, h8, errV]
        refine hU.last.aggK (by simp [vcells]) ?_
        try simp -dsimp only [↓RE,↓c_seq,RU,RL,if_true,if_false,forall_const,implies_true,Nat.reduceLeDiff,Nat.reduceLT,pureOp,binPure,intBin,strBin,eqPure,isConstO,unPure,sliceLo,sliceHi,slicePure,slice3Pure,lenPure,capPure,minPure,maxPure,buildP,resK,endV,yieldE,↓reduceIte,Nat.reduceEqDiff,reduceCtorEq,Nat.reduceAdd,Nat.reduceMul,Nat.reduceSub,Int.reduceLT,Int.reduceLE,Int.reduceToNat,Int.reduceAdd,Int.reduceSub,Int.reduceMul,ne_eq,decide_true,decide_false,tf25, h0, h4, h5, h6, h7, h8, vcells, List.drop_zero, List.take_succ_cons, List.take_zero]
        refine unvalue_ok hU.r hok.s hok.last hok.ahead.1 hok.ahead.2 (fun w4 hR4 hK4 => ?_)
        have hU4 := hU.read hR4 hK4
        have hst : usStep t = ⟨(rVal t.s t.last t.ahead).1, (rVal t.s t.last t.ahead).2, if (rVal t.s t.last t.ahead).2.1 = 0 then (rVal t.s t.last t.ahead).2.2 else t.ahead, t.l ++ [(rVal t.s t.last t.ahead).2]⟩ := rfl
        generalize (rVal t.s t.last t.ahead).1 = s4 at *
        generalize (rVal t.s t.last t.ahead).2 = v4 at *
        try simp -dsimp only [↓RE,↓c_seq,RU,RL,if_true,if_false,forall_const,implies_true,Nat.reduceLeDiff,Nat.reduceLT,pureOp,binPure,intBin,strBin,eqPure,isConstO,unPure,sliceLo,sliceHi,slicePure,slice3Pure,lenPure,capPure,minPure,maxPure,buildP,resK,endV,yieldE,↓reduceIte,Nat.reduceEqDiff,reduceCtorEq,Nat.reduceAdd,Nat.reduceMul,Nat.reduceSub,Int.reduceLT,Int.reduceLE,Int.reduceToNat,Int.reduceAdd,Int.reduceSub,Int.reduceMul,ne_eq,decide_true,decide_false,tf25, h0, h4, h5, h6, h7, h8]
        refine hU4.put (v := v4) (fun w5 hU5 => ?_)
        have hl5 := (hU5 0).last
        try simp -dsimp only [↓RE,↓c_seq,RU,RL,if_true,if_false,forall_const,implies_true,Nat.reduceLeDiff,Nat.reduceLT,pureOp,binPure,intBin,strBin,eqPure,isConstO,unPure,sliceLo,sliceHi,slicePure,slice3Pure,lenPure,capPure,minPure,maxPure,buildP,resK,endV,yieldE,↓reduceIte,Nat.reduceEqDiff,reduceCtorEq,Nat.reduceAdd,Nat.reduceMul,Nat.reduceSub,Int.reduceLT,Int.reduceLE,Int.reduceToNat,Int.reduceAdd,Int.reduceSub,Int.reduceMul,ne_eq,decide_true,decide_false,tf25, h0, h4, h5, h6, h7, h8, hl5.cell, vcells]
        refine ⟨fun hz0 => ?_, fun hz0 => ?_⟩
        all_goals
          try simp -dsimp only [↓RE,↓c_seq,RU,RL,if_true,if_false,forall_const,implies_true,Nat.reduceLeDiff,Nat.reduceLT,pureOp,binPure,intBin,strBin,eqPure,isConstO,unPure,sliceLo,sliceHi,slicePure,slice3Pure,lenPure,capPure,minPure,maxPure,buildP,resK,endV,yieldE,↓reduceIte,Nat.reduceEqDiff,reduceCtorEq,Nat.reduceAdd,Nat.reduceMul,Nat.reduceSub,Int.reduceLT,Int.reduceLE,Int.reduceToNat,Int.reduceAdd,Int.reduceSub,Int.reduceMul,ne_eq,decide_true,decide_false,tf25, h0, h4, h5, h6, h7, h8, hl5.cell, vcells]
          refine hl5.aggK (by simp [vcells]) ?_
          try simp -dsimp only [↓RE,↓c_seq,RU,RL,if_true,if_false,forall_const,implies_true,Nat.reduceLeDiff,Nat.reduceLT,pureOp,binPure,intBin,strBin,eqPure,isConstO,unPure,sliceLo,sliceHi,slicePure,slice3Pure,lenPure,capPure,minPure,maxPure,buildP,resK,endV,yieldE,↓reduceIte,Nat.reduceEqDiff,reduceCtorEq,Nat.reduceAdd,Nat.reduceMul,Nat.reduceSub,Int.reduceLT,Int.reduceLE,Int.reduceToNat,Int.reduceAdd,Int.reduceSub,Int.reduceMul,ne_eq,decide_true,decide_false,tf25, h0, h4, h5, h6, h7, h8, vcells, List.drop_zero, List.take_succ_cons, List.take_zero]
        · rw [if_pos hz0] at hst
          refine (hU5 v4.2).push (v := v4) (by omega) (fun sv6 w6 hU6 => ?_)
          obtain ⟨A7, c7, hq7, _, _⟩ := own_form hU6.o
          subst hq7
          have hlq : (t.l ++ [v4]).length = t.l.length + 1 := by simp
          try simp -dsimp only [↓RE,↓c_seq,RU,RL,if_true,if_false,forall_const,implies_true,Nat.reduceLeDiff,Nat.reduceLT,pureOp,binPure,intBin,strBin,eqPure,isConstO,unPure,sliceLo,sliceHi,slicePure,slice3Pure,lenPure,capPure,minPure,maxPure,buildP,resK,endV,yieldE,↓reduceIte,Nat.reduceEqDiff,reduceCtorEq,Nat.reduceAdd,Nat.reduceMul,Nat.reduceSub,Int.reduceLT,Int.reduceLE,Int.reduceToNat,Int.reduceAdd,Int.reduceSub,Int.reduceMul,ne_eq,decide_true,decide_false,tf25, h0, h4, h5, h6, h7, h8]
          refine hold_intro ⟨⟨?_, ?_, ?_, ?_, usStep t, .slice A7 (t.l ++ [v4]).length c7, by rw [hlen]; omega, ?_, ?_, ?_, hok', hrun', by rw [hst]; exact hU6⟩, ?_⟩
          · simp -dsimp only [↓RE,RU,RL,if_true,if_false,↓reduceIte,Nat.reduceEqDiff,reduceCtorEq,decide_true,decide_false, h0]
          · simp -dsimp only [↓RE,RU,RL,if_true,if_false,↓reduceIte,Nat.reduceEqDiff,reduceCtorEq,decide_true,decide_false, h4]
          · simp -dsimp only [↓RE,RU,RL,if_true,if_false,↓reduceIte,Nat.reduceEqDiff,reduceCtorEq,decide_true,decide_false, h5]
          · simp -dsimp only [↓RE,RU,RL,if_true,if_false,↓reduceIte,Nat.reduceEqDiff,reduceCtorEq,decide_true,decide_false, h7]
          · simp -dsimp only [↓RE,RU,RL,if_true,if_false,↓reduceIte,Nat.reduceEqDiff,reduceCtorEq,decide_true,decide_false, h6]
          · rw [hst]
          · simp -dsimp only [↓RE,RU,RL,if_true,if_false,↓reduceIte,Nat.reduceEqDiff,reduceCtorEq,decide_true,decide_false, h8]
            rw [hst]
          · simp -dsimp only [↓RE,RU,RL,if_true,if_false,↓reduceIte,Nat.reduceEqDiff,reduceCtorEq,decide_true,decide_false, h6]
            rw [hlq]; omega
        · rw [if_neg hz0] at hst
          refine (hU5 t.ahead).push (v := v4) (by omega) (fun sv6 w6 hU6 => ?_)
          obtain ⟨A7, c7, hq7, _, _⟩ := own_form hU6.o
          subst hq7
          have hlq : (t.l ++ [v4]).length = t.l.length + 1 := by simp
          try simp -dsimp only [↓RE,↓c_seq,RU,RL,if_true,if_false,forall_const,implies_true,Nat.reduceLeDiff,Nat.reduceLT,pureOp,binPure,intBin,strBin,eqPure,isConstO,unPure,sliceLo,sliceHi,slicePure,slice3Pure,lenPure,capPure,minPure,maxPure,buildP,resK,endV,yieldE,↓reduceIte,Nat.reduceEqDiff,reduceCtorEq,Nat.reduceAdd,Nat.reduceMul,Nat.reduceSub,Int.reduceLT,Int.reduceLE,Int.reduceToNat,Int.reduceAdd,Int.reduceSub,Int.reduceMul,ne_eq,decide_true,decide_false,tf25, h0, h4, h5, h6, h7, h8]
          refine hold_intro ⟨⟨?_, ?_, ?_, ?_, usStep t, .slice A7 (t.l ++ [v4]).length c7, by rw [hlen]; omega, ?_, ?_, ?_, hok', hrun', by rw [hst]; exact hU6⟩, ?_⟩
          · simp -dsimp only [↓RE,RU,RL,if_true,if_false,↓reduceIte,Nat.reduceEqDiff,reduceCtorEq,decide_true,decide_false, h0]
          · simp -dsimp only [↓RE,RU,RL,if_true,if_false,↓reduceIte,Nat.reduceEqDiff,reduceCtorEq,decide_true,decide_false, h4]
          · simp -dsimp only [↓RE,RU,RL,if_true,if_false,↓reduceIte,Nat.reduceEqDiff,reduceCtorEq,decide_true,decide_false, h5]
          · simp -dsimp only [↓RE,RU,RL,if_true,if_false,↓reduceIte,Nat.reduceEqDiff,reduceCtorEq,decide_true,decide_false, h7]
          · simp -dsimp only [↓RE,RU,RL,if_true,if_false,↓reduceIte,Nat.reduceEqDiff,reduceCtorEq,decide_true,decide_false, h6]
          · rw [hst]
          · simp -dsimp only [↓RE,RU,RL,if_true,if_false,↓reduceIte,Nat.reduceEqDiff,reduceCtorEq,decide_true,decide_false, h8]
            rw [hst]
          · simp -dsimp only [↓RE,RU,RL,if_true,if_false,↓reduceIte,Nat.reduceEqDiff,reduceCtorEq,decide_true,decide_false, h6]
            rw [hlq]; omega
    · have he : uV b = t := by rw [← hrun, show uN b - t.l.length = 0 by omega]; rfl
      have d1 : decide ((t.l.length : Int) < ((uN b : Nat) : Int)) = false := decide_eq_false (by omega)
      try simp -dsimp only [↓RE,↓c_seq,RU,RL,if_true,if_false,forall_const,implies_true,Nat.reduceLeDiff,Nat.reduceLT,pureOp,binPure,intBin,strBin,eqPure,isConstO,unPure,sliceLo,sliceHi,slicePure,slice3Pure,lenPure,capPure,minPure,maxPure,buildP,resK,endV,yieldE,↓reduceIte,Nat.reduceEqDiff,reduceCtorEq,Nat.reduceAdd,Nat.reduceMul,Nat.reduceSub,Int.reduceLT,Int.reduceLE,Int.reduceToNat,Int.reduceAdd,Int.reduceSub,Int.reduceMul,ne_eq,decide_true,decide_false,tf25, h0, h4, h5, h6, h7, h8, d1, undef]
      refine hold_intro ⟨?_, ?_, .slice A6 t.l.length c6, ?_, by rw [he]; exact hU⟩
      · simp -dsimp only [↓RE,RU,RL,if_true,if_false,↓reduceIte,Nat.reduceEqDiff,reduceCtorEq,decide_true,decide_false, h0]
      · simp -dsimp only [↓RE,RU,RL,if_true,if_false,↓reduceIte,Nat.reduceEqDiff,reduceCtorEq,decide_true,decide_false, h4]
      · simp -dsimp only [↓RE,RU,RL,if_true,if_false,↓reduceIte,Nat.reduceEqDiff,reduceCtorEq,decide_true,decide_false, h6]
  · rintro e3 w3 ⟨h0, h4, sv, h6, hU⟩
    try simp -dsimp only [↓RE,↓c_seq,RU,RL,if_true,if_false,forall_const,implies_true,Nat.reduceLeDiff,Nat.reduceLT,pureOp,binPure,intBin,strBin,eqPure,isConstO,unPure,sliceLo,sliceHi,slicePure,slice3Pure,lenPure,capPure,minPure,maxPure,buildP,resK,endV,yieldE,↓reduceIte,Nat.reduceEqDiff,reduceCtorEq,Nat.reduceAdd,Nat.reduceMul,Nat.reduceSub,Int.reduceLT,Int.reduceLE,Int.reduceToNat,Int.reduceAdd,Int.reduceSub,Int.reduceMul,ne_eq,decide_true,decide_false,tf25, h0, h4, h6]
    refine doneR_ok hU.r (uV_ok hb (by omega)).s (fun w4 g4 => ?_)
    have hg4 := hU.g.trans g4
    cases hd : rDone (uV b).s with
    | some x =>
      try simp -dsimp only [↓RE,↓c_seq,RU,RL,if_true,if_false,forall_const,implies_true,Nat.reduceLeDiff,Nat.reduceLT,pureOp,binPure,intBin,strBin,eqPure,isConstO,unPure,sliceLo,sliceHi,slicePure,slice3Pure,lenPure,capPure,minPure,maxPure,buildP,resK,endV,yieldE,↓reduceIte,Nat.reduceEqDiff,reduceCtorEq,Nat.reduceAdd,Nat.reduceMul,Nat.reduceSub,Int.reduceLT,Int.reduceLE,Int.reduceToNat,Int.reduceAdd,Int.reduceSub,Int.reduceMul,ne_eq,decide_true,decide_false,tf25, h0, h4, h6, hd, errV]
      exact h1 x w4 hd hg4
    | none =>
      obtain ⟨A6, c6, rfl, _, _⟩ := own_form hU.o
      have hO4 := own_grow hU.o g4
      have hln := uV_len b
      have htok := uV_ok hb (b := b) (by omega)
      try simp -dsimp only [↓RE,↓c_seq,RU,RL,if_true,if_false,forall_const,implies_true,Nat.reduceLeDiff,Nat.reduceLT,pureOp,binPure,intBin,strBin,eqPure,isConstO,unPure,sliceLo,sliceHi,slicePure,slice3Pure,lenPure,capPure,minPure,maxPure,buildP,resK,endV,yieldE,↓reduceIte,Nat.reduceEqDiff,reduceCtorEq,Nat.reduceAdd,Nat.reduceMul,Nat.reduceSub,Int.reduceLT,Int.reduceLE,Int.reduceToNat,Int.reduceAdd,Int.reduceSub,Int.reduceMul,ne_eq,decide_true,decide_false,tf25, h0, h4, h6, hd, errV]
      refine values_ok (Rd.of_own hO4) htok.l (by omega) (fun er w5 hte g5 => ?_) (fun hte w5 A5 c5 hO5 g5 hF5 => ?_)
      · try simp -dsimp only [↓RE,↓c_seq,RU,RL,if_true,if_false,forall_const,implies_true,Nat.reduceLeDiff,Nat.reduceLT,pureOp,binPure,intBin,strBin,eqPure,isConstO,unPure,sliceLo,sliceHi,slicePure,slice3Pure,lenPure,capPure,minPure,maxPure,buildP,resK,endV,yieldE,↓reduceIte,Nat.reduceEqDiff,reduceCtorEq,Nat.reduceAdd,Nat.reduceMul,Nat.reduceSub,Int.reduceLT,Int.reduceLE,Int.reduceToNat,Int.reduceAdd,Int.reduceSub,Int.reduceMul,ne_eq,decide_true,decide_false,tf25, h0, h4, h6, undef]
        refine fnew_ok (by decide) ?_
        try simp -dsimp only [↓RE,↓c_seq,RU,RL,if_true,if_false,forall_const,implies_true,Nat.reduceLeDiff,Nat.reduceLT,pureOp,binPure,intBin,strBin,eqPure,isConstO,unPure,sliceLo,sliceHi,slicePure,slice3Pure,lenPure,capPure,minPure,maxPure,buildP,resK,endV,yieldE,↓reduceIte,Nat.reduceEqDiff,reduceCtorEq,Nat.reduceAdd,Nat.reduceMul,Nat.reduceSub,Int.reduceLT,Int.reduceLE,Int.reduceToNat,Int.reduceAdd,Int.reduceSub,Int.reduceMul,ne_eq,decide_true,decide_false,tf25, h0, h4, h6]
        exact h2 w5 hd (fun hq => by rw [hq.1] at hte; cases hte) (hg4.trans g5)
      have hwb := (vS_ok (uV b).l (uV b).l.length).2.1
      try simp -dsimp only [↓RE,↓c_seq,RU,RL,if_true,if_false,forall_const,implies_true,Nat.reduceLeDiff,Nat.reduceLT,pureOp,binPure,intBin,strBin,eqPure,isConstO,unPure,sliceLo,sliceHi,slicePure,slice3Pure,lenPure,capPure,minPure,maxPure,buildP,resK,endV,yieldE,↓reduceIte,Nat.reduceEqDiff,reduceCtorEq,Nat.reduceAdd,Nat.reduceMul,Nat.reduceSub,Int.reduceLT,Int.reduceLE,Int.reduceToNat,Int.reduceAdd,Int.reduceSub,Int.reduceMul,ne_eq,decide_true,decide_false,tf25, h0, h4, h6]
      refine equal_ok (Rd.of_own hO5) (hR.grow (hg4.trans g5)) hwb hb (fun w6 g6 => ?_)
      by_cases hq : (vS (uV b).l (uV b).l.length).q.1 = b
      · have d6 : decide ((vS (uV b).l (uV b).l.length).q.1 = b) = true := decide_eq_true hq
        try simp -dsimp only [↓RE,↓c_seq,RU,RL,if_true,if_false,forall_const,implies_true,Nat.reduceLeDiff,Nat.reduceLT,pureOp,binPure,intBin,strBin,eqPure,isConstO,unPure,sliceLo,sliceHi,slicePure,slice3Pure,lenPure,capPure,minPure,maxPure,buildP,resK,endV,yieldE,↓reduceIte,Nat.reduceEqDiff,reduceCtorEq,Nat.reduceAdd,Nat.reduceMul,Nat.reduceSub,Int.reduceLT,Int.reduceLE,Int.reduceToNat,Int.reduceAdd,Int.reduceSub,Int.reduceMul,ne_eq,decide_true,decide_false,tf25, h0, h4, h6, d6]
        exact h hd ⟨hte, hq⟩ w6 A6 c6 (own_grow (own_grow hO4 g5) g6) ((hg4.trans g5).trans g6) (fun k hk => by have := hU.f k ((fpV_fpA _ _ _ _).2 hk); omega)
      · have d6 : decide ((vS (uV b).l (uV b).l.length).q.1 = b) = false := decide_eq_false hq
        try simp -dsimp only [↓RE,↓c_seq,RU,RL,if_true,if_false,forall_const,implies_true,Nat.reduceLeDiff,Nat.reduceLT,pureOp,binPure,intBin,strBin,eqPure,isConstO,unPure,sliceLo,sliceHi,slicePure,slice3Pure,lenPure,capPure,minPure,maxPure,buildP,resK,endV,yieldE,↓reduceIte,Nat.reduceEqDiff,reduceCtorEq,Nat.reduceAdd,Nat.reduceMul,Nat.reduceSub,Int.reduceLT,Int.reduceLE,Int.reduceToNat,Int.reduceAdd,Int.reduceSub,Int.reduceMul,ne_eq,decide_true,decide_false,tf25, h0, h4, h6, d6]
        refine fnew_ok (by decide) ?_
        try simp -dsimp only [↓RE,↓c_seq,RU,RL,if_true,if_false,forall_const,implies_true,Nat.reduceLeDiff,Nat.reduceLT,pureOp,binPure,intBin,strBin,eqPure,isConstO,unPure,sliceLo,sliceHi,slicePure,slice3Pure,lenPure,capPure,minPure,maxPure,buildP,resK,endV,yieldE,↓reduceIte,Nat.reduceEqDiff,reduceCtorEq,Nat.reduceAdd,Nat.reduceMul,Nat.reduceSub,Int.reduceLT,Int.reduceLE,Int.reduceToNat,Int.reduceAdd,Int.reduceSub,Int.reduceMul,ne_eq,decide_true,decide_false,tf25, h0, h4, h6]
        exact h2 w6 hd (fun hg => hq hg.2) ((hg4.trans g5).trans g6)

end Go.Proofs.Ytpocfghkolppmaa
