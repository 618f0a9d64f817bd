/- block.undifference, block.unvalue: one difference, one value, read. -/
import Derived.Test.YtmgiichlccdcfaaUnSpec
import Derived.Test.YtmgiichlccdcfaaTimes
set_option linter.unusedVariables false
set_option linter.unusedSimpArgs false
set_option maxRecDepth 100000
namespace Go.Proofs.Ytmgiichlccdcfaa
open Go

theorem undiff_ok {w : World} {F : Nat → Prop} {p : Nat} {s : RS} (hR : RAt w F p s) (ok : RSok s) {R : VWK}
    (h : ∀ w', RAt w' F p (rDelta s).1 → Keep (fun k => k = p) w w' → R (.int .i64 (rDelta s).2) w') :
    CallsV Try.prog 41 [.pointer (some ⟨p, 0, none⟩)] w R := by
  have hpl := hR.lt p hR.at
  have hlt := hR.lt
  refine calls_of_wpC mixed Try.func41 rfl (by kernel_rfl) ?_
  intro e he
  have he0 := he 0
  simp only [List.getD_cons_zero, List.getD_cons_succ] at he0
  clear he
  try simp -dsimp only [↓RE,↓c_seq,RU,RL,if_true,if_false,forall_const,implies_true,Nat.reduceLeDiff,Nat.reduceLT,pureOp,binPure,intBin,strBin,eqPure,isConstO,unPure,sliceLo,sliceHi,slicePure,lenPure,minPure,maxPure,buildP,resK,endV,yieldE,↓reduceIte,Nat.reduceEqDiff,reduceCtorEq,Nat.reduceAdd,Nat.reduceMul,Nat.reduceSub,Int.reduceLT,Int.reduceLE,Int.reduceToNat,Int.reduceAdd,Int.reduceSub,Int.reduceMul,ne_eq,decide_true,decide_false,tf41, he0]
  refine classes_ok (fun w1 g hB1 g1 hg => ?_)
  try simp -dsimp only [↓RE,↓c_seq,RU,RL,if_true,if_false,forall_const,implies_true,Nat.reduceLeDiff,Nat.reduceLT,pureOp,binPure,intBin,strBin,eqPure,isConstO,unPure,sliceLo,sliceHi,slicePure,lenPure,minPure,maxPure,buildP,resK,endV,yieldE,↓reduceIte,Nat.reduceEqDiff,reduceCtorEq,Nat.reduceAdd,Nat.reduceMul,Nat.reduceSub,Int.reduceLT,Int.reduceLE,Int.reduceToNat,Int.reduceAdd,Int.reduceSub,Int.reduceMul,ne_eq,decide_true,decide_false,tf41, he0]
  refine wpLoop_intro (fun e' w' => e' 0 = .pointer (some ⟨p, 0, none⟩) ∧ e' 5 = .slice (some ⟨g, 0, none⟩) 4 4 ∧ e' 6 = .int .i64 (4 : Nat) ∧ ∃ (k : Nat) (q : RS), k ≤ 4 ∧ e' 7 = .int .i64 k ∧ Blk w' g 132 clsCells ∧
      RAt w' F p q ∧ RSok q ∧ rDfrom (4 - k) k q = rDelta s ∧ Keep (fun k => k = p) w w')
    (fun e' _ => 4 - (envInt (e' 7)).toNat) ⟨?_, ?_, ?_, 0, s, by omega, ?_, hB1, hR.grow g1, ok, rfl, g1.then (Keep.refl _ _)⟩ ?_
  · simp -dsimp only [↓RE,RU,RL,if_true,if_false,↓reduceIte,Nat.reduceEqDiff,reduceCtorEq,decide_true,decide_false, he0]
  · simp -dsimp only [↓RE,RU,RL,if_true,if_false,↓reduceIte,Nat.reduceEqDiff,reduceCtorEq,decide_true,decide_false, he0]
  · simp -dsimp only [↓RE,RU,RL,if_true,if_false,↓reduceIte,Nat.reduceEqDiff,reduceCtorEq,decide_true,decide_false, he0]
  · simp -dsimp only [↓RE,RU,RL,if_true,if_false,↓reduceIte,Nat.reduceEqDiff,reduceCtorEq,decide_true,decide_false, he0, Int.cast_ofNat_Int]
  rintro e' w' ⟨h0, h5, h6, k, q, hk, h7, hB, hRq, okq, hd, hgr⟩
  have hz0 := Blk.new' w' 132 #[.int .i64 0, .int .i64 0, .int .i64 0, .int .i64 0, .int .i64 0]
  have ga := Grow.alloc w' (.cells #[.int .i64 0, .int .i64 0, .int .i64 0, .int .i64 0, .int .i64 0] 132)
  have hk5 : k = 0 ∨ k = 1 ∨ k = 2 ∨ k = 3 ∨ k = 4 := by omega
  have hgs := hgr.size
  have hgp : g ≠ p := by omega
  have b01 := rBits_01 q
  rcases hk5 with rfl | rfl | rfl | rfl | rfl
  · try simp -dsimp only [↓RE,↓c_seq,RU,RL,if_true,if_false,forall_const,implies_true,Nat.reduceLeDiff,Nat.reduceLT,pureOp,binPure,intBin,strBin,eqPure,isConstO,unPure,sliceLo,sliceHi,slicePure,lenPure,minPure,maxPure,buildP,resK,endV,yieldE,↓reduceIte,Nat.reduceEqDiff,reduceCtorEq,Nat.reduceAdd,Nat.reduceMul,Nat.reduceSub,Int.reduceLT,Int.reduceLE,Int.reduceToNat,Int.reduceAdd,Int.reduceSub,Int.reduceMul,ne_eq,decide_true,decide_false,tf41, h0, h5, h6, h7, Int.cast_ofNat_Int]
    refine hB.aggK (o := 0) (by simp [clsCells]) ?_
    try simp -dsimp only [↓RE,↓c_seq,RU,RL,if_true,if_false,forall_const,implies_true,Nat.reduceLeDiff,Nat.reduceLT,pureOp,binPure,intBin,strBin,eqPure,isConstO,unPure,sliceLo,sliceHi,slicePure,lenPure,minPure,maxPure,buildP,resK,endV,yieldE,↓reduceIte,Nat.reduceEqDiff,reduceCtorEq,Nat.reduceAdd,Nat.reduceMul,Nat.reduceSub,Int.reduceLT,Int.reduceLE,Int.reduceToNat,Int.reduceAdd,Int.reduceSub,Int.reduceMul,ne_eq,decide_true,decide_false,tf41, h0, h5, h6, h7, clsCells, List.drop_zero, List.drop_succ_cons, List.take_succ_cons, List.take_zero]
    refine hz0.stAgg (by simp) (by simp [Value.oneCell']) (fun w2 hB2 hK2 => ?_)
    have hB2 : Blk w2 w'.heap.size 132 [.int .i64 0, .int .i64 1, .int .i64 0, .int .i64 0, .int .i64 0] := by simpa using hB2
    have g2 : Grow w' w2 := ga.above hK2 (fun i hi e => by omega)
    have hpw : p < w'.heap.size := by omega
    try simp -dsimp only [↓RE,↓c_seq,RU,RL,if_true,if_false,forall_const,implies_true,Nat.reduceLeDiff,Nat.reduceLT,pureOp,binPure,intBin,strBin,eqPure,isConstO,unPure,sliceLo,sliceHi,slicePure,lenPure,minPure,maxPure,buildP,resK,endV,yieldE,↓reduceIte,Nat.reduceEqDiff,reduceCtorEq,Nat.reduceAdd,Nat.reduceMul,Nat.reduceSub,Int.reduceLT,Int.reduceLE,Int.reduceToNat,Int.reduceAdd,Int.reduceSub,Int.reduceMul,ne_eq,decide_true,decide_false,tf41, h0, h5, h6, h7, hB2.cell]
    refine bitsR_ok (hRq.grow g2) okq (by omega) (by omega) (fun w3 hR3 hK3 => ?_)
    have g3 : Keep (fun k => k = p) w w3 := (hgr.then_grow g2).trans hK3 (fun _ _ e => e) (fun _ _ e => e)
    have hB3 := hB2.keep hK3 (by omega)
    have hBc3 := (hB.grow g2).keep hK3 hgp
    rcases b01 with hb | hb
    · have hde : rDelta s = dTail 0 (rBits 1 q).1 := by rw [← hd]; show (if (rBits 1 q).2 = 0 then dTail 0 (rBits 1 q).1 else _) = _; rw [if_pos hb]
      have okd := okq.bits 1
      generalize (rBits 1 q).1 = q2 at hR3 hde okd
      have hrg := rBits_range 0 q2
      try simp -dsimp only [↓RE,↓c_seq,RU,RL,if_true,if_false,forall_const,implies_true,Nat.reduceLeDiff,Nat.reduceLT,pureOp,binPure,intBin,strBin,eqPure,isConstO,unPure,sliceLo,sliceHi,slicePure,lenPure,minPure,maxPure,buildP,resK,endV,yieldE,↓reduceIte,Nat.reduceEqDiff,reduceCtorEq,Nat.reduceAdd,Nat.reduceMul,Nat.reduceSub,Int.reduceLT,Int.reduceLE,Int.reduceToNat,Int.reduceAdd,Int.reduceSub,Int.reduceMul,ne_eq,decide_true,decide_false,tf41, h0, h5, h6, h7, hb, eq_self, hB3.cell]
      refine wpDraw_by (fun w0 => Blk w0 w'.heap.size 132 [.int .i64 0, .int .i64 1, .int .i64 0, .int .i64 0, .int .i64 0]) [(0, true), (1, true), (2, true), (5, true), (6, true), (3, false), (4, true), (7, true), (8, true)] (by kernel_rfl) hB3.drew ?_
      simp only [planL, List.getElem?_toArray, List.getElem?_cons_zero, List.getElem?_cons_succ, Option.toList_some, List.map_cons, List.map_nil, List.cons_append, List.nil_append]
      try simp -dsimp only [↓RE,↓c_seq,RU,RL,if_true,if_false,forall_const,implies_true,Nat.reduceLeDiff,Nat.reduceLT,pureOp,binPure,intBin,strBin,eqPure,isConstO,unPure,sliceLo,sliceHi,slicePure,lenPure,minPure,maxPure,buildP,resK,endV,yieldE,↓reduceIte,Nat.reduceEqDiff,reduceCtorEq,Nat.reduceAdd,Nat.reduceMul,Nat.reduceSub,Int.reduceLT,Int.reduceLE,Int.reduceToNat,Int.reduceAdd,Int.reduceSub,Int.reduceMul,ne_eq,decide_true,decide_false,tf41, h0, h5, h6, h7]
      refine ⟨_, fun w9 hS => Blk.cell hS 4, ?_⟩
      try simp -dsimp only [↓RE,↓c_seq,RU,RL,if_true,if_false,forall_const,implies_true,Nat.reduceLeDiff,Nat.reduceLT,pureOp,binPure,intBin,strBin,eqPure,isConstO,unPure,sliceLo,sliceHi,slicePure,lenPure,minPure,maxPure,buildP,resK,endV,yieldE,↓reduceIte,Nat.reduceEqDiff,reduceCtorEq,Nat.reduceAdd,Nat.reduceMul,Nat.reduceSub,Int.reduceLT,Int.reduceLE,Int.reduceToNat,Int.reduceAdd,Int.reduceSub,Int.reduceMul,ne_eq,decide_true,decide_false,tf41, h0, h5, h6, h7]
      refine ⟨_, fun w9 hS => Blk.cell hS 2, ?_⟩
      try simp -dsimp only [↓RE,↓c_seq,RU,RL,if_true,if_false,forall_const,implies_true,Nat.reduceLeDiff,Nat.reduceLT,pureOp,binPure,intBin,strBin,eqPure,isConstO,unPure,sliceLo,sliceHi,slicePure,lenPure,minPure,maxPure,buildP,resK,endV,yieldE,↓reduceIte,Nat.reduceEqDiff,reduceCtorEq,Nat.reduceAdd,Nat.reduceMul,Nat.reduceSub,Int.reduceLT,Int.reduceLE,Int.reduceToNat,Int.reduceAdd,Int.reduceSub,Int.reduceMul,ne_eq,decide_true,decide_false,tf41, h0, h5, h6, h7]
      refine bitsR_ok (hR3.grow (Grow.drew _)) okd (by omega) (by omega) (fun w4 hR4 hK4 => ?_)
      have g4 : Keep (fun k => k = p) w w4 := (g3.then_grow (Grow.drew _)).trans hK4 (fun _ _ e => e) (fun _ _ e => e)
      have hB4 := hB3.drew.keep hK4 (by omega)
      have hfin := h w4 (by rw [hde]; show RAt w4 F p q2; have := hR4; rwa [rBits_0] at this) g4
      rw [hde] at hfin
      have v1 : IntKind.i64.wrap (IntKind.i64.wrap (rBits 0 q2).2 + 0) = 0 := by rw [rBits_0]; show IntKind.i64.wrap (IntKind.i64.wrap 0 + 0) = 0; decide
      try simp -dsimp only [↓RE,↓c_seq,RU,RL,if_true,if_false,forall_const,implies_true,Nat.reduceLeDiff,Nat.reduceLT,pureOp,binPure,intBin,strBin,eqPure,isConstO,unPure,sliceLo,sliceHi,slicePure,lenPure,minPure,maxPure,buildP,resK,endV,yieldE,↓reduceIte,Nat.reduceEqDiff,reduceCtorEq,Nat.reduceAdd,Nat.reduceMul,Nat.reduceSub,Int.reduceLT,Int.reduceLE,Int.reduceToNat,Int.reduceAdd,Int.reduceSub,Int.reduceMul,ne_eq,decide_true,decide_false,tf41, h0, h5, h6, h7, v1]
      refine ⟨hB4, ?_⟩
      try simp -dsimp only [↓RE,↓c_seq,RU,RL,if_true,if_false,forall_const,implies_true,Nat.reduceLeDiff,Nat.reduceLT,pureOp,binPure,intBin,strBin,eqPure,isConstO,unPure,sliceLo,sliceHi,slicePure,lenPure,minPure,maxPure,buildP,resK,endV,yieldE,↓reduceIte,Nat.reduceEqDiff,reduceCtorEq,Nat.reduceAdd,Nat.reduceMul,Nat.reduceSub,Int.reduceLT,Int.reduceLE,Int.reduceToNat,Int.reduceAdd,Int.reduceSub,Int.reduceMul,ne_eq,decide_true,decide_false,tf41, h0, h5, h6, h7, v1]
      exact hfin
    · have hd2 : rDfrom (4 - 1) 1 (rBits 1 q).1 = rDelta s := by rw [← hd]; show _ = (if (rBits 1 q).2 = 0 then _ else rDfrom (3) 1 (rBits 1 q).1); rw [if_neg (by omega)]
      have okd := okq.bits 1
      try simp -dsimp only [↓RE,↓c_seq,RU,RL,if_true,if_false,forall_const,implies_true,Nat.reduceLeDiff,Nat.reduceLT,pureOp,binPure,intBin,strBin,eqPure,isConstO,unPure,sliceLo,sliceHi,slicePure,lenPure,minPure,maxPure,buildP,resK,endV,yieldE,↓reduceIte,Nat.reduceEqDiff,reduceCtorEq,Nat.reduceAdd,Nat.reduceMul,Nat.reduceSub,Int.reduceLT,Int.reduceLE,Int.reduceToNat,Int.reduceAdd,Int.reduceSub,Int.reduceMul,ne_eq,decide_true,decide_false,tf41, h0, h5, h6, h7, hb, Int.cast_ofNat_Int, Int.reduceEq]
      refine hold_intro ⟨⟨?_, ?_, ?_, 1, (rBits 1 q).1, by omega, ?_, hBc3, hR3, okd, hd2, g3⟩, ?_⟩
      · simp -dsimp only [↓RE,RU,RL,if_true,if_false,↓reduceIte,Nat.reduceEqDiff,reduceCtorEq,decide_true,decide_false, h0]
      · simp -dsimp only [↓RE,RU,RL,if_true,if_false,↓reduceIte,Nat.reduceEqDiff,reduceCtorEq,decide_true,decide_false, h5]
      · simp -dsimp only [↓RE,RU,RL,if_true,if_false,↓reduceIte,Nat.reduceEqDiff,reduceCtorEq,decide_true,decide_false, h6]
      · simp -dsimp only [↓RE,RU,RL,if_true,if_false,↓reduceIte,Nat.reduceEqDiff,reduceCtorEq,decide_true,decide_false, h7, Int.cast_ofNat_Int]
        rfl
      · simp -dsimp only [↓RE,RU,RL,if_true,if_false,↓reduceIte,Nat.reduceEqDiff,reduceCtorEq,decide_true,decide_false, h7, Int.cast_ofNat_Int]
        decide
  · try simp -dsimp only [↓RE,↓c_seq,RU,RL,if_true,if_false,forall_const,implies_true,Nat.reduceLeDiff,Nat.reduceLT,pureOp,binPure,intBin,strBin,eqPure,isConstO,unPure,sliceLo,sliceHi,slicePure,lenPure,minPure,maxPure,buildP,resK,endV,yieldE,↓reduceIte,Nat.reduceEqDiff,reduceCtorEq,Nat.reduceAdd,Nat.reduceMul,Nat.reduceSub,Int.reduceLT,Int.reduceLE,Int.reduceToNat,Int.reduceAdd,Int.reduceSub,Int.reduceMul,ne_eq,decide_true,decide_false,tf41, h0, h5, h6, h7, Int.cast_ofNat_Int]
    refine hB.aggK (o := 5) (by simp [clsCells]) ?_
    try simp -dsimp only [↓RE,↓c_seq,RU,RL,if_true,if_false,forall_const,implies_true,Nat.reduceLeDiff,Nat.reduceLT,pureOp,binPure,intBin,strBin,eqPure,isConstO,unPure,sliceLo,sliceHi,slicePure,lenPure,minPure,maxPure,buildP,resK,endV,yieldE,↓reduceIte,Nat.reduceEqDiff,reduceCtorEq,Nat.reduceAdd,Nat.reduceMul,Nat.reduceSub,Int.reduceLT,Int.reduceLE,Int.reduceToNat,Int.reduceAdd,Int.reduceSub,Int.reduceMul,ne_eq,decide_true,decide_false,tf41, h0, h5, h6, h7, clsCells, List.drop_zero, List.drop_succ_cons, List.take_succ_cons, List.take_zero]
    refine hz0.stAgg (by simp) (by simp [Value.oneCell']) (fun w2 hB2 hK2 => ?_)
    have hB2 : Blk w2 w'.heap.size 132 [.int .i64 2, .int .i64 2, .int .i64 (-63), .int .i64 64, .int .i64 7] := by simpa using hB2
    have g2 : Grow w' w2 := ga.above hK2 (fun i hi e => by omega)
    have hpw : p < w'.heap.size := by omega
    try simp -dsimp only [↓RE,↓c_seq,RU,RL,if_true,if_false,forall_const,implies_true,Nat.reduceLeDiff,Nat.reduceLT,pureOp,binPure,intBin,strBin,eqPure,isConstO,unPure,sliceLo,sliceHi,slicePure,lenPure,minPure,maxPure,buildP,resK,endV,yieldE,↓reduceIte,Nat.reduceEqDiff,reduceCtorEq,Nat.reduceAdd,Nat.reduceMul,Nat.reduceSub,Int.reduceLT,Int.reduceLE,Int.reduceToNat,Int.reduceAdd,Int.reduceSub,Int.reduceMul,ne_eq,decide_true,decide_false,tf41, h0, h5, h6, h7, hB2.cell]
    refine bitsR_ok (hRq.grow g2) okq (by omega) (by omega) (fun w3 hR3 hK3 => ?_)
    have g3 : Keep (fun k => k = p) w w3 := (hgr.then_grow g2).trans hK3 (fun _ _ e => e) (fun _ _ e => e)
    have hB3 := hB2.keep hK3 (by omega)
    have hBc3 := (hB.grow g2).keep hK3 hgp
    rcases b01 with hb | hb
    · have hde : rDelta s = dTail 1 (rBits 1 q).1 := by rw [← hd]; show (if (rBits 1 q).2 = 0 then dTail 1 (rBits 1 q).1 else _) = _; rw [if_pos hb]
      have okd := okq.bits 1
      generalize (rBits 1 q).1 = q2 at hR3 hde okd
      have hrg := rBits_range 7 q2
      try simp -dsimp only [↓RE,↓c_seq,RU,RL,if_true,if_false,forall_const,implies_true,Nat.reduceLeDiff,Nat.reduceLT,pureOp,binPure,intBin,strBin,eqPure,isConstO,unPure,sliceLo,sliceHi,slicePure,lenPure,minPure,maxPure,buildP,resK,endV,yieldE,↓reduceIte,Nat.reduceEqDiff,reduceCtorEq,Nat.reduceAdd,Nat.reduceMul,Nat.reduceSub,Int.reduceLT,Int.reduceLE,Int.reduceToNat,Int.reduceAdd,Int.reduceSub,Int.reduceMul,ne_eq,decide_true,decide_false,tf41, h0, h5, h6, h7, hb, eq_self, hB3.cell]
      refine wpDraw_by (fun w0 => Blk w0 w'.heap.size 132 [.int .i64 2, .int .i64 2, .int .i64 (-63), .int .i64 64, .int .i64 7]) [(0, true), (1, true), (2, true), (5, true), (6, true), (3, false), (4, true), (7, true), (8, true)] (by kernel_rfl) hB3.drew ?_
      simp only [planL, List.getElem?_toArray, List.getElem?_cons_zero, List.getElem?_cons_succ, Option.toList_some, List.map_cons, List.map_nil, List.cons_append, List.nil_append]
      try simp -dsimp only [↓RE,↓c_seq,RU,RL,if_true,if_false,forall_const,implies_true,Nat.reduceLeDiff,Nat.reduceLT,pureOp,binPure,intBin,strBin,eqPure,isConstO,unPure,sliceLo,sliceHi,slicePure,lenPure,minPure,maxPure,buildP,resK,endV,yieldE,↓reduceIte,Nat.reduceEqDiff,reduceCtorEq,Nat.reduceAdd,Nat.reduceMul,Nat.reduceSub,Int.reduceLT,Int.reduceLE,Int.reduceToNat,Int.reduceAdd,Int.reduceSub,Int.reduceMul,ne_eq,decide_true,decide_false,tf41, h0, h5, h6, h7]
      refine ⟨_, fun w9 hS => Blk.cell hS 4, ?_⟩
      try simp -dsimp only [↓RE,↓c_seq,RU,RL,if_true,if_false,forall_const,implies_true,Nat.reduceLeDiff,Nat.reduceLT,pureOp,binPure,intBin,strBin,eqPure,isConstO,unPure,sliceLo,sliceHi,slicePure,lenPure,minPure,maxPure,buildP,resK,endV,yieldE,↓reduceIte,Nat.reduceEqDiff,reduceCtorEq,Nat.reduceAdd,Nat.reduceMul,Nat.reduceSub,Int.reduceLT,Int.reduceLE,Int.reduceToNat,Int.reduceAdd,Int.reduceSub,Int.reduceMul,ne_eq,decide_true,decide_false,tf41, h0, h5, h6, h7]
      refine ⟨_, fun w9 hS => Blk.cell hS 2, ?_⟩
      try simp -dsimp only [↓RE,↓c_seq,RU,RL,if_true,if_false,forall_const,implies_true,Nat.reduceLeDiff,Nat.reduceLT,pureOp,binPure,intBin,strBin,eqPure,isConstO,unPure,sliceLo,sliceHi,slicePure,lenPure,minPure,maxPure,buildP,resK,endV,yieldE,↓reduceIte,Nat.reduceEqDiff,reduceCtorEq,Nat.reduceAdd,Nat.reduceMul,Nat.reduceSub,Int.reduceLT,Int.reduceLE,Int.reduceToNat,Int.reduceAdd,Int.reduceSub,Int.reduceMul,ne_eq,decide_true,decide_false,tf41, h0, h5, h6, h7]
      refine bitsR_ok (hR3.grow (Grow.drew _)) okd (by omega) (by omega) (fun w4 hR4 hK4 => ?_)
      have g4 : Keep (fun k => k = p) w w4 := (g3.then_grow (Grow.drew _)).trans hK4 (fun _ _ e => e) (fun _ _ e => e)
      have hB4 := hB3.drew.keep hK4 (by omega)
      have hfin := h w4 (by rw [hde]; exact hR4) g4
      rw [hde] at hfin
      rw [show brought 7 = 7 by decide, show (2 : Int) ^ 7 = 128 by decide] at hrg
      have v1 : IntKind.i64.wrap (IntKind.i64.wrap (rBits 7 q2).2 + (-63)) = (rBits 7 q2).2 - 63 := by rw [wrap_i64_in (n := (rBits 7 q2).2) (by omega) (by omega), wrap_i64_in (by omega) (by omega)]; omega
      try simp -dsimp only [↓RE,↓c_seq,RU,RL,if_true,if_false,forall_const,implies_true,Nat.reduceLeDiff,Nat.reduceLT,pureOp,binPure,intBin,strBin,eqPure,isConstO,unPure,sliceLo,sliceHi,slicePure,lenPure,minPure,maxPure,buildP,resK,endV,yieldE,↓reduceIte,Nat.reduceEqDiff,reduceCtorEq,Nat.reduceAdd,Nat.reduceMul,Nat.reduceSub,Int.reduceLT,Int.reduceLE,Int.reduceToNat,Int.reduceAdd,Int.reduceSub,Int.reduceMul,ne_eq,decide_true,decide_false,tf41, h0, h5, h6, h7, v1]
      refine ⟨hB4, ?_⟩
      try simp -dsimp only [↓RE,↓c_seq,RU,RL,if_true,if_false,forall_const,implies_true,Nat.reduceLeDiff,Nat.reduceLT,pureOp,binPure,intBin,strBin,eqPure,isConstO,unPure,sliceLo,sliceHi,slicePure,lenPure,minPure,maxPure,buildP,resK,endV,yieldE,↓reduceIte,Nat.reduceEqDiff,reduceCtorEq,Nat.reduceAdd,Nat.reduceMul,Nat.reduceSub,Int.reduceLT,Int.reduceLE,Int.reduceToNat,Int.reduceAdd,Int.reduceSub,Int.reduceMul,ne_eq,decide_true,decide_false,tf41, h0, h5, h6, h7, v1]
      exact hfin
    · have hd2 : rDfrom (4 - 2) 2 (rBits 1 q).1 = rDelta s := by rw [← hd]; show _ = (if (rBits 1 q).2 = 0 then _ else rDfrom (2) 2 (rBits 1 q).1); rw [if_neg (by omega)]
      have okd := okq.bits 1
      try simp -dsimp only [↓RE,↓c_seq,RU,RL,if_true,if_false,forall_const,implies_true,Nat.reduceLeDiff,Nat.reduceLT,pureOp,binPure,intBin,strBin,eqPure,isConstO,unPure,sliceLo,sliceHi,slicePure,lenPure,minPure,maxPure,buildP,resK,endV,yieldE,↓reduceIte,Nat.reduceEqDiff,reduceCtorEq,Nat.reduceAdd,Nat.reduceMul,Nat.reduceSub,Int.reduceLT,Int.reduceLE,Int.reduceToNat,Int.reduceAdd,Int.reduceSub,Int.reduceMul,ne_eq,decide_true,decide_false,tf41, h0, h5, h6, h7, hb, Int.cast_ofNat_Int, Int.reduceEq]
      refine hold_intro ⟨⟨?_, ?_, ?_, 2, (rBits 1 q).1, by omega, ?_, hBc3, hR3, okd, hd2, g3⟩, ?_⟩
      · simp -dsimp only [↓RE,RU,RL,if_true,if_false,↓reduceIte,Nat.reduceEqDiff,reduceCtorEq,decide_true,decide_false, h0]
      · simp -dsimp only [↓RE,RU,RL,if_true,if_false,↓reduceIte,Nat.reduceEqDiff,reduceCtorEq,decide_true,decide_false, h5]
      · simp -dsimp only [↓RE,RU,RL,if_true,if_false,↓reduceIte,Nat.reduceEqDiff,reduceCtorEq,decide_true,decide_false, h6]
      · simp -dsimp only [↓RE,RU,RL,if_true,if_false,↓reduceIte,Nat.reduceEqDiff,reduceCtorEq,decide_true,decide_false, h7, Int.cast_ofNat_Int]
        rfl
      · simp -dsimp only [↓RE,RU,RL,if_true,if_false,↓reduceIte,Nat.reduceEqDiff,reduceCtorEq,decide_true,decide_false, h7, Int.cast_ofNat_Int]
        decide
  · try simp -dsimp only [↓RE,↓c_seq,RU,RL,if_true,if_false,forall_const,implies_true,Nat.reduceLeDiff,Nat.reduceLT,pureOp,binPure,intBin,strBin,eqPure,isConstO,unPure,sliceLo,sliceHi,slicePure,lenPure,minPure,maxPure,buildP,resK,endV,yieldE,↓reduceIte,Nat.reduceEqDiff,reduceCtorEq,Nat.reduceAdd,Nat.reduceMul,Nat.reduceSub,Int.reduceLT,Int.reduceLE,Int.reduceToNat,Int.reduceAdd,Int.reduceSub,Int.reduceMul,ne_eq,decide_true,decide_false,tf41, h0, h5, h6, h7, Int.cast_ofNat_Int]
    refine hB.aggK (o := 10) (by simp [clsCells]) ?_
    try simp -dsimp only [↓RE,↓c_seq,RU,RL,if_true,if_false,forall_const,implies_true,Nat.reduceLeDiff,Nat.reduceLT,pureOp,binPure,intBin,strBin,eqPure,isConstO,unPure,sliceLo,sliceHi,slicePure,lenPure,minPure,maxPure,buildP,resK,endV,yieldE,↓reduceIte,Nat.reduceEqDiff,reduceCtorEq,Nat.reduceAdd,Nat.reduceMul,Nat.reduceSub,Int.reduceLT,Int.reduceLE,Int.reduceToNat,Int.reduceAdd,Int.reduceSub,Int.reduceMul,ne_eq,decide_true,decide_false,tf41, h0, h5, h6, h7, clsCells, List.drop_zero, List.drop_succ_cons, List.take_succ_cons, List.take_zero]
    refine hz0.stAgg (by simp) (by simp [Value.oneCell']) (fun w2 hB2 hK2 => ?_)
    have hB2 : Blk w2 w'.heap.size 132 [.int .i64 6, .int .i64 3, .int .i64 (-255), .int .i64 256, .int .i64 9] := by simpa using hB2
    have g2 : Grow w' w2 := ga.above hK2 (fun i hi e => by omega)
    have hpw : p < w'.heap.size := by omega
    try simp -dsimp only [↓RE,↓c_seq,RU,RL,if_true,if_false,forall_const,implies_true,Nat.reduceLeDiff,Nat.reduceLT,pureOp,binPure,intBin,strBin,eqPure,isConstO,unPure,sliceLo,sliceHi,slicePure,lenPure,minPure,maxPure,buildP,resK,endV,yieldE,↓reduceIte,Nat.reduceEqDiff,reduceCtorEq,Nat.reduceAdd,Nat.reduceMul,Nat.reduceSub,Int.reduceLT,Int.reduceLE,Int.reduceToNat,Int.reduceAdd,Int.reduceSub,Int.reduceMul,ne_eq,decide_true,decide_false,tf41, h0, h5, h6, h7, hB2.cell]
    refine bitsR_ok (hRq.grow g2) okq (by omega) (by omega) (fun w3 hR3 hK3 => ?_)
    have g3 : Keep (fun k => k = p) w w3 := (hgr.then_grow g2).trans hK3 (fun _ _ e => e) (fun _ _ e => e)
    have hB3 := hB2.keep hK3 (by omega)
    have hBc3 := (hB.grow g2).keep hK3 hgp
    rcases b01 with hb | hb
    · have hde : rDelta s = dTail 2 (rBits 1 q).1 := by rw [← hd]; show (if (rBits 1 q).2 = 0 then dTail 2 (rBits 1 q).1 else _) = _; rw [if_pos hb]
      have okd := okq.bits 1
      generalize (rBits 1 q).1 = q2 at hR3 hde okd
      have hrg := rBits_range 9 q2
      try simp -dsimp only [↓RE,↓c_seq,RU,RL,if_true,if_false,forall_const,implies_true,Nat.reduceLeDiff,Nat.reduceLT,pureOp,binPure,intBin,strBin,eqPure,isConstO,unPure,sliceLo,sliceHi,slicePure,lenPure,minPure,maxPure,buildP,resK,endV,yieldE,↓reduceIte,Nat.reduceEqDiff,reduceCtorEq,Nat.reduceAdd,Nat.reduceMul,Nat.reduceSub,Int.reduceLT,Int.reduceLE,Int.reduceToNat,Int.reduceAdd,Int.reduceSub,Int.reduceMul,ne_eq,decide_true,decide_false,tf41, h0, h5, h6, h7, hb, eq_self, hB3.cell]
      refine wpDraw_by (fun w0 => Blk w0 w'.heap.size 132 [.int .i64 6, .int .i64 3, .int .i64 (-255), .int .i64 256, .int .i64 9]) [(0, true), (1, true), (2, true), (5, true), (6, true), (3, false), (4, true), (7, true), (8, true)] (by kernel_rfl) hB3.drew ?_
      simp only [planL, List.getElem?_toArray, List.getElem?_cons_zero, List.getElem?_cons_succ, Option.toList_some, List.map_cons, List.map_nil, List.cons_append, List.nil_append]
      try simp -dsimp only [↓RE,↓c_seq,RU,RL,if_true,if_false,forall_const,implies_true,Nat.reduceLeDiff,Nat.reduceLT,pureOp,binPure,intBin,strBin,eqPure,isConstO,unPure,sliceLo,sliceHi,slicePure,lenPure,minPure,maxPure,buildP,resK,endV,yieldE,↓reduceIte,Nat.reduceEqDiff,reduceCtorEq,Nat.reduceAdd,Nat.reduceMul,Nat.reduceSub,Int.reduceLT,Int.reduceLE,Int.reduceToNat,Int.reduceAdd,Int.reduceSub,Int.reduceMul,ne_eq,decide_true,decide_false,tf41, h0, h5, h6, h7]
      refine ⟨_, fun w9 hS => Blk.cell hS 4, ?_⟩
      try simp -dsimp only [↓RE,↓c_seq,RU,RL,if_true,if_false,forall_const,implies_true,Nat.reduceLeDiff,Nat.reduceLT,pureOp,binPure,intBin,strBin,eqPure,isConstO,unPure,sliceLo,sliceHi,slicePure,lenPure,minPure,maxPure,buildP,resK,endV,yieldE,↓reduceIte,Nat.reduceEqDiff,reduceCtorEq,Nat.reduceAdd,Nat.reduceMul,Nat.reduceSub,Int.reduceLT,Int.reduceLE,Int.reduceToNat,Int.reduceAdd,Int.reduceSub,Int.reduceMul,ne_eq,decide_true,decide_false,tf41, h0, h5, h6, h7]
      refine ⟨_, fun w9 hS => Blk.cell hS 2, ?_⟩
      try simp -dsimp only [↓RE,↓c_seq,RU,RL,if_true,if_false,forall_const,implies_true,Nat.reduceLeDiff,Nat.reduceLT,pureOp,binPure,intBin,strBin,eqPure,isConstO,unPure,sliceLo,sliceHi,slicePure,lenPure,minPure,maxPure,buildP,resK,endV,yieldE,↓reduceIte,Nat.reduceEqDiff,reduceCtorEq,Nat.reduceAdd,Nat.reduceMul,Nat.reduceSub,Int.reduceLT,Int.reduceLE,Int.reduceToNat,Int.reduceAdd,Int.reduceSub,Int.reduceMul,ne_eq,decide_true,decide_false,tf41, h0, h5, h6, h7]
      refine bitsR_ok (hR3.grow (Grow.drew _)) okd (by omega) (by omega) (fun w4 hR4 hK4 => ?_)
      have g4 : Keep (fun k => k = p) w w4 := (g3.then_grow (Grow.drew _)).trans hK4 (fun _ _ e => e) (fun _ _ e => e)
      have hB4 := hB3.drew.keep hK4 (by omega)
      have hfin := h w4 (by rw [hde]; exact hR4) g4
      rw [hde] at hfin
      rw [show brought 9 = 9 by decide, show (2 : Int) ^ 9 = 512 by decide] at hrg
      have v1 : IntKind.i64.wrap (IntKind.i64.wrap (rBits 9 q2).2 + (-255)) = (rBits 9 q2).2 - 255 := by rw [wrap_i64_in (n := (rBits 9 q2).2) (by omega) (by omega), wrap_i64_in (by omega) (by omega)]; omega
      try simp -dsimp only [↓RE,↓c_seq,RU,RL,if_true,if_false,forall_const,implies_true,Nat.reduceLeDiff,Nat.reduceLT,pureOp,binPure,intBin,strBin,eqPure,isConstO,unPure,sliceLo,sliceHi,slicePure,lenPure,minPure,maxPure,buildP,resK,endV,yieldE,↓reduceIte,Nat.reduceEqDiff,reduceCtorEq,Nat.reduceAdd,Nat.reduceMul,Nat.reduceSub,Int.reduceLT,Int.reduceLE,Int.reduceToNat,Int.reduceAdd,Int.reduceSub,Int.reduceMul,ne_eq,decide_true,decide_false,tf41, h0, h5, h6, h7, v1]
      refine ⟨hB4, ?_⟩
      try simp -dsimp only [↓RE,↓c_seq,RU,RL,if_true,if_false,forall_const,implies_true,Nat.reduceLeDiff,Nat.reduceLT,pureOp,binPure,intBin,strBin,eqPure,isConstO,unPure,sliceLo,sliceHi,slicePure,lenPure,minPure,maxPure,buildP,resK,endV,yieldE,↓reduceIte,Nat.reduceEqDiff,reduceCtorEq,Nat.reduceAdd,Nat.reduceMul,Nat.reduceSub,Int.reduceLT,Int.reduceLE,Int.reduceToNat,Int.reduceAdd,Int.reduceSub,Int.reduceMul,ne_eq,decide_true,decide_false,tf41, h0, h5, h6, h7, v1]
      exact hfin
    · have hd2 : rDfrom (4 - 3) 3 (rBits 1 q).1 = rDelta s := by rw [← hd]; show _ = (if (rBits 1 q).2 = 0 then _ else rDfrom (1) 3 (rBits 1 q).1); rw [if_neg (by omega)]
      have okd := okq.bits 1
      try simp -dsimp only [↓RE,↓c_seq,RU,RL,if_true,if_false,forall_const,implies_true,Nat.reduceLeDiff,Nat.reduceLT,pureOp,binPure,intBin,strBin,eqPure,isConstO,unPure,sliceLo,sliceHi,slicePure,lenPure,minPure,maxPure,buildP,resK,endV,yieldE,↓reduceIte,Nat.reduceEqDiff,reduceCtorEq,Nat.reduceAdd,Nat.reduceMul,Nat.reduceSub,Int.reduceLT,Int.reduceLE,Int.reduceToNat,Int.reduceAdd,Int.reduceSub,Int.reduceMul,ne_eq,decide_true,decide_false,tf41, h0, h5, h6, h7, hb, Int.cast_ofNat_Int, Int.reduceEq]
      refine hold_intro ⟨⟨?_, ?_, ?_, 3, (rBits 1 q).1, by omega, ?_, hBc3, hR3, okd, hd2, g3⟩, ?_⟩
      · simp -dsimp only [↓RE,RU,RL,if_true,if_false,↓reduceIte,Nat.reduceEqDiff,reduceCtorEq,decide_true,decide_false, h0]
      · simp -dsimp only [↓RE,RU,RL,if_true,if_false,↓reduceIte,Nat.reduceEqDiff,reduceCtorEq,decide_true,decide_false, h5]
      · simp -dsimp only [↓RE,RU,RL,if_true,if_false,↓reduceIte,Nat.reduceEqDiff,reduceCtorEq,decide_true,decide_false, h6]
      · simp -dsimp only [↓RE,RU,RL,if_true,if_false,↓reduceIte,Nat.reduceEqDiff,reduceCtorEq,decide_true,decide_false, h7, Int.cast_ofNat_Int]
        rfl
      · simp -dsimp only [↓RE,RU,RL,if_true,if_false,↓reduceIte,Nat.reduceEqDiff,reduceCtorEq,decide_true,decide_false, h7, Int.cast_ofNat_Int]
        decide
  · try simp -dsimp only [↓RE,↓c_seq,RU,RL,if_true,if_false,forall_const,implies_true,Nat.reduceLeDiff,Nat.reduceLT,pureOp,binPure,intBin,strBin,eqPure,isConstO,unPure,sliceLo,sliceHi,slicePure,lenPure,minPure,maxPure,buildP,resK,endV,yieldE,↓reduceIte,Nat.reduceEqDiff,reduceCtorEq,Nat.reduceAdd,Nat.reduceMul,Nat.reduceSub,Int.reduceLT,Int.reduceLE,Int.reduceToNat,Int.reduceAdd,Int.reduceSub,Int.reduceMul,ne_eq,decide_true,decide_false,tf41, h0, h5, h6, h7, Int.cast_ofNat_Int]
    refine hB.aggK (o := 15) (by simp [clsCells]) ?_
    try simp -dsimp only [↓RE,↓c_seq,RU,RL,if_true,if_false,forall_const,implies_true,Nat.reduceLeDiff,Nat.reduceLT,pureOp,binPure,intBin,strBin,eqPure,isConstO,unPure,sliceLo,sliceHi,slicePure,lenPure,minPure,maxPure,buildP,resK,endV,yieldE,↓reduceIte,Nat.reduceEqDiff,reduceCtorEq,Nat.reduceAdd,Nat.reduceMul,Nat.reduceSub,Int.reduceLT,Int.reduceLE,Int.reduceToNat,Int.reduceAdd,Int.reduceSub,Int.reduceMul,ne_eq,decide_true,decide_false,tf41, h0, h5, h6, h7, clsCells, List.drop_zero, List.drop_succ_cons, List.take_succ_cons, List.take_zero]
    refine hz0.stAgg (by simp) (by simp [Value.oneCell']) (fun w2 hB2 hK2 => ?_)
    have hB2 : Blk w2 w'.heap.size 132 [.int .i64 14, .int .i64 4, .int .i64 (-2047), .int .i64 2048, .int .i64 12] := by simpa using hB2
    have g2 : Grow w' w2 := ga.above hK2 (fun i hi e => by omega)
    have hpw : p < w'.heap.size := by omega
    try simp -dsimp only [↓RE,↓c_seq,RU,RL,if_true,if_false,forall_const,implies_true,Nat.reduceLeDiff,Nat.reduceLT,pureOp,binPure,intBin,strBin,eqPure,isConstO,unPure,sliceLo,sliceHi,slicePure,lenPure,minPure,maxPure,buildP,resK,endV,yieldE,↓reduceIte,Nat.reduceEqDiff,reduceCtorEq,Nat.reduceAdd,Nat.reduceMul,Nat.reduceSub,Int.reduceLT,Int.reduceLE,Int.reduceToNat,Int.reduceAdd,Int.reduceSub,Int.reduceMul,ne_eq,decide_true,decide_false,tf41, h0, h5, h6, h7, hB2.cell]
    refine bitsR_ok (hRq.grow g2) okq (by omega) (by omega) (fun w3 hR3 hK3 => ?_)
    have g3 : Keep (fun k => k = p) w w3 := (hgr.then_grow g2).trans hK3 (fun _ _ e => e) (fun _ _ e => e)
    have hB3 := hB2.keep hK3 (by omega)
    have hBc3 := (hB.grow g2).keep hK3 hgp
    rcases b01 with hb | hb
    · have hde : rDelta s = dTail 3 (rBits 1 q).1 := by rw [← hd]; show (if (rBits 1 q).2 = 0 then dTail 3 (rBits 1 q).1 else _) = _; rw [if_pos hb]
      have okd := okq.bits 1
      generalize (rBits 1 q).1 = q2 at hR3 hde okd
      have hrg := rBits_range 12 q2
      try simp -dsimp only [↓RE,↓c_seq,RU,RL,if_true,if_false,forall_const,implies_true,Nat.reduceLeDiff,Nat.reduceLT,pureOp,binPure,intBin,strBin,eqPure,isConstO,unPure,sliceLo,sliceHi,slicePure,lenPure,minPure,maxPure,buildP,resK,endV,yieldE,↓reduceIte,Nat.reduceEqDiff,reduceCtorEq,Nat.reduceAdd,Nat.reduceMul,Nat.reduceSub,Int.reduceLT,Int.reduceLE,Int.reduceToNat,Int.reduceAdd,Int.reduceSub,Int.reduceMul,ne_eq,decide_true,decide_false,tf41, h0, h5, h6, h7, hb, eq_self, hB3.cell]
      refine wpDraw_by (fun w0 => Blk w0 w'.heap.size 132 [.int .i64 14, .int .i64 4, .int .i64 (-2047), .int .i64 2048, .int .i64 12]) [(0, true), (1, true), (2, true), (5, true), (6, true), (3, false), (4, true), (7, true), (8, true)] (by kernel_rfl) hB3.drew ?_
      simp only [planL, List.getElem?_toArray, List.getElem?_cons_zero, List.getElem?_cons_succ, Option.toList_some, List.map_cons, List.map_nil, List.cons_append, List.nil_append]
      try simp -dsimp only [↓RE,↓c_seq,RU,RL,if_true,if_false,forall_const,implies_true,Nat.reduceLeDiff,Nat.reduceLT,pureOp,binPure,intBin,strBin,eqPure,isConstO,unPure,sliceLo,sliceHi,slicePure,lenPure,minPure,maxPure,buildP,resK,endV,yieldE,↓reduceIte,Nat.reduceEqDiff,reduceCtorEq,Nat.reduceAdd,Nat.reduceMul,Nat.reduceSub,Int.reduceLT,Int.reduceLE,Int.reduceToNat,Int.reduceAdd,Int.reduceSub,Int.reduceMul,ne_eq,decide_true,decide_false,tf41, h0, h5, h6, h7]
      refine ⟨_, fun w9 hS => Blk.cell hS 4, ?_⟩
      try simp -dsimp only [↓RE,↓c_seq,RU,RL,if_true,if_false,forall_const,implies_true,Nat.reduceLeDiff,Nat.reduceLT,pureOp,binPure,intBin,strBin,eqPure,isConstO,unPure,sliceLo,sliceHi,slicePure,lenPure,minPure,maxPure,buildP,resK,endV,yieldE,↓reduceIte,Nat.reduceEqDiff,reduceCtorEq,Nat.reduceAdd,Nat.reduceMul,Nat.reduceSub,Int.reduceLT,Int.reduceLE,Int.reduceToNat,Int.reduceAdd,Int.reduceSub,Int.reduceMul,ne_eq,decide_true,decide_false,tf41, h0, h5, h6, h7]
      refine ⟨_, fun w9 hS => Blk.cell hS 2, ?_⟩
      try simp -dsimp only [↓RE,↓c_seq,RU,RL,if_true,if_false,forall_const,implies_true,Nat.reduceLeDiff,Nat.reduceLT,pureOp,binPure,intBin,strBin,eqPure,isConstO,unPure,sliceLo,sliceHi,slicePure,lenPure,minPure,maxPure,buildP,resK,endV,yieldE,↓reduceIte,Nat.reduceEqDiff,reduceCtorEq,Nat.reduceAdd,Nat.reduceMul,Nat.reduceSub,Int.reduceLT,Int.reduceLE,Int.reduceToNat,Int.reduceAdd,Int.reduceSub,Int.reduceMul,ne_eq,decide_true,decide_false,tf41, h0, h5, h6, h7]
      refine bitsR_ok (hR3.grow (Grow.drew _)) okd (by omega) (by omega) (fun w4 hR4 hK4 => ?_)
      have g4 : Keep (fun k => k = p) w w4 := (g3.then_grow (Grow.drew _)).trans hK4 (fun _ _ e => e) (fun _ _ e => e)
      have hB4 := hB3.drew.keep hK4 (by omega)
      have hfin := h w4 (by rw [hde]; exact hR4) g4
      rw [hde] at hfin
      rw [show brought 12 = 12 by decide, show (2 : Int) ^ 12 = 4096 by decide] at hrg
      have v1 : IntKind.i64.wrap (IntKind.i64.wrap (rBits 12 q2).2 + (-2047)) = (rBits 12 q2).2 - 2047 := by rw [wrap_i64_in (n := (rBits 12 q2).2) (by omega) (by omega), wrap_i64_in (by omega) (by omega)]; omega
      try simp -dsimp only [↓RE,↓c_seq,RU,RL,if_true,if_false,forall_const,implies_true,Nat.reduceLeDiff,Nat.reduceLT,pureOp,binPure,intBin,strBin,eqPure,isConstO,unPure,sliceLo,sliceHi,slicePure,lenPure,minPure,maxPure,buildP,resK,endV,yieldE,↓reduceIte,Nat.reduceEqDiff,reduceCtorEq,Nat.reduceAdd,Nat.reduceMul,Nat.reduceSub,Int.reduceLT,Int.reduceLE,Int.reduceToNat,Int.reduceAdd,Int.reduceSub,Int.reduceMul,ne_eq,decide_true,decide_false,tf41, h0, h5, h6, h7, v1]
      refine ⟨hB4, ?_⟩
      try simp -dsimp only [↓RE,↓c_seq,RU,RL,if_true,if_false,forall_const,implies_true,Nat.reduceLeDiff,Nat.reduceLT,pureOp,binPure,intBin,strBin,eqPure,isConstO,unPure,sliceLo,sliceHi,slicePure,lenPure,minPure,maxPure,buildP,resK,endV,yieldE,↓reduceIte,Nat.reduceEqDiff,reduceCtorEq,Nat.reduceAdd,Nat.reduceMul,Nat.reduceSub,Int.reduceLT,Int.reduceLE,Int.reduceToNat,Int.reduceAdd,Int.reduceSub,Int.reduceMul,ne_eq,decide_true,decide_false,tf41, h0, h5, h6, h7, v1]
      exact hfin
    · have hd2 : rDfrom (4 - 4) 4 (rBits 1 q).1 = rDelta s := by rw [← hd]; show _ = (if (rBits 1 q).2 = 0 then _ else rDfrom (0) 4 (rBits 1 q).1); rw [if_neg (by omega)]
      have okd := okq.bits 1
      try simp -dsimp only [↓RE,↓c_seq,RU,RL,if_true,if_false,forall_const,implies_true,Nat.reduceLeDiff,Nat.reduceLT,pureOp,binPure,intBin,strBin,eqPure,isConstO,unPure,sliceLo,sliceHi,slicePure,lenPure,minPure,maxPure,buildP,resK,endV,yieldE,↓reduceIte,Nat.reduceEqDiff,reduceCtorEq,Nat.reduceAdd,Nat.reduceMul,Nat.reduceSub,Int.reduceLT,Int.reduceLE,Int.reduceToNat,Int.reduceAdd,Int.reduceSub,Int.reduceMul,ne_eq,decide_true,decide_false,tf41, h0, h5, h6, h7, hb, Int.cast_ofNat_Int, Int.reduceEq]
      refine hold_intro ⟨⟨?_, ?_, ?_, 4, (rBits 1 q).1, by omega, ?_, hBc3, hR3, okd, hd2, g3⟩, ?_⟩
      · simp -dsimp only [↓RE,RU,RL,if_true,if_false,↓reduceIte,Nat.reduceEqDiff,reduceCtorEq,decide_true,decide_false, h0]
      · simp -dsimp only [↓RE,RU,RL,if_true,if_false,↓reduceIte,Nat.reduceEqDiff,reduceCtorEq,decide_true,decide_false, h5]
      · simp -dsimp only [↓RE,RU,RL,if_true,if_false,↓reduceIte,Nat.reduceEqDiff,reduceCtorEq,decide_true,decide_false, h6]
      · simp -dsimp only [↓RE,RU,RL,if_true,if_false,↓reduceIte,Nat.reduceEqDiff,reduceCtorEq,decide_true,decide_false, h7, Int.cast_ofNat_Int]
        rfl
      · simp -dsimp only [↓RE,RU,RL,if_true,if_false,↓reduceIte,Nat.reduceEqDiff,reduceCtorEq,decide_true,decide_false, h7, Int.cast_ofNat_Int]
        decide
  · have hde : rDelta s = ((rBits 64 q).1, IntKind.i64.wrap (rBits 64 q).2) := hd.symm
    try simp -dsimp only [↓RE,↓c_seq,RU,RL,if_true,if_false,forall_const,implies_true,Nat.reduceLeDiff,Nat.reduceLT,pureOp,binPure,intBin,strBin,eqPure,isConstO,unPure,sliceLo,sliceHi,slicePure,lenPure,minPure,maxPure,buildP,resK,endV,yieldE,↓reduceIte,Nat.reduceEqDiff,reduceCtorEq,Nat.reduceAdd,Nat.reduceMul,Nat.reduceSub,Int.reduceLT,Int.reduceLE,Int.reduceToNat,Int.reduceAdd,Int.reduceSub,Int.reduceMul,ne_eq,decide_true,decide_false,tf41, h0, h5, h6, h7, Int.cast_ofNat_Int]
    refine bitsR_ok hRq okq (by omega) (by omega) (fun w3 hR3 hK3 => ?_)
    rw [hde] at h
    try simp -dsimp only [↓RE,↓c_seq,RU,RL,if_true,if_false,forall_const,implies_true,Nat.reduceLeDiff,Nat.reduceLT,pureOp,binPure,intBin,strBin,eqPure,isConstO,unPure,sliceLo,sliceHi,slicePure,lenPure,minPure,maxPure,buildP,resK,endV,yieldE,↓reduceIte,Nat.reduceEqDiff,reduceCtorEq,Nat.reduceAdd,Nat.reduceMul,Nat.reduceSub,Int.reduceLT,Int.reduceLE,Int.reduceToNat,Int.reduceAdd,Int.reduceSub,Int.reduceMul,ne_eq,decide_true,decide_false,tf41, h0]
    exact h w3 hR3 (hgr.trans hK3 (fun _ _ e => e) (fun _ _ e => e))

end Go.Proofs.Ytmgiichlccdcfaa
