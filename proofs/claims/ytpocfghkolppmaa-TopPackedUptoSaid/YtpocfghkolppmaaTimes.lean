/- block.Times: what it writes, or what is wrong. -/
import Derived.Test.YtpocfghkolppmaaPureA
import Derived.Test.YtpocfghkolppmaaBits
import Derived.Test.YtpocfghkolppmaaSame
import Derived.Test.YtpocfghkolppmaaReader
set_option linter.unusedVariables false
set_option linter.unusedSimpArgs false
set_option maxRecDepth 100000
namespace Go.Proofs.Ytpocfghkolppmaa
open Go

def clsCells : List Value := [.int .i64 0, .int .i64 1, .int .i64 0, .int .i64 0, .int .i64 0, .int .i64 2, .int .i64 2, .int .i64 (-63), .int .i64 64, .int .i64 7, .int .i64 6, .int .i64 3, .int .i64 (-255), .int .i64 256, .int .i64 9,
  .int .i64 14, .int .i64 4, .int .i64 (-2047), .int .i64 2048, .int .i64 12]
theorem classes_ok {w : World} {R : VWK} (h : ∀ w' g, Blk w' g 126 clsCells → Grow w w' → w.heap.size ≤ g → R (.slice (some ⟨g, 0, none⟩) 4 4) w') : CallsV Try.prog 65 [] w R := by
  refine calls_of_wpC mixed Try.func65 rfl (by kernel_rfl) ?_
  intro e he
  clear he
  try simp -dsimp only [↓RE,↓c_seq,RU,RL,if_true,if_false,forall_const,implies_true,Nat.reduceLeDiff,Nat.reduceLT,pureOp,binPure,intBin,strBin,eqPure,isConstO,unPure,sliceLo,sliceHi,slicePure,slice3Pure,lenPure,capPure,minPure,maxPure,buildP,resK,endV,yieldE,↓reduceIte,Nat.reduceEqDiff,reduceCtorEq,Nat.reduceAdd,Nat.reduceMul,Nat.reduceSub,Int.reduceLT,Int.reduceLE,Int.reduceToNat,Int.reduceAdd,Int.reduceSub,Int.reduceMul,ne_eq,decide_true,decide_false,tf65]
  exact h _ _ (by have := Blk.new w 126 clsCells; exact this) (Grow.alloc _ _) (Nat.le_refl _)

theorem difference_ok {w : World} {F : Nat → Prop} {p : Nat} {zs : List Int} {b : Nat} (hW : WAt 65 w F p zs b) (hok : WOk zs b) {d : Int} (d0 : -9223372036854775808 ≤ d) (d1 : d < 9223372036854775808)
    (hb : zs.length + 200 ≤ 140737488355328) {R : VWK} (h : ∀ w' F', WAt 65 w' F' p (dput d (zs, b)).1 (dput d (zs, b)).2 → Step F F' w w' → R (.tuple #[]) w') :
    CallsV Try.prog 33 [.pointer (some ⟨p, 0, none⟩), .int .i64 d] w R := by
  have hlt := hW.lt
  refine calls_of_wpC mixed Try.func33 rfl (by kernel_rfl) ?_
  intro e he
  have he0 := he 0
  have he1 := he 1
  simp only [List.getD_cons_zero, List.getD_cons_succ] at he0 he1
  clear he
  try simp -dsimp only [↓RE,↓c_seq,RU,RL,if_true,if_false,forall_const,implies_true,Nat.reduceLeDiff,Nat.reduceLT,pureOp,binPure,intBin,strBin,eqPure,isConstO,unPure,sliceLo,sliceHi,slicePure,slice3Pure,lenPure,capPure,minPure,maxPure,buildP,resK,endV,yieldE,↓reduceIte,Nat.reduceEqDiff,reduceCtorEq,Nat.reduceAdd,Nat.reduceMul,Nat.reduceSub,Int.reduceLT,Int.reduceLE,Int.reduceToNat,Int.reduceAdd,Int.reduceSub,Int.reduceMul,ne_eq,decide_true,decide_false,tf33, he0, he1]
  refine classes_ok (fun w1 g hB1 g1 hg => ?_)
  try simp -dsimp only [↓RE,↓c_seq,RU,RL,if_true,if_false,forall_const,implies_true,Nat.reduceLeDiff,Nat.reduceLT,pureOp,binPure,intBin,strBin,eqPure,isConstO,unPure,sliceLo,sliceHi,slicePure,slice3Pure,lenPure,capPure,minPure,maxPure,buildP,resK,endV,yieldE,↓reduceIte,Nat.reduceEqDiff,reduceCtorEq,Nat.reduceAdd,Nat.reduceMul,Nat.reduceSub,Int.reduceLT,Int.reduceLE,Int.reduceToNat,Int.reduceAdd,Int.reduceSub,Int.reduceMul,ne_eq,decide_true,decide_false,tf33, he0, he1]
  refine wpLoop_intro (fun e' w' => e' 0 = .pointer (some ⟨p, 0, none⟩) ∧ e' 1 = .int .i64 d ∧ e' 6 = .slice (some ⟨g, 0, none⟩) 4 4 ∧ e' 7 = .int .i64 (4 : Nat) ∧ ∃ k : Nat, k ≤ 4 ∧ e' 8 = .int .i64 k ∧ Blk w' g 126 clsCells ∧ Grow w w' ∧
      (0 < k → d ≠ 0) ∧ (1 < k → ¬ (-63 ≤ d ∧ d ≤ 64)) ∧ (2 < k → ¬ (-255 ≤ d ∧ d ≤ 256)) ∧ (3 < k → ¬ (-2047 ≤ d ∧ d ≤ 2048)))
    (fun e' _ => 4 - (envInt (e' 8)).toNat) ⟨?_, ?_, ?_, ?_, 0, by omega, ?_, hB1, g1, by omega, by omega, by omega, by omega⟩ ?_
  · simp -dsimp only [↓RE,RU,RL,if_true,if_false,↓reduceIte,Nat.reduceEqDiff,reduceCtorEq,decide_true,decide_false, he0]
  · simp -dsimp only [↓RE,RU,RL,if_true,if_false,↓reduceIte,Nat.reduceEqDiff,reduceCtorEq,decide_true,decide_false, he1]
  · simp -dsimp only [↓RE,RU,RL,if_true,if_false,↓reduceIte,Nat.reduceEqDiff,reduceCtorEq,decide_true,decide_false, he0]
  · simp -dsimp only [↓RE,RU,RL,if_true,if_false,↓reduceIte,Nat.reduceEqDiff,reduceCtorEq,decide_true,decide_false, he0]
  · simp -dsimp only [↓RE,RU,RL,if_true,if_false,↓reduceIte,Nat.reduceEqDiff,reduceCtorEq,decide_true,decide_false, he0, Int.cast_ofNat_Int]
  rintro e' w' ⟨h0, h1, h6, h7, k, hk, h8, hB, hgr, c0, c1, c2, c3⟩
  have hz0 := Blk.new' w' 126 #[.int .i64 0, .int .i64 0, .int .i64 0, .int .i64 0, .int .i64 0]
  have ga := Grow.alloc w' (.cells #[.int .i64 0, .int .i64 0, .int .i64 0, .int .i64 0, .int .i64 0] 126)
  have hk5 : k = 0 ∨ k = 1 ∨ k = 2 ∨ k = 3 ∨ k = 4 := by omega
  have hWr := hW.grow hgr
  have hge : ∀ {w2 : World}, Grow w' w2 → Grow w w2 := fun g => hgr.trans g
  rcases hk5 with rfl | rfl | rfl | rfl | rfl
  · try simp -dsimp only [↓RE,↓c_seq,RU,RL,if_true,if_false,forall_const,implies_true,Nat.reduceLeDiff,Nat.reduceLT,pureOp,binPure,intBin,strBin,eqPure,isConstO,unPure,sliceLo,sliceHi,slicePure,slice3Pure,lenPure,capPure,minPure,maxPure,buildP,resK,endV,yieldE,↓reduceIte,Nat.reduceEqDiff,reduceCtorEq,Nat.reduceAdd,Nat.reduceMul,Nat.reduceSub,Int.reduceLT,Int.reduceLE,Int.reduceToNat,Int.reduceAdd,Int.reduceSub,Int.reduceMul,ne_eq,decide_true,decide_false,tf33, h0, h1, h6, h7, h8, Int.cast_ofNat_Int]
    refine hB.aggK (o := 0) (by simp [clsCells]) ?_
    try simp -dsimp only [↓RE,↓c_seq,RU,RL,if_true,if_false,forall_const,implies_true,Nat.reduceLeDiff,Nat.reduceLT,pureOp,binPure,intBin,strBin,eqPure,isConstO,unPure,sliceLo,sliceHi,slicePure,slice3Pure,lenPure,capPure,minPure,maxPure,buildP,resK,endV,yieldE,↓reduceIte,Nat.reduceEqDiff,reduceCtorEq,Nat.reduceAdd,Nat.reduceMul,Nat.reduceSub,Int.reduceLT,Int.reduceLE,Int.reduceToNat,Int.reduceAdd,Int.reduceSub,Int.reduceMul,ne_eq,decide_true,decide_false,tf33, h0, h1, h6, h7, h8, clsCells, List.drop_zero, List.drop_succ_cons, List.take_succ_cons, List.take_zero]
    refine hz0.stAgg (by simp) (by simp [Value.oneCell']) (fun w2 hB2 hK2 => ?_)
    have hB2 : Blk w2 w'.heap.size 126 [.int .i64 0, .int .i64 1, .int .i64 0, .int .i64 0, .int .i64 0] := by simpa using hB2
    have g2 : Grow w' w2 := ga.above hK2 (fun i hi e => by omega)
    by_cases hc : 0 ≤ d ∧ d ≤ 0
    · have q1 : decide (0 ≤ d) = true := decide_eq_true hc.1
      have q2 : decide (d ≤ 0) = true := decide_eq_true hc.2
      have q3 : IntKind.u64.wrap 0 = 0 := by decide
      have q4 : IntKind.u64.wrap (IntKind.i64.wrap (d - 0)) = d - 0 := by rw [wrap_i64_in (by omega) (by omega), wrap_u64]; omega
      have q5 : brought 1 = 1 := by decide
      have q6 : brought 0 = 0 := by decide
      try simp -dsimp only [↓RE,↓c_seq,RU,RL,if_true,if_false,forall_const,implies_true,Nat.reduceLeDiff,Nat.reduceLT,pureOp,binPure,intBin,strBin,eqPure,isConstO,unPure,sliceLo,sliceHi,slicePure,slice3Pure,lenPure,capPure,minPure,maxPure,buildP,resK,endV,yieldE,↓reduceIte,Nat.reduceEqDiff,reduceCtorEq,Nat.reduceAdd,Nat.reduceMul,Nat.reduceSub,Int.reduceLT,Int.reduceLE,Int.reduceToNat,Int.reduceAdd,Int.reduceSub,Int.reduceMul,ne_eq,decide_true,decide_false,tf33, h0, h1, h6, h7, h8, hB2.cell, q1, q2, q3]
      refine bits_ok (hWr.grow g2) hok (by omega) (by omega) (by omega) (by omega) (by omega) (fun w3 F3 hW3 hS3 => ?_)
      rw [q5] at hW3
      have hok3 := pushBits_ok 0 1 (zs, b) hok
      have hl3 := pushBits_len 0 1 (zs, b)
      have hB3 := hB2.keep hS3.keep (fun hf => absurd (hlt _ hf) (by have := hgr.size; omega))
      have hpp : pushBits (d - 0) 0 (pushBits 0 1 (zs, b)) = dput d (zs, b) := by
        unfold dput
        rw [if_pos (by omega)]; rfl
      generalize pushBits 0 1 (zs, b) = s3 at hW3 hok3 hl3 hpp
      try simp -dsimp only [↓RE,↓c_seq,RU,RL,if_true,if_false,forall_const,implies_true,Nat.reduceLeDiff,Nat.reduceLT,pureOp,binPure,intBin,strBin,eqPure,isConstO,unPure,sliceLo,sliceHi,slicePure,slice3Pure,lenPure,capPure,minPure,maxPure,buildP,resK,endV,yieldE,↓reduceIte,Nat.reduceEqDiff,reduceCtorEq,Nat.reduceAdd,Nat.reduceMul,Nat.reduceSub,Int.reduceLT,Int.reduceLE,Int.reduceToNat,Int.reduceAdd,Int.reduceSub,Int.reduceMul,ne_eq,decide_true,decide_false,tf33, h0, h1, h6, h7, h8, hB3.cell, q4]
      refine bits_ok (b := s3.2) hW3 hok3 (by omega) (by omega) (by omega) (by omega) (by simp only at hl3; omega) (fun w4 F4 hW4 hS4 => ?_)
      rw [q6, hpp] at hW4
      try simp -dsimp only [↓RE,↓c_seq,RU,RL,if_true,if_false,forall_const,implies_true,Nat.reduceLeDiff,Nat.reduceLT,pureOp,binPure,intBin,strBin,eqPure,isConstO,unPure,sliceLo,sliceHi,slicePure,slice3Pure,lenPure,capPure,minPure,maxPure,buildP,resK,endV,yieldE,↓reduceIte,Nat.reduceEqDiff,reduceCtorEq,Nat.reduceAdd,Nat.reduceMul,Nat.reduceSub,Int.reduceLT,Int.reduceLE,Int.reduceToNat,Int.reduceAdd,Int.reduceSub,Int.reduceMul,ne_eq,decide_true,decide_false,tf33, h0]
      exact h w4 F4 hW4 ((hge g2).step (hS3.trans hS4))
    · have q1 : (decide (0 ≤ d) = false) ∨ (decide (0 ≤ d) = true ∧ decide (d ≤ 0) = false) := by
        by_cases a : 0 ≤ d
        · exact .inr ⟨decide_eq_true a, decide_eq_false (fun b => hc ⟨a, b⟩)⟩
        · exact .inl (decide_eq_false a)
      rcases q1 with q1 | ⟨q1, q2⟩
      · try simp -dsimp only [↓RE,↓c_seq,RU,RL,if_true,if_false,forall_const,implies_true,Nat.reduceLeDiff,Nat.reduceLT,pureOp,binPure,intBin,strBin,eqPure,isConstO,unPure,sliceLo,sliceHi,slicePure,slice3Pure,lenPure,capPure,minPure,maxPure,buildP,resK,endV,yieldE,↓reduceIte,Nat.reduceEqDiff,reduceCtorEq,Nat.reduceAdd,Nat.reduceMul,Nat.reduceSub,Int.reduceLT,Int.reduceLE,Int.reduceToNat,Int.reduceAdd,Int.reduceSub,Int.reduceMul,ne_eq,decide_true,decide_false,tf33, h0, h1, h6, h7, h8, hB2.cell, q1, undef, Int.cast_ofNat_Int]
        refine hold_intro ⟨⟨?_, ?_, ?_, ?_, 1, by omega, ?_, hB.grow g2, hgr.trans g2, fun _ e => hc (by omega), by omega, by omega, by omega⟩, ?_⟩
        · simp -dsimp only [↓RE,RU,RL,if_true,if_false,↓reduceIte,Nat.reduceEqDiff,reduceCtorEq,decide_true,decide_false, h0]
        · simp -dsimp only [↓RE,RU,RL,if_true,if_false,↓reduceIte,Nat.reduceEqDiff,reduceCtorEq,decide_true,decide_false, h1]
        · simp -dsimp only [↓RE,RU,RL,if_true,if_false,↓reduceIte,Nat.reduceEqDiff,reduceCtorEq,decide_true,decide_false, h6]
        · simp -dsimp only [↓RE,RU,RL,if_true,if_false,↓reduceIte,Nat.reduceEqDiff,reduceCtorEq,decide_true,decide_false, h7]
        · simp -dsimp only [↓RE,RU,RL,if_true,if_false,↓reduceIte,Nat.reduceEqDiff,reduceCtorEq,decide_true,decide_false, h8, Int.cast_ofNat_Int]
          rfl
        · simp -dsimp only [↓RE,RU,RL,if_true,if_false,↓reduceIte,Nat.reduceEqDiff,reduceCtorEq,decide_true,decide_false, h8, Int.cast_ofNat_Int]
          decide
      · try simp -dsimp only [↓RE,↓c_seq,RU,RL,if_true,if_false,forall_const,implies_true,Nat.reduceLeDiff,Nat.reduceLT,pureOp,binPure,intBin,strBin,eqPure,isConstO,unPure,sliceLo,sliceHi,slicePure,slice3Pure,lenPure,capPure,minPure,maxPure,buildP,resK,endV,yieldE,↓reduceIte,Nat.reduceEqDiff,reduceCtorEq,Nat.reduceAdd,Nat.reduceMul,Nat.reduceSub,Int.reduceLT,Int.reduceLE,Int.reduceToNat,Int.reduceAdd,Int.reduceSub,Int.reduceMul,ne_eq,decide_true,decide_false,tf33, h0, h1, h6, h7, h8, hB2.cell, q1, q2, undef, Int.cast_ofNat_Int]
        refine hold_intro ⟨⟨?_, ?_, ?_, ?_, 1, by omega, ?_, hB.grow g2, hgr.trans g2, fun _ e => hc (by omega), by omega, by omega, by omega⟩, ?_⟩
        · simp -dsimp only [↓RE,RU,RL,if_true,if_false,↓reduceIte,Nat.reduceEqDiff,reduceCtorEq,decide_true,decide_false, h0]
        · simp -dsimp only [↓RE,RU,RL,if_true,if_false,↓reduceIte,Nat.reduceEqDiff,reduceCtorEq,decide_true,decide_false, h1]
        · simp -dsimp only [↓RE,RU,RL,if_true,if_false,↓reduceIte,Nat.reduceEqDiff,reduceCtorEq,decide_true,decide_false, h6]
        · simp -dsimp only [↓RE,RU,RL,if_true,if_false,↓reduceIte,Nat.reduceEqDiff,reduceCtorEq,decide_true,decide_false, h7]
        · simp -dsimp only [↓RE,RU,RL,if_true,if_false,↓reduceIte,Nat.reduceEqDiff,reduceCtorEq,decide_true,decide_false, h8, Int.cast_ofNat_Int]
          rfl
        · simp -dsimp only [↓RE,RU,RL,if_true,if_false,↓reduceIte,Nat.reduceEqDiff,reduceCtorEq,decide_true,decide_false, h8, Int.cast_ofNat_Int]
          decide
  · try simp -dsimp only [↓RE,↓c_seq,RU,RL,if_true,if_false,forall_const,implies_true,Nat.reduceLeDiff,Nat.reduceLT,pureOp,binPure,intBin,strBin,eqPure,isConstO,unPure,sliceLo,sliceHi,slicePure,slice3Pure,lenPure,capPure,minPure,maxPure,buildP,resK,endV,yieldE,↓reduceIte,Nat.reduceEqDiff,reduceCtorEq,Nat.reduceAdd,Nat.reduceMul,Nat.reduceSub,Int.reduceLT,Int.reduceLE,Int.reduceToNat,Int.reduceAdd,Int.reduceSub,Int.reduceMul,ne_eq,decide_true,decide_false,tf33, h0, h1, h6, h7, h8, Int.cast_ofNat_Int]
    refine hB.aggK (o := 5) (by simp [clsCells]) ?_
    try simp -dsimp only [↓RE,↓c_seq,RU,RL,if_true,if_false,forall_const,implies_true,Nat.reduceLeDiff,Nat.reduceLT,pureOp,binPure,intBin,strBin,eqPure,isConstO,unPure,sliceLo,sliceHi,slicePure,slice3Pure,lenPure,capPure,minPure,maxPure,buildP,resK,endV,yieldE,↓reduceIte,Nat.reduceEqDiff,reduceCtorEq,Nat.reduceAdd,Nat.reduceMul,Nat.reduceSub,Int.reduceLT,Int.reduceLE,Int.reduceToNat,Int.reduceAdd,Int.reduceSub,Int.reduceMul,ne_eq,decide_true,decide_false,tf33, h0, h1, h6, h7, h8, clsCells, List.drop_zero, List.drop_succ_cons, List.take_succ_cons, List.take_zero]
    refine hz0.stAgg (by simp) (by simp [Value.oneCell']) (fun w2 hB2 hK2 => ?_)
    have hB2 : Blk w2 w'.heap.size 126 [.int .i64 2, .int .i64 2, .int .i64 (-63), .int .i64 64, .int .i64 7] := by simpa using hB2
    have g2 : Grow w' w2 := ga.above hK2 (fun i hi e => by omega)
    by_cases hc : (-63) ≤ d ∧ d ≤ 64
    · have q1 : decide ((-63) ≤ d) = true := decide_eq_true hc.1
      have q2 : decide (d ≤ 64) = true := decide_eq_true hc.2
      have q3 : IntKind.u64.wrap 2 = 2 := by decide
      have q4 : IntKind.u64.wrap (IntKind.i64.wrap (d - (-63))) = d - (-63) := by rw [wrap_i64_in (by omega) (by omega), wrap_u64]; omega
      have q5 : brought 2 = 2 := by decide
      have q6 : brought 7 = 7 := by decide
      try simp -dsimp only [↓RE,↓c_seq,RU,RL,if_true,if_false,forall_const,implies_true,Nat.reduceLeDiff,Nat.reduceLT,pureOp,binPure,intBin,strBin,eqPure,isConstO,unPure,sliceLo,sliceHi,slicePure,slice3Pure,lenPure,capPure,minPure,maxPure,buildP,resK,endV,yieldE,↓reduceIte,Nat.reduceEqDiff,reduceCtorEq,Nat.reduceAdd,Nat.reduceMul,Nat.reduceSub,Int.reduceLT,Int.reduceLE,Int.reduceToNat,Int.reduceAdd,Int.reduceSub,Int.reduceMul,ne_eq,decide_true,decide_false,tf33, h0, h1, h6, h7, h8, hB2.cell, q1, q2, q3]
      refine bits_ok (hWr.grow g2) hok (by omega) (by omega) (by omega) (by omega) (by omega) (fun w3 F3 hW3 hS3 => ?_)
      rw [q5] at hW3
      have hok3 := pushBits_ok 2 2 (zs, b) hok
      have hl3 := pushBits_len 2 2 (zs, b)
      have hB3 := hB2.keep hS3.keep (fun hf => absurd (hlt _ hf) (by have := hgr.size; omega))
      have hpp : pushBits (d - (-63)) 7 (pushBits 2 2 (zs, b)) = dput d (zs, b) := by
        unfold dput
        rw [if_neg (c0 (by omega)), if_pos hc, show d - (-63) = d + 63 by omega]
      generalize pushBits 2 2 (zs, b) = s3 at hW3 hok3 hl3 hpp
      try simp -dsimp only [↓RE,↓c_seq,RU,RL,if_true,if_false,forall_const,implies_true,Nat.reduceLeDiff,Nat.reduceLT,pureOp,binPure,intBin,strBin,eqPure,isConstO,unPure,sliceLo,sliceHi,slicePure,slice3Pure,lenPure,capPure,minPure,maxPure,buildP,resK,endV,yieldE,↓reduceIte,Nat.reduceEqDiff,reduceCtorEq,Nat.reduceAdd,Nat.reduceMul,Nat.reduceSub,Int.reduceLT,Int.reduceLE,Int.reduceToNat,Int.reduceAdd,Int.reduceSub,Int.reduceMul,ne_eq,decide_true,decide_false,tf33, h0, h1, h6, h7, h8, hB3.cell, q4]
      refine bits_ok (b := s3.2) hW3 hok3 (by omega) (by omega) (by omega) (by omega) (by simp only at hl3; omega) (fun w4 F4 hW4 hS4 => ?_)
      rw [q6, hpp] at hW4
      try simp -dsimp only [↓RE,↓c_seq,RU,RL,if_true,if_false,forall_const,implies_true,Nat.reduceLeDiff,Nat.reduceLT,pureOp,binPure,intBin,strBin,eqPure,isConstO,unPure,sliceLo,sliceHi,slicePure,slice3Pure,lenPure,capPure,minPure,maxPure,buildP,resK,endV,yieldE,↓reduceIte,Nat.reduceEqDiff,reduceCtorEq,Nat.reduceAdd,Nat.reduceMul,Nat.reduceSub,Int.reduceLT,Int.reduceLE,Int.reduceToNat,Int.reduceAdd,Int.reduceSub,Int.reduceMul,ne_eq,decide_true,decide_false,tf33, h0]
      exact h w4 F4 hW4 ((hge g2).step (hS3.trans hS4))
    · have q1 : (decide ((-63) ≤ d) = false) ∨ (decide ((-63) ≤ d) = true ∧ decide (d ≤ 64) = false) := by
        by_cases a : (-63) ≤ d
        · exact .inr ⟨decide_eq_true a, decide_eq_false (fun b => hc ⟨a, b⟩)⟩
        · exact .inl (decide_eq_false a)
      rcases q1 with q1 | ⟨q1, q2⟩
      · try simp -dsimp only [↓RE,↓c_seq,RU,RL,if_true,if_false,forall_const,implies_true,Nat.reduceLeDiff,Nat.reduceLT,pureOp,binPure,intBin,strBin,eqPure,isConstO,unPure,sliceLo,sliceHi,slicePure,slice3Pure,lenPure,capPure,minPure,maxPure,buildP,resK,endV,yieldE,↓reduceIte,Nat.reduceEqDiff,reduceCtorEq,Nat.reduceAdd,Nat.reduceMul,Nat.reduceSub,Int.reduceLT,Int.reduceLE,Int.reduceToNat,Int.reduceAdd,Int.reduceSub,Int.reduceMul,ne_eq,decide_true,decide_false,tf33, h0, h1, h6, h7, h8, hB2.cell, q1, undef, Int.cast_ofNat_Int]
        refine hold_intro ⟨⟨?_, ?_, ?_, ?_, 2, by omega, ?_, hB.grow g2, hgr.trans g2, fun _ => c0 (by omega), fun _ => hc, by omega, by omega⟩, ?_⟩
        · simp -dsimp only [↓RE,RU,RL,if_true,if_false,↓reduceIte,Nat.reduceEqDiff,reduceCtorEq,decide_true,decide_false, h0]
        · simp -dsimp only [↓RE,RU,RL,if_true,if_false,↓reduceIte,Nat.reduceEqDiff,reduceCtorEq,decide_true,decide_false, h1]
        · simp -dsimp only [↓RE,RU,RL,if_true,if_false,↓reduceIte,Nat.reduceEqDiff,reduceCtorEq,decide_true,decide_false, h6]
        · simp -dsimp only [↓RE,RU,RL,if_true,if_false,↓reduceIte,Nat.reduceEqDiff,reduceCtorEq,decide_true,decide_false, h7]
        · simp -dsimp only [↓RE,RU,RL,if_true,if_false,↓reduceIte,Nat.reduceEqDiff,reduceCtorEq,decide_true,decide_false, h8, Int.cast_ofNat_Int]
          rfl
        · simp -dsimp only [↓RE,RU,RL,if_true,if_false,↓reduceIte,Nat.reduceEqDiff,reduceCtorEq,decide_true,decide_false, h8, Int.cast_ofNat_Int]
          decide
      · try simp -dsimp only [↓RE,↓c_seq,RU,RL,if_true,if_false,forall_const,implies_true,Nat.reduceLeDiff,Nat.reduceLT,pureOp,binPure,intBin,strBin,eqPure,isConstO,unPure,sliceLo,sliceHi,slicePure,slice3Pure,lenPure,capPure,minPure,maxPure,buildP,resK,endV,yieldE,↓reduceIte,Nat.reduceEqDiff,reduceCtorEq,Nat.reduceAdd,Nat.reduceMul,Nat.reduceSub,Int.reduceLT,Int.reduceLE,Int.reduceToNat,Int.reduceAdd,Int.reduceSub,Int.reduceMul,ne_eq,decide_true,decide_false,tf33, h0, h1, h6, h7, h8, hB2.cell, q1, q2, undef, Int.cast_ofNat_Int]
        refine hold_intro ⟨⟨?_, ?_, ?_, ?_, 2, by omega, ?_, hB.grow g2, hgr.trans g2, fun _ => c0 (by omega), fun _ => hc, by omega, by omega⟩, ?_⟩
        · simp -dsimp only [↓RE,RU,RL,if_true,if_false,↓reduceIte,Nat.reduceEqDiff,reduceCtorEq,decide_true,decide_false, h0]
        · simp -dsimp only [↓RE,RU,RL,if_true,if_false,↓reduceIte,Nat.reduceEqDiff,reduceCtorEq,decide_true,decide_false, h1]
        · simp -dsimp only [↓RE,RU,RL,if_true,if_false,↓reduceIte,Nat.reduceEqDiff,reduceCtorEq,decide_true,decide_false, h6]
        · simp -dsimp only [↓RE,RU,RL,if_true,if_false,↓reduceIte,Nat.reduceEqDiff,reduceCtorEq,decide_true,decide_false, h7]
        · simp -dsimp only [↓RE,RU,RL,if_true,if_false,↓reduceIte,Nat.reduceEqDiff,reduceCtorEq,decide_true,decide_false, h8, Int.cast_ofNat_Int]
          rfl
        · simp -dsimp only [↓RE,RU,RL,if_true,if_false,↓reduceIte,Nat.reduceEqDiff,reduceCtorEq,decide_true,decide_false, h8, Int.cast_ofNat_Int]
          decide
  · try simp -dsimp only [↓RE,↓c_seq,RU,RL,if_true,if_false,forall_const,implies_true,Nat.reduceLeDiff,Nat.reduceLT,pureOp,binPure,intBin,strBin,eqPure,isConstO,unPure,sliceLo,sliceHi,slicePure,slice3Pure,lenPure,capPure,minPure,maxPure,buildP,resK,endV,yieldE,↓reduceIte,Nat.reduceEqDiff,reduceCtorEq,Nat.reduceAdd,Nat.reduceMul,Nat.reduceSub,Int.reduceLT,Int.reduceLE,Int.reduceToNat,Int.reduceAdd,Int.reduceSub,Int.reduceMul,ne_eq,decide_true,decide_false,tf33, h0, h1, h6, h7, h8, Int.cast_ofNat_Int]
    refine hB.aggK (o := 10) (by simp [clsCells]) ?_
    try simp -dsimp only [↓RE,↓c_seq,RU,RL,if_true,if_false,forall_const,implies_true,Nat.reduceLeDiff,Nat.reduceLT,pureOp,binPure,intBin,strBin,eqPure,isConstO,unPure,sliceLo,sliceHi,slicePure,slice3Pure,lenPure,capPure,minPure,maxPure,buildP,resK,endV,yieldE,↓reduceIte,Nat.reduceEqDiff,reduceCtorEq,Nat.reduceAdd,Nat.reduceMul,Nat.reduceSub,Int.reduceLT,Int.reduceLE,Int.reduceToNat,Int.reduceAdd,Int.reduceSub,Int.reduceMul,ne_eq,decide_true,decide_false,tf33, h0, h1, h6, h7, h8, clsCells, List.drop_zero, List.drop_succ_cons, List.take_succ_cons, List.take_zero]
    refine hz0.stAgg (by simp) (by simp [Value.oneCell']) (fun w2 hB2 hK2 => ?_)
    have hB2 : Blk w2 w'.heap.size 126 [.int .i64 6, .int .i64 3, .int .i64 (-255), .int .i64 256, .int .i64 9] := by simpa using hB2
    have g2 : Grow w' w2 := ga.above hK2 (fun i hi e => by omega)
    by_cases hc : (-255) ≤ d ∧ d ≤ 256
    · have q1 : decide ((-255) ≤ d) = true := decide_eq_true hc.1
      have q2 : decide (d ≤ 256) = true := decide_eq_true hc.2
      have q3 : IntKind.u64.wrap 6 = 6 := by decide
      have q4 : IntKind.u64.wrap (IntKind.i64.wrap (d - (-255))) = d - (-255) := by rw [wrap_i64_in (by omega) (by omega), wrap_u64]; omega
      have q5 : brought 3 = 3 := by decide
      have q6 : brought 9 = 9 := by decide
      try simp -dsimp only [↓RE,↓c_seq,RU,RL,if_true,if_false,forall_const,implies_true,Nat.reduceLeDiff,Nat.reduceLT,pureOp,binPure,intBin,strBin,eqPure,isConstO,unPure,sliceLo,sliceHi,slicePure,slice3Pure,lenPure,capPure,minPure,maxPure,buildP,resK,endV,yieldE,↓reduceIte,Nat.reduceEqDiff,reduceCtorEq,Nat.reduceAdd,Nat.reduceMul,Nat.reduceSub,Int.reduceLT,Int.reduceLE,Int.reduceToNat,Int.reduceAdd,Int.reduceSub,Int.reduceMul,ne_eq,decide_true,decide_false,tf33, h0, h1, h6, h7, h8, hB2.cell, q1, q2, q3]
      refine bits_ok (hWr.grow g2) hok (by omega) (by omega) (by omega) (by omega) (by omega) (fun w3 F3 hW3 hS3 => ?_)
      rw [q5] at hW3
      have hok3 := pushBits_ok 6 3 (zs, b) hok
      have hl3 := pushBits_len 6 3 (zs, b)
      have hB3 := hB2.keep hS3.keep (fun hf => absurd (hlt _ hf) (by have := hgr.size; omega))
      have hpp : pushBits (d - (-255)) 9 (pushBits 6 3 (zs, b)) = dput d (zs, b) := by
        unfold dput
        rw [if_neg (c0 (by omega)), if_neg (c1 (by omega)), if_pos hc, show d - (-255) = d + 255 by omega]
      generalize pushBits 6 3 (zs, b) = s3 at hW3 hok3 hl3 hpp
      try simp -dsimp only [↓RE,↓c_seq,RU,RL,if_true,if_false,forall_const,implies_true,Nat.reduceLeDiff,Nat.reduceLT,pureOp,binPure,intBin,strBin,eqPure,isConstO,unPure,sliceLo,sliceHi,slicePure,slice3Pure,lenPure,capPure,minPure,maxPure,buildP,resK,endV,yieldE,↓reduceIte,Nat.reduceEqDiff,reduceCtorEq,Nat.reduceAdd,Nat.reduceMul,Nat.reduceSub,Int.reduceLT,Int.reduceLE,Int.reduceToNat,Int.reduceAdd,Int.reduceSub,Int.reduceMul,ne_eq,decide_true,decide_false,tf33, h0, h1, h6, h7, h8, hB3.cell, q4]
      refine bits_ok (b := s3.2) hW3 hok3 (by omega) (by omega) (by omega) (by omega) (by simp only at hl3; omega) (fun w4 F4 hW4 hS4 => ?_)
      rw [q6, hpp] at hW4
      try simp -dsimp only [↓RE,↓c_seq,RU,RL,if_true,if_false,forall_const,implies_true,Nat.reduceLeDiff,Nat.reduceLT,pureOp,binPure,intBin,strBin,eqPure,isConstO,unPure,sliceLo,sliceHi,slicePure,slice3Pure,lenPure,capPure,minPure,maxPure,buildP,resK,endV,yieldE,↓reduceIte,Nat.reduceEqDiff,reduceCtorEq,Nat.reduceAdd,Nat.reduceMul,Nat.reduceSub,Int.reduceLT,Int.reduceLE,Int.reduceToNat,Int.reduceAdd,Int.reduceSub,Int.reduceMul,ne_eq,decide_true,decide_false,tf33, h0]
      exact h w4 F4 hW4 ((hge g2).step (hS3.trans hS4))
    · have q1 : (decide ((-255) ≤ d) = false) ∨ (decide ((-255) ≤ d) = true ∧ decide (d ≤ 256) = false) := by
        by_cases a : (-255) ≤ d
        · exact .inr ⟨decide_eq_true a, decide_eq_false (fun b => hc ⟨a, b⟩)⟩
        · exact .inl (decide_eq_false a)
      rcases q1 with q1 | ⟨q1, q2⟩
      · try simp -dsimp only [↓RE,↓c_seq,RU,RL,if_true,if_false,forall_const,implies_true,Nat.reduceLeDiff,Nat.reduceLT,pureOp,binPure,intBin,strBin,eqPure,isConstO,unPure,sliceLo,sliceHi,slicePure,slice3Pure,lenPure,capPure,minPure,maxPure,buildP,resK,endV,yieldE,↓reduceIte,Nat.reduceEqDiff,reduceCtorEq,Nat.reduceAdd,Nat.reduceMul,Nat.reduceSub,Int.reduceLT,Int.reduceLE,Int.reduceToNat,Int.reduceAdd,Int.reduceSub,Int.reduceMul,ne_eq,decide_true,decide_false,tf33, h0, h1, h6, h7, h8, hB2.cell, q1, undef, Int.cast_ofNat_Int]
        refine hold_intro ⟨⟨?_, ?_, ?_, ?_, 3, by omega, ?_, hB.grow g2, hgr.trans g2, fun _ => c0 (by omega), fun _ => c1 (by omega), fun _ => hc, by omega⟩, ?_⟩
        · simp -dsimp only [↓RE,RU,RL,if_true,if_false,↓reduceIte,Nat.reduceEqDiff,reduceCtorEq,decide_true,decide_false, h0]
        · simp -dsimp only [↓RE,RU,RL,if_true,if_false,↓reduceIte,Nat.reduceEqDiff,reduceCtorEq,decide_true,decide_false, h1]
        · simp -dsimp only [↓RE,RU,RL,if_true,if_false,↓reduceIte,Nat.reduceEqDiff,reduceCtorEq,decide_true,decide_false, h6]
        · simp -dsimp only [↓RE,RU,RL,if_true,if_false,↓reduceIte,Nat.reduceEqDiff,reduceCtorEq,decide_true,decide_false, h7]
        · simp -dsimp only [↓RE,RU,RL,if_true,if_false,↓reduceIte,Nat.reduceEqDiff,reduceCtorEq,decide_true,decide_false, h8, Int.cast_ofNat_Int]
          rfl
        · simp -dsimp only [↓RE,RU,RL,if_true,if_false,↓reduceIte,Nat.reduceEqDiff,reduceCtorEq,decide_true,decide_false, h8, Int.cast_ofNat_Int]
          decide
      · try simp -dsimp only [↓RE,↓c_seq,RU,RL,if_true,if_false,forall_const,implies_true,Nat.reduceLeDiff,Nat.reduceLT,pureOp,binPure,intBin,strBin,eqPure,isConstO,unPure,sliceLo,sliceHi,slicePure,slice3Pure,lenPure,capPure,minPure,maxPure,buildP,resK,endV,yieldE,↓reduceIte,Nat.reduceEqDiff,reduceCtorEq,Nat.reduceAdd,Nat.reduceMul,Nat.reduceSub,Int.reduceLT,Int.reduceLE,Int.reduceToNat,Int.reduceAdd,Int.reduceSub,Int.reduceMul,ne_eq,decide_true,decide_false,tf33, h0, h1, h6, h7, h8, hB2.cell, q1, q2, undef, Int.cast_ofNat_Int]
        refine hold_intro ⟨⟨?_, ?_, ?_, ?_, 3, by omega, ?_, hB.grow g2, hgr.trans g2, fun _ => c0 (by omega), fun _ => c1 (by omega), fun _ => hc, by omega⟩, ?_⟩
        · simp -dsimp only [↓RE,RU,RL,if_true,if_false,↓reduceIte,Nat.reduceEqDiff,reduceCtorEq,decide_true,decide_false, h0]
        · simp -dsimp only [↓RE,RU,RL,if_true,if_false,↓reduceIte,Nat.reduceEqDiff,reduceCtorEq,decide_true,decide_false, h1]
        · simp -dsimp only [↓RE,RU,RL,if_true,if_false,↓reduceIte,Nat.reduceEqDiff,reduceCtorEq,decide_true,decide_false, h6]
        · simp -dsimp only [↓RE,RU,RL,if_true,if_false,↓reduceIte,Nat.reduceEqDiff,reduceCtorEq,decide_true,decide_false, h7]
        · simp -dsimp only [↓RE,RU,RL,if_true,if_false,↓reduceIte,Nat.reduceEqDiff,reduceCtorEq,decide_true,decide_false, h8, Int.cast_ofNat_Int]
          rfl
        · simp -dsimp only [↓RE,RU,RL,if_true,if_false,↓reduceIte,Nat.reduceEqDiff,reduceCtorEq,decide_true,decide_false, h8, Int.cast_ofNat_Int]
          decide
  · try simp -dsimp only [↓RE,↓c_seq,RU,RL,if_true,if_false,forall_const,implies_true,Nat.reduceLeDiff,Nat.reduceLT,pureOp,binPure,intBin,strBin,eqPure,isConstO,unPure,sliceLo,sliceHi,slicePure,slice3Pure,lenPure,capPure,minPure,maxPure,buildP,resK,endV,yieldE,↓reduceIte,Nat.reduceEqDiff,reduceCtorEq,Nat.reduceAdd,Nat.reduceMul,Nat.reduceSub,Int.reduceLT,Int.reduceLE,Int.reduceToNat,Int.reduceAdd,Int.reduceSub,Int.reduceMul,ne_eq,decide_true,decide_false,tf33, h0, h1, h6, h7, h8, Int.cast_ofNat_Int]
    refine hB.aggK (o := 15) (by simp [clsCells]) ?_
    try simp -dsimp only [↓RE,↓c_seq,RU,RL,if_true,if_false,forall_const,implies_true,Nat.reduceLeDiff,Nat.reduceLT,pureOp,binPure,intBin,strBin,eqPure,isConstO,unPure,sliceLo,sliceHi,slicePure,slice3Pure,lenPure,capPure,minPure,maxPure,buildP,resK,endV,yieldE,↓reduceIte,Nat.reduceEqDiff,reduceCtorEq,Nat.reduceAdd,Nat.reduceMul,Nat.reduceSub,Int.reduceLT,Int.reduceLE,Int.reduceToNat,Int.reduceAdd,Int.reduceSub,Int.reduceMul,ne_eq,decide_true,decide_false,tf33, h0, h1, h6, h7, h8, clsCells, List.drop_zero, List.drop_succ_cons, List.take_succ_cons, List.take_zero]
    refine hz0.stAgg (by simp) (by simp [Value.oneCell']) (fun w2 hB2 hK2 => ?_)
    have hB2 : Blk w2 w'.heap.size 126 [.int .i64 14, .int .i64 4, .int .i64 (-2047), .int .i64 2048, .int .i64 12] := by simpa using hB2
    have g2 : Grow w' w2 := ga.above hK2 (fun i hi e => by omega)
    by_cases hc : (-2047) ≤ d ∧ d ≤ 2048
    · have q1 : decide ((-2047) ≤ d) = true := decide_eq_true hc.1
      have q2 : decide (d ≤ 2048) = true := decide_eq_true hc.2
      have q3 : IntKind.u64.wrap 14 = 14 := by decide
      have q4 : IntKind.u64.wrap (IntKind.i64.wrap (d - (-2047))) = d - (-2047) := by rw [wrap_i64_in (by omega) (by omega), wrap_u64]; omega
      have q5 : brought 4 = 4 := by decide
      have q6 : brought 12 = 12 := by decide
      try simp -dsimp only [↓RE,↓c_seq,RU,RL,if_true,if_false,forall_const,implies_true,Nat.reduceLeDiff,Nat.reduceLT,pureOp,binPure,intBin,strBin,eqPure,isConstO,unPure,sliceLo,sliceHi,slicePure,slice3Pure,lenPure,capPure,minPure,maxPure,buildP,resK,endV,yieldE,↓reduceIte,Nat.reduceEqDiff,reduceCtorEq,Nat.reduceAdd,Nat.reduceMul,Nat.reduceSub,Int.reduceLT,Int.reduceLE,Int.reduceToNat,Int.reduceAdd,Int.reduceSub,Int.reduceMul,ne_eq,decide_true,decide_false,tf33, h0, h1, h6, h7, h8, hB2.cell, q1, q2, q3]
      refine bits_ok (hWr.grow g2) hok (by omega) (by omega) (by omega) (by omega) (by omega) (fun w3 F3 hW3 hS3 => ?_)
      rw [q5] at hW3
      have hok3 := pushBits_ok 14 4 (zs, b) hok
      have hl3 := pushBits_len 14 4 (zs, b)
      have hB3 := hB2.keep hS3.keep (fun hf => absurd (hlt _ hf) (by have := hgr.size; omega))
      have hpp : pushBits (d - (-2047)) 12 (pushBits 14 4 (zs, b)) = dput d (zs, b) := by
        unfold dput
        rw [if_neg (c0 (by omega)), if_neg (c1 (by omega)), if_neg (c2 (by omega)), if_pos hc, show d - (-2047) = d + 2047 by omega]
      generalize pushBits 14 4 (zs, b) = s3 at hW3 hok3 hl3 hpp
      try simp -dsimp only [↓RE,↓c_seq,RU,RL,if_true,if_false,forall_const,implies_true,Nat.reduceLeDiff,Nat.reduceLT,pureOp,binPure,intBin,strBin,eqPure,isConstO,unPure,sliceLo,sliceHi,slicePure,slice3Pure,lenPure,capPure,minPure,maxPure,buildP,resK,endV,yieldE,↓reduceIte,Nat.reduceEqDiff,reduceCtorEq,Nat.reduceAdd,Nat.reduceMul,Nat.reduceSub,Int.reduceLT,Int.reduceLE,Int.reduceToNat,Int.reduceAdd,Int.reduceSub,Int.reduceMul,ne_eq,decide_true,decide_false,tf33, h0, h1, h6, h7, h8, hB3.cell, q4]
      refine bits_ok (b := s3.2) hW3 hok3 (by omega) (by omega) (by omega) (by omega) (by simp only at hl3; omega) (fun w4 F4 hW4 hS4 => ?_)
      rw [q6, hpp] at hW4
      try simp -dsimp only [↓RE,↓c_seq,RU,RL,if_true,if_false,forall_const,implies_true,Nat.reduceLeDiff,Nat.reduceLT,pureOp,binPure,intBin,strBin,eqPure,isConstO,unPure,sliceLo,sliceHi,slicePure,slice3Pure,lenPure,capPure,minPure,maxPure,buildP,resK,endV,yieldE,↓reduceIte,Nat.reduceEqDiff,reduceCtorEq,Nat.reduceAdd,Nat.reduceMul,Nat.reduceSub,Int.reduceLT,Int.reduceLE,Int.reduceToNat,Int.reduceAdd,Int.reduceSub,Int.reduceMul,ne_eq,decide_true,decide_false,tf33, h0]
      exact h w4 F4 hW4 ((hge g2).step (hS3.trans hS4))
    · have q1 : (decide ((-2047) ≤ d) = false) ∨ (decide ((-2047) ≤ d) = true ∧ decide (d ≤ 2048) = false) := by
        by_cases a : (-2047) ≤ d
        · exact .inr ⟨decide_eq_true a, decide_eq_false (fun b => hc ⟨a, b⟩)⟩
        · exact .inl (decide_eq_false a)
      rcases q1 with q1 | ⟨q1, q2⟩
      · try simp -dsimp only [↓RE,↓c_seq,RU,RL,if_true,if_false,forall_const,implies_true,Nat.reduceLeDiff,Nat.reduceLT,pureOp,binPure,intBin,strBin,eqPure,isConstO,unPure,sliceLo,sliceHi,slicePure,slice3Pure,lenPure,capPure,minPure,maxPure,buildP,resK,endV,yieldE,↓reduceIte,Nat.reduceEqDiff,reduceCtorEq,Nat.reduceAdd,Nat.reduceMul,Nat.reduceSub,Int.reduceLT,Int.reduceLE,Int.reduceToNat,Int.reduceAdd,Int.reduceSub,Int.reduceMul,ne_eq,decide_true,decide_false,tf33, h0, h1, h6, h7, h8, hB2.cell, q1, undef, Int.cast_ofNat_Int]
        refine hold_intro ⟨⟨?_, ?_, ?_, ?_, 4, by omega, ?_, hB.grow g2, hgr.trans g2, fun _ => c0 (by omega), fun _ => c1 (by omega), fun _ => c2 (by omega), fun _ => hc⟩, ?_⟩
        · simp -dsimp only [↓RE,RU,RL,if_true,if_false,↓reduceIte,Nat.reduceEqDiff,reduceCtorEq,decide_true,decide_false, h0]
        · simp -dsimp only [↓RE,RU,RL,if_true,if_false,↓reduceIte,Nat.reduceEqDiff,reduceCtorEq,decide_true,decide_false, h1]
        · simp -dsimp only [↓RE,RU,RL,if_true,if_false,↓reduceIte,Nat.reduceEqDiff,reduceCtorEq,decide_true,decide_false, h6]
        · simp -dsimp only [↓RE,RU,RL,if_true,if_false,↓reduceIte,Nat.reduceEqDiff,reduceCtorEq,decide_true,decide_false, h7]
        · simp -dsimp only [↓RE,RU,RL,if_true,if_false,↓reduceIte,Nat.reduceEqDiff,reduceCtorEq,decide_true,decide_false, h8, Int.cast_ofNat_Int]
          rfl
        · simp -dsimp only [↓RE,RU,RL,if_true,if_false,↓reduceIte,Nat.reduceEqDiff,reduceCtorEq,decide_true,decide_false, h8, Int.cast_ofNat_Int]
          decide
      · try simp -dsimp only [↓RE,↓c_seq,RU,RL,if_true,if_false,forall_const,implies_true,Nat.reduceLeDiff,Nat.reduceLT,pureOp,binPure,intBin,strBin,eqPure,isConstO,unPure,sliceLo,sliceHi,slicePure,slice3Pure,lenPure,capPure,minPure,maxPure,buildP,resK,endV,yieldE,↓reduceIte,Nat.reduceEqDiff,reduceCtorEq,Nat.reduceAdd,Nat.reduceMul,Nat.reduceSub,Int.reduceLT,Int.reduceLE,Int.reduceToNat,Int.reduceAdd,Int.reduceSub,Int.reduceMul,ne_eq,decide_true,decide_false,tf33, h0, h1, h6, h7, h8, hB2.cell, q1, q2, undef, Int.cast_ofNat_Int]
        refine hold_intro ⟨⟨?_, ?_, ?_, ?_, 4, by omega, ?_, hB.grow g2, hgr.trans g2, fun _ => c0 (by omega), fun _ => c1 (by omega), fun _ => c2 (by omega), fun _ => hc⟩, ?_⟩
        · simp -dsimp only [↓RE,RU,RL,if_true,if_false,↓reduceIte,Nat.reduceEqDiff,reduceCtorEq,decide_true,decide_false, h0]
        · simp -dsimp only [↓RE,RU,RL,if_true,if_false,↓reduceIte,Nat.reduceEqDiff,reduceCtorEq,decide_true,decide_false, h1]
        · simp -dsimp only [↓RE,RU,RL,if_true,if_false,↓reduceIte,Nat.reduceEqDiff,reduceCtorEq,decide_true,decide_false, h6]
        · simp -dsimp only [↓RE,RU,RL,if_true,if_false,↓reduceIte,Nat.reduceEqDiff,reduceCtorEq,decide_true,decide_false, h7]
        · simp -dsimp only [↓RE,RU,RL,if_true,if_false,↓reduceIte,Nat.reduceEqDiff,reduceCtorEq,decide_true,decide_false, h8, Int.cast_ofNat_Int]
          rfl
        · simp -dsimp only [↓RE,RU,RL,if_true,if_false,↓reduceIte,Nat.reduceEqDiff,reduceCtorEq,decide_true,decide_false, h8, Int.cast_ofNat_Int]
          decide
  · have q3 : IntKind.u64.wrap 15 = 15 := by decide
    have q4 : IntKind.u64.wrap d = d % 18446744073709551616 := wrap_u64 d
    have q5 : brought 4 = 4 := by decide
    have q6 : brought 64 = 64 := by decide
    try simp -dsimp only [↓RE,↓c_seq,RU,RL,if_true,if_false,forall_const,implies_true,Nat.reduceLeDiff,Nat.reduceLT,pureOp,binPure,intBin,strBin,eqPure,isConstO,unPure,sliceLo,sliceHi,slicePure,slice3Pure,lenPure,capPure,minPure,maxPure,buildP,resK,endV,yieldE,↓reduceIte,Nat.reduceEqDiff,reduceCtorEq,Nat.reduceAdd,Nat.reduceMul,Nat.reduceSub,Int.reduceLT,Int.reduceLE,Int.reduceToNat,Int.reduceAdd,Int.reduceSub,Int.reduceMul,ne_eq,decide_true,decide_false,tf33, h0, h1, h6, h7, h8, Int.cast_ofNat_Int]
    refine bits_ok hWr hok (by omega) (by omega) (by omega) (by omega) (by omega) (fun w3 F3 hW3 hS3 => ?_)
    rw [q5] at hW3
    have hok3 := pushBits_ok 15 4 (zs, b) hok
    have hl3 := pushBits_len 15 4 (zs, b)
    have hpp : pushBits (d % 18446744073709551616) 64 (pushBits 15 4 (zs, b)) = dput d (zs, b) := by
      unfold dput
      rw [if_neg (c0 (by omega)), if_neg (c1 (by omega)), if_neg (c2 (by omega)), if_neg (c3 (by omega))]
    generalize pushBits 15 4 (zs, b) = s3 at hW3 hok3 hl3 hpp
    try simp -dsimp only [↓RE,↓c_seq,RU,RL,if_true,if_false,forall_const,implies_true,Nat.reduceLeDiff,Nat.reduceLT,pureOp,binPure,intBin,strBin,eqPure,isConstO,unPure,sliceLo,sliceHi,slicePure,slice3Pure,lenPure,capPure,minPure,maxPure,buildP,resK,endV,yieldE,↓reduceIte,Nat.reduceEqDiff,reduceCtorEq,Nat.reduceAdd,Nat.reduceMul,Nat.reduceSub,Int.reduceLT,Int.reduceLE,Int.reduceToNat,Int.reduceAdd,Int.reduceSub,Int.reduceMul,ne_eq,decide_true,decide_false,tf33, h0, h1, q4]
    refine bits_ok (b := s3.2) hW3 hok3 (by omega) (by omega) (by omega) (by omega) (by simp only at hl3; omega) (fun w4 F4 hW4 hS4 => ?_)
    rw [q6, hpp] at hW4
    try simp -dsimp only [↓RE,↓c_seq,RU,RL,if_true,if_false,forall_const,implies_true,Nat.reduceLeDiff,Nat.reduceLT,pureOp,binPure,intBin,strBin,eqPure,isConstO,unPure,sliceLo,sliceHi,slicePure,slice3Pure,lenPure,capPure,minPure,maxPure,buildP,resK,endV,yieldE,↓reduceIte,Nat.reduceEqDiff,reduceCtorEq,Nat.reduceAdd,Nat.reduceMul,Nat.reduceSub,Int.reduceLT,Int.reduceLE,Int.reduceToNat,Int.reduceAdd,Int.reduceSub,Int.reduceMul,ne_eq,decide_true,decide_false,tf33, h0]
    exact h w4 F4 hW4 (hgr.step (hS3.trans hS4))

theorem times_ok {w : World} {A : Option Addr} {n c : Nat} {l : List Int} (hR : Rd w A n 1 (l.map (Value.int .i64))) (hl0 : ∀ z ∈ l, -9223372036854775808 ≤ z ∧ z < 9223372036854775808) (hn : n ≤ 140737488355328) {R : VWK}
    (herr : ∀ er w', tErr l = some er → Grow w w' → R (.tuple #[.slice none 0 0, .iface 77 (.int .i64 er)]) w')
    (h : tErr l = none → ∀ w' A' c', w'.ownsRow 0 5 1 (.slice A' (tW l n).1.length c') (tW l n).1.length ((tW l n).1.map (Value.int .u8)) → Grow w w' → (∀ k, fpA A' k → w.heap.size ≤ k) →
      R (.tuple #[.slice A' (tW l n).1.length c', .nilIface]) w') :
    CallsV Try.prog 17 [.slice A n c] w R := by
  have hl := hR.len1
  have hrg := i64_get hl0
  refine calls_of_wpC mixed Try.func17 rfl (by kernel_rfl) ?_
  intro e he
  have he0 := he 0
  simp only [List.getD_cons_zero, List.getD_cons_succ] at he0
  clear he
  try simp -dsimp only [↓RE,↓c_seq,RU,RL,if_true,if_false,forall_const,implies_true,Nat.reduceLeDiff,Nat.reduceLT,pureOp,binPure,intBin,strBin,eqPure,isConstO,unPure,sliceLo,sliceHi,slicePure,slice3Pure,lenPure,capPure,minPure,maxPure,buildP,resK,endV,yieldE,↓reduceIte,Nat.reduceEqDiff,reduceCtorEq,Nat.reduceAdd,Nat.reduceMul,Nat.reduceSub,Int.reduceLT,Int.reduceLE,Int.reduceToNat,Int.reduceAdd,Int.reduceSub,Int.reduceMul,ne_eq,decide_true,decide_false,tf17, he0]
  refine ⟨fun hgt => ?_, fun hle => ?_⟩
  · try simp -dsimp only [↓RE,↓c_seq,RU,RL,if_true,if_false,forall_const,implies_true,Nat.reduceLeDiff,Nat.reduceLT,pureOp,binPure,intBin,strBin,eqPure,isConstO,unPure,sliceLo,sliceHi,slicePure,slice3Pure,lenPure,capPure,minPure,maxPure,buildP,resK,endV,yieldE,↓reduceIte,Nat.reduceEqDiff,reduceCtorEq,Nat.reduceAdd,Nat.reduceMul,Nat.reduceSub,Int.reduceLT,Int.reduceLE,Int.reduceToNat,Int.reduceAdd,Int.reduceSub,Int.reduceMul,ne_eq,decide_true,decide_false,tf17, he0]
    refine fnew_ok (by decide) ?_
    try simp -dsimp only [↓RE,↓c_seq,RU,RL,if_true,if_false,forall_const,implies_true,Nat.reduceLeDiff,Nat.reduceLT,pureOp,binPure,intBin,strBin,eqPure,isConstO,unPure,sliceLo,sliceHi,slicePure,slice3Pure,lenPure,capPure,minPure,maxPure,buildP,resK,endV,yieldE,↓reduceIte,Nat.reduceEqDiff,reduceCtorEq,Nat.reduceAdd,Nat.reduceMul,Nat.reduceSub,Int.reduceLT,Int.reduceLE,Int.reduceToNat,Int.reduceAdd,Int.reduceSub,Int.reduceMul,ne_eq,decide_true,decide_false,tf17, he0]
    exact herr 6 w (tErr_long (by omega)) (Keep.refl _ _)
  have hn2 : n ≤ 1048576 := by omega
  have hB1 := Blk.new' w 65 #[.slice none 0 0, .int .i64 0]
  have g1 := Grow.alloc w (.cells #[.slice none 0 0, .int .i64 0] 65)
  have hW0 : WAt 65 (w.alloc (.cells #[.slice none 0 0, .int .i64 0] 65)) (fun k => k = w.heap.size ∨ fpV (.slice none 0 0) k) w.heap.size [] 0 := ⟨_, hB1, own_nil _ _ _, rfl⟩
  have hge : ∀ k, (k = w.heap.size ∨ fpV (.slice none 0 0) k) → w.heap.size ≤ k := by
    rintro k (rfl | hk)
    · exact Nat.le_refl _
    · exact absurd hk (fpV_none _)
  have q0 : IntKind.u64.wrap (n : Int) = (n : Int) := by rw [wrap_u64]; omega
  try simp -dsimp only [↓RE,↓c_seq,RU,RL,if_true,if_false,forall_const,implies_true,Nat.reduceLeDiff,Nat.reduceLT,pureOp,binPure,intBin,strBin,eqPure,isConstO,unPure,sliceLo,sliceHi,slicePure,slice3Pure,lenPure,capPure,minPure,maxPure,buildP,resK,endV,yieldE,↓reduceIte,Nat.reduceEqDiff,reduceCtorEq,Nat.reduceAdd,Nat.reduceMul,Nat.reduceSub,Int.reduceLT,Int.reduceLE,Int.reduceToNat,Int.reduceAdd,Int.reduceSub,Int.reduceMul,ne_eq,decide_true,decide_false,tf17, he0, q0]
  refine uint_ok (v := (n : Int)) hW0 (by omega) (by omega) (by simp) (fun w2 F2 hW2 hS2 => ?_)
  have hW2 : WAt 65 w2 F2 w.heap.size (tW l 0).1 (tW l 0).2 := by simpa [tW, hl] using hW2
  have g2 : Grow w w2 := g1.above hS2.keep (fun i hi hf => absurd (hge i hf) (by omega))
  have hF2 : ∀ k, F2 k → w.heap.size ≤ k := fun k hk => (hS2.sub k hk).elim (hge k) (fun h => by have := g1.size; omega)
  try simp -dsimp only [↓RE,↓c_seq,RU,RL,if_true,if_false,forall_const,implies_true,Nat.reduceLeDiff,Nat.reduceLT,pureOp,binPure,intBin,strBin,eqPure,isConstO,unPure,sliceLo,sliceHi,slicePure,slice3Pure,lenPure,capPure,minPure,maxPure,buildP,resK,endV,yieldE,↓reduceIte,Nat.reduceEqDiff,reduceCtorEq,Nat.reduceAdd,Nat.reduceMul,Nat.reduceSub,Int.reduceLT,Int.reduceLE,Int.reduceToNat,Int.reduceAdd,Int.reduceSub,Int.reduceMul,ne_eq,decide_true,decide_false,tf17, he0]
  refine wpLoop_intro (fun e' w' => e' 0 = .slice A n c ∧ e' 4 = .pointer (some ⟨w.heap.size, 0, none⟩) ∧ e' 17 = .slice A n c ∧ e' 18 = .int .i64 n ∧ ∃ (k : Nat) (F : Nat → Prop), k ≤ n ∧ e' 19 = .int .i64 k ∧
      e' 5 = .int .u64 (if k ≤ 1 then 0 else (l.getD (k - 1) 0 - l.getD (k - 2) 0) % 18446744073709551616) ∧ Rises l k ∧ WAt 65 w' F w.heap.size (tW l k).1 (tW l k).2 ∧ (∀ i, F i → w.heap.size ≤ i) ∧ Grow w w')
    (fun e' _ => n - (envInt (e' 19)).toNat) ⟨?_, ?_, ?_, ?_, 0, F2, Nat.zero_le _, ?_, ?_, fun i hi => absurd hi (by omega), hW2, hF2, g2⟩ ?_
  · simp -dsimp only [↓RE,RU,RL,if_true,if_false,↓reduceIte,Nat.reduceEqDiff,reduceCtorEq,decide_true,decide_false, he0]
  · simp -dsimp only [↓RE,RU,RL,if_true,if_false,↓reduceIte,Nat.reduceEqDiff,reduceCtorEq,decide_true,decide_false, he0]
  · simp -dsimp only [↓RE,RU,RL,if_true,if_false,↓reduceIte,Nat.reduceEqDiff,reduceCtorEq,decide_true,decide_false, he0]
  · simp -dsimp only [↓RE,RU,RL,if_true,if_false,↓reduceIte,Nat.reduceEqDiff,reduceCtorEq,decide_true,decide_false, he0]
  · simp -dsimp only [↓RE,RU,RL,if_true,if_false,↓reduceIte,Nat.reduceEqDiff,reduceCtorEq,decide_true,decide_false, he0, Int.cast_ofNat_Int]
  · simp -dsimp only [↓RE,RU,RL,if_true,if_false,↓reduceIte,Nat.reduceEqDiff,reduceCtorEq,decide_true,decide_false, he0, Nat.zero_le, if_true]
  rintro e' w' ⟨h0, h4, h17, h18, k, F, hk, h19, h5, hrs, hW, hF, hg⟩
  have hok := tW_ok l k
  have hlen := tW_len (l := l) (by omega) hl0 k
  have hz := hrg k
  have hz1 := hrg (k - 1)
  have hz2 := hrg (k - 2)
  -- the round goes on
  have step : ∀ {w2 : World} {F2 : Nat → Prop}, Step F F2 w' w2 → (∀ i, F2 i → w.heap.size ≤ i) ∧ Grow w w2 := fun hS =>
    ⟨fun i hi => (hS.sub i hi).elim (hF i) (fun h => by have := hg.size; omega), hg.above hS.keep (fun i hi hf => absurd (hF i hf) (by omega))⟩
  rw [c_seq]
  simp -dsimp only [↓RE,RU,RL,if_true,if_false,forall_const,implies_true,Nat.reduceLeDiff,Nat.reduceLT,pureOp,binPure,intBin,strBin,eqPure,isConstO,unPure,sliceLo,sliceHi,slicePure,slice3Pure,lenPure,capPure,minPure,maxPure,buildP,resK,endV,yieldE,↓reduceIte,Nat.reduceEqDiff,reduceCtorEq,Nat.reduceAdd,Nat.reduceMul,Nat.reduceSub,Int.reduceLT,Int.reduceLE,Int.reduceToNat,Int.reduceAdd,Int.reduceSub,Int.reduceMul,ne_eq,decide_true,decide_false,tf17, h0, h4, h17, h18, h19, h5]
  rw [c_seq]
  simp -dsimp only [↓RE,RU,RL,if_true,if_false,forall_const,implies_true,Nat.reduceLeDiff,Nat.reduceLT,pureOp,binPure,intBin,strBin,eqPure,isConstO,unPure,sliceLo,sliceHi,slicePure,slice3Pure,lenPure,capPure,minPure,maxPure,buildP,resK,endV,yieldE,↓reduceIte,Nat.reduceEqDiff,reduceCtorEq,Nat.reduceAdd,Nat.reduceMul,Nat.reduceSub,Int.reduceLT,Int.reduceLE,Int.reduceToNat,Int.reduceAdd,Int.reduceSub,Int.reduceMul,ne_eq,decide_true,decide_false,tf17, h0, h4, h17, h18, h19, h5]
  refine ⟨fun hlt => ?_, fun hge => ?_⟩
  · obtain ⟨ad, hAd, hca⟩ := (hR.grow hg).int (k := k) (by omega)
    refine c_seq_cut (fun e2 w2 => e2 0 = .slice A n c ∧ e2 4 = .pointer (some ⟨w.heap.size, 0, none⟩) ∧ e2 17 = .slice A n c ∧ e2 18 = .int .i64 n ∧ e2 19 = .int .i64 k ∧
      e2 5 = .int .u64 (if k + 1 ≤ 1 then 0 else (l.getD (k + 1 - 1) 0 - l.getD (k + 1 - 2) 0) % 18446744073709551616) ∧ Rises l (k + 1) ∧ ∃ F2, WAt 65 w2 F2 w.heap.size (tW l (k + 1)).1 (tW l (k + 1)).2 ∧ Step F F2 w' w2) ?_ ?_
    · subst hAd
      try simp -dsimp only [↓RE,↓c_seq,RU,RL,if_true,if_false,forall_const,implies_true,Nat.reduceLeDiff,Nat.reduceLT,pureOp,binPure,intBin,strBin,eqPure,isConstO,unPure,sliceLo,sliceHi,slicePure,slice3Pure,lenPure,capPure,minPure,maxPure,buildP,resK,endV,yieldE,↓reduceIte,Nat.reduceEqDiff,reduceCtorEq,Nat.reduceAdd,Nat.reduceMul,Nat.reduceSub,Int.reduceLT,Int.reduceLE,Int.reduceToNat,Int.reduceAdd,Int.reduceSub,Int.reduceMul,ne_eq,decide_true,decide_false,tf17, h0, h4, h17, h18, h19, h5]
      refine ⟨⟨by omega, by omega⟩, ?_⟩
      rcases Nat.eq_zero_or_pos k with rfl | hpos
      · simp only [if_true, Nat.zero_le] at h5
        try simp -dsimp only [↓RE,↓c_seq,RU,RL,if_true,if_false,forall_const,implies_true,Nat.reduceLeDiff,Nat.reduceLT,pureOp,binPure,intBin,strBin,eqPure,isConstO,unPure,sliceLo,sliceHi,slicePure,slice3Pure,lenPure,capPure,minPure,maxPure,buildP,resK,endV,yieldE,↓reduceIte,Nat.reduceEqDiff,reduceCtorEq,Nat.reduceAdd,Nat.reduceMul,Nat.reduceSub,Int.reduceLT,Int.reduceLE,Int.reduceToNat,Int.reduceAdd,Int.reduceSub,Int.reduceMul,ne_eq,decide_true,decide_false,tf17, h0, h4, h17, h18, h19, h5, hca, Int.toNat_natCast, Int.cast_ofNat_Int]
        refine int_ok hW hz.1 hz.2 (by omega) (fun w3 F3 hW3 hS3 => ?_)
        try simp -dsimp only [↓RE,↓c_seq,RU,RL,if_true,if_false,forall_const,implies_true,Nat.reduceLeDiff,Nat.reduceLT,pureOp,binPure,intBin,strBin,eqPure,isConstO,unPure,sliceLo,sliceHi,slicePure,slice3Pure,lenPure,capPure,minPure,maxPure,buildP,resK,endV,yieldE,↓reduceIte,Nat.reduceEqDiff,reduceCtorEq,Nat.reduceAdd,Nat.reduceMul,Nat.reduceSub,Int.reduceLT,Int.reduceLE,Int.reduceToNat,Int.reduceAdd,Int.reduceSub,Int.reduceMul,ne_eq,decide_true,decide_false,tf17, h0, h4, h17, h18, h19, h5]
        refine hold_intro ⟨?_, ?_, ?_, ?_, ?_, ?_, fun i hi h0 => absurd hi (by omega), F3, by simpa [tW] using hW3, hS3⟩
        · simp -dsimp only [↓RE,RU,RL,if_true,if_false,↓reduceIte,Nat.reduceEqDiff,reduceCtorEq,decide_true,decide_false, h0]
        · simp -dsimp only [↓RE,RU,RL,if_true,if_false,↓reduceIte,Nat.reduceEqDiff,reduceCtorEq,decide_true,decide_false, h4]
        · simp -dsimp only [↓RE,RU,RL,if_true,if_false,↓reduceIte,Nat.reduceEqDiff,reduceCtorEq,decide_true,decide_false, h17]
        · simp -dsimp only [↓RE,RU,RL,if_true,if_false,↓reduceIte,Nat.reduceEqDiff,reduceCtorEq,decide_true,decide_false, h18]
        · simp -dsimp only [↓RE,RU,RL,if_true,if_false,↓reduceIte,Nat.reduceEqDiff,reduceCtorEq,decide_true,decide_false, h19]
        · simp -dsimp only [↓RE,RU,RL,if_true,if_false,↓reduceIte,Nat.reduceEqDiff,reduceCtorEq,decide_true,decide_false, h5]
      · have d0 : decide ((k : Int) = 0) = false := decide_eq_false (by omega)
        have w1 : IntKind.i64.wrap ((k : Int) - 1) = ((k - 1 : Nat) : Int) := by rw [wrap_i64_in (by omega) (by omega)]; omega
        obtain ⟨ad', hAd', hcb⟩ := (hR.grow hg).int (k := k - 1) (by omega)
        injection hAd' with hAd'
        subst hAd'
        try simp -dsimp only [↓RE,↓c_seq,RU,RL,if_true,if_false,forall_const,implies_true,Nat.reduceLeDiff,Nat.reduceLT,pureOp,binPure,intBin,strBin,eqPure,isConstO,unPure,sliceLo,sliceHi,slicePure,slice3Pure,lenPure,capPure,minPure,maxPure,buildP,resK,endV,yieldE,↓reduceIte,Nat.reduceEqDiff,reduceCtorEq,Nat.reduceAdd,Nat.reduceMul,Nat.reduceSub,Int.reduceLT,Int.reduceLE,Int.reduceToNat,Int.reduceAdd,Int.reduceSub,Int.reduceMul,ne_eq,decide_true,decide_false,tf17, h0, h4, h17, h18, h19, h5, hca, Int.toNat_natCast, d0, w1]
        refine ⟨⟨by omega, by omega⟩, ?_⟩
        try simp -dsimp only [↓RE,↓c_seq,RU,RL,if_true,if_false,forall_const,implies_true,Nat.reduceLeDiff,Nat.reduceLT,pureOp,binPure,intBin,strBin,eqPure,isConstO,unPure,sliceLo,sliceHi,slicePure,slice3Pure,lenPure,capPure,minPure,maxPure,buildP,resK,endV,yieldE,↓reduceIte,Nat.reduceEqDiff,reduceCtorEq,Nat.reduceAdd,Nat.reduceMul,Nat.reduceSub,Int.reduceLT,Int.reduceLE,Int.reduceToNat,Int.reduceAdd,Int.reduceSub,Int.reduceMul,ne_eq,decide_true,decide_false,tf17, h0, h4, h17, h18, h19, h5, hca, hcb, Int.toNat_natCast, d0, w1]
        refine ⟨fun hbad => ?_, fun hgood => ?_⟩
        · try simp -dsimp only [↓RE,↓c_seq,RU,RL,if_true,if_false,forall_const,implies_true,Nat.reduceLeDiff,Nat.reduceLT,pureOp,binPure,intBin,strBin,eqPure,isConstO,unPure,sliceLo,sliceHi,slicePure,slice3Pure,lenPure,capPure,minPure,maxPure,buildP,resK,endV,yieldE,↓reduceIte,Nat.reduceEqDiff,reduceCtorEq,Nat.reduceAdd,Nat.reduceMul,Nat.reduceSub,Int.reduceLT,Int.reduceLE,Int.reduceToNat,Int.reduceAdd,Int.reduceSub,Int.reduceMul,ne_eq,decide_true,decide_false,tf17, h0]
          refine fnew_ok (by decide) ?_
          try simp -dsimp only [↓RE,↓c_seq,RU,RL,if_true,if_false,forall_const,implies_true,Nat.reduceLeDiff,Nat.reduceLT,pureOp,binPure,intBin,strBin,eqPure,isConstO,unPure,sliceLo,sliceHi,slicePure,slice3Pure,lenPure,capPure,minPure,maxPure,buildP,resK,endV,yieldE,↓reduceIte,Nat.reduceEqDiff,reduceCtorEq,Nat.reduceAdd,Nat.reduceMul,Nat.reduceSub,Int.reduceLT,Int.reduceLE,Int.reduceToNat,Int.reduceAdd,Int.reduceSub,Int.reduceMul,ne_eq,decide_true,decide_false,tf17, h0]
          exact herr 2 w' (tErr_fall (by omega) hpos (by omega) hbad) hg
        · have hrs' : Rises l (k + 1) := fun i hi h0 => by
            by_cases e : i = k
            · subst e; omega
            · exact hrs i (by omega) h0
          have w2 : IntKind.u64.wrap (IntKind.u64.wrap (l.getD k 0) - IntKind.u64.wrap (l.getD (k - 1) 0)) = (l.getD k 0 - l.getD (k - 1) 0) % 18446744073709551616 := by rw [wrap_u64, wrap_u64, wrap_u64]; omega
          try simp -dsimp only [↓RE,↓c_seq,RU,RL,if_true,if_false,forall_const,implies_true,Nat.reduceLeDiff,Nat.reduceLT,pureOp,binPure,intBin,strBin,eqPure,isConstO,unPure,sliceLo,sliceHi,slicePure,slice3Pure,lenPure,capPure,minPure,maxPure,buildP,resK,endV,yieldE,↓reduceIte,Nat.reduceEqDiff,reduceCtorEq,Nat.reduceAdd,Nat.reduceMul,Nat.reduceSub,Int.reduceLT,Int.reduceLE,Int.reduceToNat,Int.reduceAdd,Int.reduceSub,Int.reduceMul,ne_eq,decide_true,decide_false,tf17, h0, h4, h17, h18, h19, h5, hca, hcb, Int.toNat_natCast, w1, w2]
          refine ⟨⟨by omega, by omega⟩, ?_⟩
          try simp -dsimp only [↓RE,↓c_seq,RU,RL,if_true,if_false,forall_const,implies_true,Nat.reduceLeDiff,Nat.reduceLT,pureOp,binPure,intBin,strBin,eqPure,isConstO,unPure,sliceLo,sliceHi,slicePure,slice3Pure,lenPure,capPure,minPure,maxPure,buildP,resK,endV,yieldE,↓reduceIte,Nat.reduceEqDiff,reduceCtorEq,Nat.reduceAdd,Nat.reduceMul,Nat.reduceSub,Int.reduceLT,Int.reduceLE,Int.reduceToNat,Int.reduceAdd,Int.reduceSub,Int.reduceMul,ne_eq,decide_true,decide_false,tf17, h0, h4, h17, h18, h19, h5, hca, hcb, Int.toNat_natCast, w1, w2]
          have fin5 : (l.getD k 0 - l.getD (k - 1) 0) % 18446744073709551616 = (if k + 1 ≤ 1 then 0 else (l.getD (k + 1 - 1) 0 - l.getD (k + 1 - 2) 0) % 18446744073709551616) := by
            rw [if_neg (by omega), show k + 1 - 1 = k by omega, show k + 1 - 2 = k - 1 by omega]
          refine ⟨fun h1' => ?_, fun h1' => ?_⟩
          · have h1 : k = 1 := by omega
            try simp -dsimp only [↓RE,↓c_seq,RU,RL,if_true,if_false,forall_const,implies_true,Nat.reduceLeDiff,Nat.reduceLT,pureOp,binPure,intBin,strBin,eqPure,isConstO,unPure,sliceLo,sliceHi,slicePure,slice3Pure,lenPure,capPure,minPure,maxPure,buildP,resK,endV,yieldE,↓reduceIte,Nat.reduceEqDiff,reduceCtorEq,Nat.reduceAdd,Nat.reduceMul,Nat.reduceSub,Int.reduceLT,Int.reduceLE,Int.reduceToNat,Int.reduceAdd,Int.reduceSub,Int.reduceMul,ne_eq,decide_true,decide_false,tf17, h0, h4, h17, h18, h19, h5]
            refine uint_ok (v := (l.getD k 0 - l.getD (k - 1) 0) % 18446744073709551616) hW (by omega) (by omega) (by omega) (fun w3 F3 hW3 hS3 => ?_)
            try simp -dsimp only [↓RE,↓c_seq,RU,RL,if_true,if_false,forall_const,implies_true,Nat.reduceLeDiff,Nat.reduceLT,pureOp,binPure,intBin,strBin,eqPure,isConstO,unPure,sliceLo,sliceHi,slicePure,slice3Pure,lenPure,capPure,minPure,maxPure,buildP,resK,endV,yieldE,↓reduceIte,Nat.reduceEqDiff,reduceCtorEq,Nat.reduceAdd,Nat.reduceMul,Nat.reduceSub,Int.reduceLT,Int.reduceLE,Int.reduceToNat,Int.reduceAdd,Int.reduceSub,Int.reduceMul,ne_eq,decide_true,decide_false,tf17, h0, h4, h17, h18, h19, h5]
            refine hold_intro ⟨?_, ?_, ?_, ?_, ?_, ?_, hrs', F3, by subst h1; exact hW3, hS3⟩
            · simp -dsimp only [↓RE,RU,RL,if_true,if_false,↓reduceIte,Nat.reduceEqDiff,reduceCtorEq,decide_true,decide_false, h0]
            · simp -dsimp only [↓RE,RU,RL,if_true,if_false,↓reduceIte,Nat.reduceEqDiff,reduceCtorEq,decide_true,decide_false, h4]
            · simp -dsimp only [↓RE,RU,RL,if_true,if_false,↓reduceIte,Nat.reduceEqDiff,reduceCtorEq,decide_true,decide_false, h17]
            · simp -dsimp only [↓RE,RU,RL,if_true,if_false,↓reduceIte,Nat.reduceEqDiff,reduceCtorEq,decide_true,decide_false, h18]
            · simp -dsimp only [↓RE,RU,RL,if_true,if_false,↓reduceIte,Nat.reduceEqDiff,reduceCtorEq,decide_true,decide_false, h19]
            · simp -dsimp only [↓RE,RU,RL,if_true,if_false,↓reduceIte,Nat.reduceEqDiff,reduceCtorEq,decide_true,decide_false, h5, hca, hcb, w2, fin5]
          · have hk1 : ¬ k ≤ 1 := by omega
            rw [if_neg hk1] at h5
            have w3 : IntKind.i64.wrap (IntKind.u64.wrap ((l.getD k 0 - l.getD (k - 1) 0) % 18446744073709551616 - (l.getD (k - 1) 0 - l.getD (k - 2) 0) % 18446744073709551616)) = tD l k := by
              unfold tD; rw [wrap_u64, wrap_i64, wrap_i64]; omega
            have htd : -9223372036854775808 ≤ tD l k ∧ tD l k < 9223372036854775808 := by unfold tD; rw [wrap_i64]; omega
            try simp -dsimp only [↓RE,↓c_seq,RU,RL,if_true,if_false,forall_const,implies_true,Nat.reduceLeDiff,Nat.reduceLT,pureOp,binPure,intBin,strBin,eqPure,isConstO,unPure,sliceLo,sliceHi,slicePure,slice3Pure,lenPure,capPure,minPure,maxPure,buildP,resK,endV,yieldE,↓reduceIte,Nat.reduceEqDiff,reduceCtorEq,Nat.reduceAdd,Nat.reduceMul,Nat.reduceSub,Int.reduceLT,Int.reduceLE,Int.reduceToNat,Int.reduceAdd,Int.reduceSub,Int.reduceMul,ne_eq,decide_true,decide_false,tf17, h0, h4, h17, h18, h19, h5, hk1, w3]
            refine difference_ok (d := tD l k) hW hok htd.1 htd.2 (by omega) (fun w4 F4 hW4 hS4 => ?_)
            try simp -dsimp only [↓RE,↓c_seq,RU,RL,if_true,if_false,forall_const,implies_true,Nat.reduceLeDiff,Nat.reduceLT,pureOp,binPure,intBin,strBin,eqPure,isConstO,unPure,sliceLo,sliceHi,slicePure,slice3Pure,lenPure,capPure,minPure,maxPure,buildP,resK,endV,yieldE,↓reduceIte,Nat.reduceEqDiff,reduceCtorEq,Nat.reduceAdd,Nat.reduceMul,Nat.reduceSub,Int.reduceLT,Int.reduceLE,Int.reduceToNat,Int.reduceAdd,Int.reduceSub,Int.reduceMul,ne_eq,decide_true,decide_false,tf17, h0, h4, h17, h18, h19, h5]
            refine hold_intro ⟨?_, ?_, ?_, ?_, ?_, ?_, hrs', F4, ?_, hS4⟩
            · simp -dsimp only [↓RE,RU,RL,if_true,if_false,↓reduceIte,Nat.reduceEqDiff,reduceCtorEq,decide_true,decide_false, h0]
            · simp -dsimp only [↓RE,RU,RL,if_true,if_false,↓reduceIte,Nat.reduceEqDiff,reduceCtorEq,decide_true,decide_false, h4]
            · simp -dsimp only [↓RE,RU,RL,if_true,if_false,↓reduceIte,Nat.reduceEqDiff,reduceCtorEq,decide_true,decide_false, h17]
            · simp -dsimp only [↓RE,RU,RL,if_true,if_false,↓reduceIte,Nat.reduceEqDiff,reduceCtorEq,decide_true,decide_false, h18]
            · simp -dsimp only [↓RE,RU,RL,if_true,if_false,↓reduceIte,Nat.reduceEqDiff,reduceCtorEq,decide_true,decide_false, h19]
            · simp -dsimp only [↓RE,RU,RL,if_true,if_false,↓reduceIte,Nat.reduceEqDiff,reduceCtorEq,decide_true,decide_false, h5, hca, hcb, w2, fin5]
            · obtain ⟨j, rfl⟩ : ∃ j, k = j + 2 := ⟨k - 2, by omega⟩
              exact hW4
    · rintro e2 w2 ⟨f0, f4, f17, f18, f19, f5, hrs2, F2, hW2, hS2⟩
      obtain ⟨s1, s2⟩ := step hS2
      try simp -dsimp only [↓RE,↓c_seq,RU,RL,if_true,if_false,forall_const,implies_true,Nat.reduceLeDiff,Nat.reduceLT,pureOp,binPure,intBin,strBin,eqPure,isConstO,unPure,sliceLo,sliceHi,slicePure,slice3Pure,lenPure,capPure,minPure,maxPure,buildP,resK,endV,yieldE,↓reduceIte,Nat.reduceEqDiff,reduceCtorEq,Nat.reduceAdd,Nat.reduceMul,Nat.reduceSub,Int.reduceLT,Int.reduceLE,Int.reduceToNat,Int.reduceAdd,Int.reduceSub,Int.reduceMul,ne_eq,decide_true,decide_false,tf17, f0, f4, f17, f18, f19, f5]
      refine hold_intro ⟨⟨?_, ?_, ?_, ?_, k + 1, F2, by omega, ?_, ?_, hrs2, hW2, s1, s2⟩, ?_⟩
      · simp -dsimp only [↓RE,RU,RL,if_true,if_false,↓reduceIte,Nat.reduceEqDiff,reduceCtorEq,decide_true,decide_false, f0]
      · simp -dsimp only [↓RE,RU,RL,if_true,if_false,↓reduceIte,Nat.reduceEqDiff,reduceCtorEq,decide_true,decide_false, f4]
      · simp -dsimp only [↓RE,RU,RL,if_true,if_false,↓reduceIte,Nat.reduceEqDiff,reduceCtorEq,decide_true,decide_false, f17]
      · simp -dsimp only [↓RE,RU,RL,if_true,if_false,↓reduceIte,Nat.reduceEqDiff,reduceCtorEq,decide_true,decide_false, f18]
      · simp -dsimp only [↓RE,RU,RL,if_true,if_false,↓reduceIte,Nat.reduceEqDiff,reduceCtorEq,decide_true,decide_false, f19]
        rw [wrap_i64_in (by omega) (by omega)]; rfl
      · simp -dsimp only [↓RE,RU,RL,if_true,if_false,↓reduceIte,Nat.reduceEqDiff,reduceCtorEq,decide_true,decide_false, f5]
      · simp -dsimp only [↓RE,RU,RL,if_true,if_false,↓reduceIte,Nat.reduceEqDiff,reduceCtorEq,decide_true,decide_false, f19, h19]
        rw [wrap_i64_in (by omega) (by omega), envInt_int, envInt_int]; omega
  · obtain rfl : k = n := by omega
    rw [← hl] at hrs
    try simp -dsimp only [↓RE,↓c_seq,RU,RL,if_true,if_false,forall_const,implies_true,Nat.reduceLeDiff,Nat.reduceLT,pureOp,binPure,intBin,strBin,eqPure,isConstO,unPure,sliceLo,sliceHi,slicePure,slice3Pure,lenPure,capPure,minPure,maxPure,buildP,resK,endV,yieldE,↓reduceIte,Nat.reduceEqDiff,reduceCtorEq,Nat.reduceAdd,Nat.reduceMul,Nat.reduceSub,Int.reduceLT,Int.reduceLE,Int.reduceToNat,Int.reduceAdd,Int.reduceSub,Int.reduceMul,ne_eq,decide_true,decide_false,tf17, h0, h4]
    refine bytes_ok hW (by omega) (fun w3 A3 c3 hO3 g3 hF3 => ?_)
    try simp -dsimp only [↓RE,↓c_seq,RU,RL,if_true,if_false,forall_const,implies_true,Nat.reduceLeDiff,Nat.reduceLT,pureOp,binPure,intBin,strBin,eqPure,isConstO,unPure,sliceLo,sliceHi,slicePure,slice3Pure,lenPure,capPure,minPure,maxPure,buildP,resK,endV,yieldE,↓reduceIte,Nat.reduceEqDiff,reduceCtorEq,Nat.reduceAdd,Nat.reduceMul,Nat.reduceSub,Int.reduceLT,Int.reduceLE,Int.reduceToNat,Int.reduceAdd,Int.reduceSub,Int.reduceMul,ne_eq,decide_true,decide_false,tf17, h0, h4]
    exact h (tErr_rise (by omega) hrs) w3 A3 c3 hO3 (hg.trans g3) (fun i hi => by have := hF3 i hi; have := hg.size; omega)

end Go.Proofs.Ytpocfghkolppmaa
