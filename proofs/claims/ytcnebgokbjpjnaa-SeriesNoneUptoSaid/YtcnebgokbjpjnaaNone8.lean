/- Steps at nil series, alike at nil series. -/
import Derived.Test.YtcnebgokbjpjnaaNil8
import Derived.Test.YtcnebgokbjpjnaaFork8
set_option linter.unusedVariables false
set_option linter.unusedSimpArgs false
set_option maxRecDepth 100000
namespace Go.Proofs.Ytcnebgokbjpjnaa
open Go

theorem step_no {w : World} {o : StepV} (hX : Rd w o.A o.m 3 (o.l.flatMap scells)) (hn : o.m ≤ 1000000000000) {R : VWK}
    (h : ∀ w', Grow w w' → R (.bool true) w') :
    CallsV Try.prog 25 [.pointer none, .pointer none, .agg o.cells.toArray] w R := by
  have hb := Blk.new' w 31 #[.int .i64 o.k, .int .i64 o.t, .int .i64 o.u, .int .u8 o.v.1, .int .i64 o.v.2, .slice o.A o.m o.c]
  have g1 := Grow.alloc w (.cells #[.int .i64 o.k, .int .i64 o.t, .int .i64 o.u, .int .u8 o.v.1, .int .i64 o.v.2, .slice o.A o.m o.c] 31)
  generalize hw1 : w.alloc (.cells #[.int .i64 o.k, .int .i64 o.t, .int .i64 o.u, .int .u8 o.v.1, .int .i64 o.v.2, .slice o.A o.m o.c] 31) = w1 at hb g1
  have hs1 := g1.size
  have hb : Blk w1 w.heap.size 31 o.cells := hb
  have cc : ∀ w2, Grow w1 w2 → w2.cell? ⟨w.heap.size, 0, none⟩ = some (.int .i64 o.k) ∧ w2.cell? ⟨w.heap.size, 1, none⟩ = some (.int .i64 o.t) ∧ w2.cell? ⟨w.heap.size, 2, none⟩ = some (.int .i64 o.u) ∧ w2.cell? ⟨w.heap.size, 5, none⟩ = some (.slice o.A o.m o.c) := fun w2 g =>
    ⟨((hb.grow g).cell 0).trans rfl, ((hb.grow g).cell 1).trans rfl, ((hb.grow g).cell 2).trans rfl, ((hb.grow g).cell 5).trans rfl⟩
  obtain ⟨c0, c1, c2, c5⟩ := cc w1 (Keep.refl _ _)
  refine calls_of_wpC mixed Try.func25 rfl (by kernel_rfl) ?_
  intro e he
  have he0 := he 0
  have he1 := he 1
  have he2 := he 2
  simp only [List.getD_cons_zero, List.getD_cons_succ] at he0 he1 he2
  clear he
  simp only [StepV.cells] at he2
  rw [c_seq]
  simp -dsimp only [↓RE,RU,RL,if_true,if_false,forall_const,implies_true,Nat.reduceLeDiff,Nat.reduceLT,pureOp,binPure,intBin,strBin,eqPure,isConstO,unPure,sliceLo,sliceHi,slicePure,slice3Pure,lenPure,capPure,minPure,maxPure,buildP,resK,endV,yieldE,↓reduceIte,Nat.reduceEqDiff,reduceCtorEq,Nat.reduceAdd,Nat.reduceMul,Nat.reduceSub,Int.reduceLT,Int.reduceLE,Int.reduceToNat,Int.reduceAdd,Int.reduceSub,Int.reduceMul,ne_eq,decide_true,decide_false,tf25, he2, hw1]
  refine c_gen (fun e' => e' 0 = .pointer none ∧ e' 1 = .pointer none ∧ e' 5 = .pointer (some ⟨w.heap.size, 0, none⟩)) ⟨?_, ?_, ?_⟩ ?_
  · simp -dsimp only [↓RE,RU,RL,if_true,if_false,↓reduceIte,Nat.reduceEqDiff,reduceCtorEq,decide_true,decide_false, he0]
  · simp -dsimp only [↓RE,RU,RL,if_true,if_false,↓reduceIte,Nat.reduceEqDiff,reduceCtorEq,decide_true,decide_false, he1]
  · simp -dsimp only [↓RE,RU,RL,if_true,if_false,↓reduceIte,Nat.reduceEqDiff,reduceCtorEq,decide_true,decide_false, he1]
  clear he0 he1 he2 e
  rintro e ⟨he0, he1, he5⟩
  rw [c_seq, c_seq]
  simp -dsimp only [↓RE,RU,RL,if_true,if_false,forall_const,implies_true,Nat.reduceLeDiff,Nat.reduceLT,pureOp,binPure,intBin,strBin,eqPure,isConstO,unPure,sliceLo,sliceHi,slicePure,slice3Pure,lenPure,capPure,minPure,maxPure,buildP,resK,endV,yieldE,↓reduceIte,Nat.reduceEqDiff,reduceCtorEq,Nat.reduceAdd,Nat.reduceMul,Nat.reduceSub,Int.reduceLT,Int.reduceLE,Int.reduceToNat,Int.reduceAdd,Int.reduceSub,Int.reduceMul,ne_eq,decide_true,decide_false,tf25, he5, add_lit', Nat.zero_add, c0]
  rw [c_seq]
  cases hk0 : decide (o.k = 0) with
  | true =>
    simp -dsimp only [↓RE,RU,RL,if_true,if_false,forall_const,implies_true,Nat.reduceLeDiff,Nat.reduceLT,pureOp,binPure,intBin,strBin,eqPure,isConstO,unPure,sliceLo,sliceHi,slicePure,slice3Pure,lenPure,capPure,minPure,maxPure,buildP,resK,endV,yieldE,↓reduceIte,Nat.reduceEqDiff,reduceCtorEq,Nat.reduceAdd,Nat.reduceMul,Nat.reduceSub,Int.reduceLT,Int.reduceLE,Int.reduceToNat,Int.reduceAdd,Int.reduceSub,Int.reduceMul,ne_eq,decide_true,decide_false,tf25, hk0]
    rw [c_seq]
    simp -dsimp only [↓RE,RU,RL,if_true,if_false,forall_const,implies_true,Nat.reduceLeDiff,Nat.reduceLT,pureOp,binPure,intBin,strBin,eqPure,isConstO,unPure,sliceLo,sliceHi,slicePure,slice3Pure,lenPure,capPure,minPure,maxPure,buildP,resK,endV,yieldE,↓reduceIte,Nat.reduceEqDiff,reduceCtorEq,Nat.reduceAdd,Nat.reduceMul,Nat.reduceSub,Int.reduceLT,Int.reduceLE,Int.reduceToNat,Int.reduceAdd,Int.reduceSub,Int.reduceMul,ne_eq,decide_true,decide_false,tf25, he0, he5, add_lit', Nat.zero_add, c1]
    refine hb.aggK (o := 3) (by simp [StepV.cells]) ?_
    simp -dsimp only [↓RE,RU,RL,if_true,if_false,forall_const,implies_true,Nat.reduceLeDiff,Nat.reduceLT,pureOp,binPure,intBin,strBin,eqPure,isConstO,unPure,sliceLo,sliceHi,slicePure,slice3Pure,lenPure,capPure,minPure,maxPure,buildP,resK,endV,yieldE,↓reduceIte,Nat.reduceEqDiff,reduceCtorEq,Nat.reduceAdd,Nat.reduceMul,Nat.reduceSub,Int.reduceLT,Int.reduceLE,Int.reduceToNat,Int.reduceAdd,Int.reduceSub,Int.reduceMul,ne_eq,decide_true,decide_false,tf25, he0, he5]
    refine put_no (k := o.v.1) (x := o.v.2) (fun w2 g2 => ?_)
    simp -dsimp only [↓RE,RU,RL,if_true,if_false,forall_const,implies_true,Nat.reduceLeDiff,Nat.reduceLT,pureOp,binPure,intBin,strBin,eqPure,isConstO,unPure,sliceLo,sliceHi,slicePure,slice3Pure,lenPure,capPure,minPure,maxPure,buildP,resK,endV,yieldE,↓reduceIte,Nat.reduceEqDiff,reduceCtorEq,Nat.reduceAdd,Nat.reduceMul,Nat.reduceSub,Int.reduceLT,Int.reduceLE,Int.reduceToNat,Int.reduceAdd,Int.reduceSub,Int.reduceMul,ne_eq,decide_true,decide_false,tf25, he0, he5]
    refine new2 (fun w3 hb3 g3 => ?_) rfl rfl
    have g23 := g2.trans g3
    have hbw := hb.grow g23
    obtain ⟨_, d1, _, _⟩ := cc w3 g23
    refine os_gen (fun e' => e' 1 = .pointer none ∧ e' 5 = .pointer (some ⟨w.heap.size, 0, none⟩) ∧ e' 7 = .pointer (some ⟨w2.heap.size, 0, none⟩) ∧ e' 32 = .bool false) ⟨?_, ?_, ?_, ?_⟩ ?_
    · simp -dsimp only [↓RE,RU,RL,if_true,if_false,↓reduceIte,Nat.reduceEqDiff,reduceCtorEq,decide_true,decide_false, he1]
    · simp -dsimp only [↓RE,RU,RL,if_true,if_false,↓reduceIte,Nat.reduceEqDiff,reduceCtorEq,decide_true,decide_false, he5]
    · simp -dsimp only [↓RE,RU,RL,if_true,if_false,↓reduceIte,Nat.reduceEqDiff,reduceCtorEq,decide_true,decide_false, he0]
    · simp -dsimp only [↓RE,RU,RL,if_true,if_false,↓reduceIte,Nat.reduceEqDiff,reduceCtorEq,decide_true,decide_false, he0]
    clear he0 he1 he5 e
    rintro e ⟨he1, he5, heA, heB⟩
    simp -dsimp only [↓RE,RU,RL,if_true,if_false,forall_const,implies_true,Nat.reduceLeDiff,Nat.reduceLT,pureOp,binPure,intBin,strBin,eqPure,isConstO,unPure,sliceLo,sliceHi,slicePure,slice3Pure,lenPure,capPure,minPure,maxPure,buildP,resK,endV,yieldE,↓reduceIte,Nat.reduceEqDiff,reduceCtorEq,Nat.reduceAdd,Nat.reduceMul,Nat.reduceSub,Int.reduceLT,Int.reduceLE,Int.reduceToNat,Int.reduceAdd,Int.reduceSub,Int.reduceMul,ne_eq,decide_true,decide_false,tf25, heB]
    rw [c_seq]
    simp -dsimp only [↓RE,RU,RL,if_true,if_false,forall_const,implies_true,Nat.reduceLeDiff,Nat.reduceLT,pureOp,binPure,intBin,strBin,eqPure,isConstO,unPure,sliceLo,sliceHi,slicePure,slice3Pure,lenPure,capPure,minPure,maxPure,buildP,resK,endV,yieldE,↓reduceIte,Nat.reduceEqDiff,reduceCtorEq,Nat.reduceAdd,Nat.reduceMul,Nat.reduceSub,Int.reduceLT,Int.reduceLE,Int.reduceToNat,Int.reduceAdd,Int.reduceSub,Int.reduceMul,ne_eq,decide_true,decide_false,tf25, he1, he5, add_lit', Nat.zero_add, d1]
    refine hbw.aggK (o := 3) (by simp [StepV.cells]) ?_
    simp -dsimp only [↓RE,RU,RL,if_true,if_false,forall_const,implies_true,Nat.reduceLeDiff,Nat.reduceLT,pureOp,binPure,intBin,strBin,eqPure,isConstO,unPure,sliceLo,sliceHi,slicePure,slice3Pure,lenPure,capPure,minPure,maxPure,buildP,resK,endV,yieldE,↓reduceIte,Nat.reduceEqDiff,reduceCtorEq,Nat.reduceAdd,Nat.reduceMul,Nat.reduceSub,Int.reduceLT,Int.reduceLE,Int.reduceToNat,Int.reduceAdd,Int.reduceSub,Int.reduceMul,ne_eq,decide_true,decide_false,tf25, he1, he5]
    refine rput_no (k := o.v.1) (x := o.v.2) (fun w4 g4 => ?_)
    simp -dsimp only [↓RE,RU,RL,if_true,if_false,forall_const,implies_true,Nat.reduceLeDiff,Nat.reduceLT,pureOp,binPure,intBin,strBin,eqPure,isConstO,unPure,sliceLo,sliceHi,slicePure,slice3Pure,lenPure,capPure,minPure,maxPure,buildP,resK,endV,yieldE,↓reduceIte,Nat.reduceEqDiff,reduceCtorEq,Nat.reduceAdd,Nat.reduceMul,Nat.reduceSub,Int.reduceLT,Int.reduceLE,Int.reduceToNat,Int.reduceAdd,Int.reduceSub,Int.reduceMul,ne_eq,decide_true,decide_false,tf25, he1, he5]
    refine new2 (fun w5 hb5 g5 => ?_) rfl rfl
    have hb35 := (hb3.grow g4).grow g5
    simp -dsimp only [↓RE,RU,RL,if_true,if_false,forall_const,implies_true,Nat.reduceLeDiff,Nat.reduceLT,pureOp,binPure,intBin,strBin,eqPure,isConstO,unPure,sliceLo,sliceHi,slicePure,slice3Pure,lenPure,capPure,minPure,maxPure,buildP,resK,endV,yieldE,↓reduceIte,Nat.reduceEqDiff,reduceCtorEq,Nat.reduceAdd,Nat.reduceMul,Nat.reduceSub,Int.reduceLT,Int.reduceLE,Int.reduceToNat,Int.reduceAdd,Int.reduceSub,Int.reduceMul,ne_eq,decide_true,decide_false,tf25, heA, heB]
    rw [c_seq]
    simp -dsimp only [↓RE,RU,RL,if_true,if_false,forall_const,implies_true,Nat.reduceLeDiff,Nat.reduceLT,pureOp,binPure,intBin,strBin,eqPure,isConstO,unPure,sliceLo,sliceHi,slicePure,slice3Pure,lenPure,capPure,minPure,maxPure,buildP,resK,endV,yieldE,↓reduceIte,Nat.reduceEqDiff,reduceCtorEq,Nat.reduceAdd,Nat.reduceMul,Nat.reduceSub,Int.reduceLT,Int.reduceLE,Int.reduceToNat,Int.reduceAdd,Int.reduceSub,Int.reduceMul,ne_eq,decide_true,decide_false,tf25, heA, heB]
    refine blk_agg2 hb35 ?_
    simp -dsimp only [↓RE,RU,RL,if_true,if_false,forall_const,implies_true,Nat.reduceLeDiff,Nat.reduceLT,pureOp,binPure,intBin,strBin,eqPure,isConstO,unPure,sliceLo,sliceHi,slicePure,slice3Pure,lenPure,capPure,minPure,maxPure,buildP,resK,endV,yieldE,↓reduceIte,Nat.reduceEqDiff,reduceCtorEq,Nat.reduceAdd,Nat.reduceMul,Nat.reduceSub,Int.reduceLT,Int.reduceLE,Int.reduceToNat,Int.reduceAdd,Int.reduceSub,Int.reduceMul,ne_eq,decide_true,decide_false,tf25, heA, heB]
    refine blk_agg2 hb5 ?_
    simp -dsimp only [↓RE,RU,RL,if_true,if_false,forall_const,implies_true,Nat.reduceLeDiff,Nat.reduceLT,pureOp,binPure,intBin,strBin,eqPure,isConstO,unPure,sliceLo,sliceHi,slicePure,slice3Pure,lenPure,capPure,minPure,maxPure,buildP,resK,endV,yieldE,↓reduceIte,Nat.reduceEqDiff,reduceCtorEq,Nat.reduceAdd,Nat.reduceMul,Nat.reduceSub,Int.reduceLT,Int.reduceLE,Int.reduceToNat,Int.reduceAdd,Int.reduceSub,Int.reduceMul,ne_eq,decide_true,decide_false,tf25, heA, heB, eq_self, and_self, decide_true, b_eq, Option.map_some, boolBeq]
    exact h w5 ((g1.trans g23).trans (g4.trans g5))
  | false =>
    simp -dsimp only [↓RE,RU,RL,if_true,if_false,forall_const,implies_true,Nat.reduceLeDiff,Nat.reduceLT,pureOp,binPure,intBin,strBin,eqPure,isConstO,unPure,sliceLo,sliceHi,slicePure,slice3Pure,lenPure,capPure,minPure,maxPure,buildP,resK,endV,yieldE,↓reduceIte,Nat.reduceEqDiff,reduceCtorEq,Nat.reduceAdd,Nat.reduceMul,Nat.reduceSub,Int.reduceLT,Int.reduceLE,Int.reduceToNat,Int.reduceAdd,Int.reduceSub,Int.reduceMul,ne_eq,decide_true,decide_false,tf25, hk0]
    rw [c_seq]
    cases hk1 : decide (o.k = 1) with
    | true =>
      simp -dsimp only [↓RE,RU,RL,if_true,if_false,forall_const,implies_true,Nat.reduceLeDiff,Nat.reduceLT,pureOp,binPure,intBin,strBin,eqPure,isConstO,unPure,sliceLo,sliceHi,slicePure,slice3Pure,lenPure,capPure,minPure,maxPure,buildP,resK,endV,yieldE,↓reduceIte,Nat.reduceEqDiff,reduceCtorEq,Nat.reduceAdd,Nat.reduceMul,Nat.reduceSub,Int.reduceLT,Int.reduceLE,Int.reduceToNat,Int.reduceAdd,Int.reduceSub,Int.reduceMul,ne_eq,decide_true,decide_false,tf25, hk1]
      rw [c_seq]
      simp -dsimp only [↓RE,RU,RL,if_true,if_false,forall_const,implies_true,Nat.reduceLeDiff,Nat.reduceLT,pureOp,binPure,intBin,strBin,eqPure,isConstO,unPure,sliceLo,sliceHi,slicePure,slice3Pure,lenPure,capPure,minPure,maxPure,buildP,resK,endV,yieldE,↓reduceIte,Nat.reduceEqDiff,reduceCtorEq,Nat.reduceAdd,Nat.reduceMul,Nat.reduceSub,Int.reduceLT,Int.reduceLE,Int.reduceToNat,Int.reduceAdd,Int.reduceSub,Int.reduceMul,ne_eq,decide_true,decide_false,tf25, he0, he5, add_lit', Nat.zero_add, c1]
      refine cut_no (fun w2 g2 => ?_)
      simp -dsimp only [↓RE,RU,RL,if_true,if_false,forall_const,implies_true,Nat.reduceLeDiff,Nat.reduceLT,pureOp,binPure,intBin,strBin,eqPure,isConstO,unPure,sliceLo,sliceHi,slicePure,slice3Pure,lenPure,capPure,minPure,maxPure,buildP,resK,endV,yieldE,↓reduceIte,Nat.reduceEqDiff,reduceCtorEq,Nat.reduceAdd,Nat.reduceMul,Nat.reduceSub,Int.reduceLT,Int.reduceLE,Int.reduceToNat,Int.reduceAdd,Int.reduceSub,Int.reduceMul,ne_eq,decide_true,decide_false,tf25, he0, he5]
      refine new2 (fun w3 hb3 g3 => ?_) rfl rfl
      have g23 := g2.trans g3
      have hbw := hb.grow g23
      obtain ⟨_, d1, _, _⟩ := cc w3 g23
      refine os_gen (fun e' => e' 1 = .pointer none ∧ e' 5 = .pointer (some ⟨w.heap.size, 0, none⟩) ∧ e' 11 = .pointer (some ⟨w2.heap.size, 0, none⟩) ∧ e' 58 = .bool false) ⟨?_, ?_, ?_, ?_⟩ ?_
      · simp -dsimp only [↓RE,RU,RL,if_true,if_false,↓reduceIte,Nat.reduceEqDiff,reduceCtorEq,decide_true,decide_false, he1]
      · simp -dsimp only [↓RE,RU,RL,if_true,if_false,↓reduceIte,Nat.reduceEqDiff,reduceCtorEq,decide_true,decide_false, he5]
      · simp -dsimp only [↓RE,RU,RL,if_true,if_false,↓reduceIte,Nat.reduceEqDiff,reduceCtorEq,decide_true,decide_false, he0]
      · simp -dsimp only [↓RE,RU,RL,if_true,if_false,↓reduceIte,Nat.reduceEqDiff,reduceCtorEq,decide_true,decide_false, he0]
      clear he0 he1 he5 e
      rintro e ⟨he1, he5, heA, heB⟩
      simp -dsimp only [↓RE,RU,RL,if_true,if_false,forall_const,implies_true,Nat.reduceLeDiff,Nat.reduceLT,pureOp,binPure,intBin,strBin,eqPure,isConstO,unPure,sliceLo,sliceHi,slicePure,slice3Pure,lenPure,capPure,minPure,maxPure,buildP,resK,endV,yieldE,↓reduceIte,Nat.reduceEqDiff,reduceCtorEq,Nat.reduceAdd,Nat.reduceMul,Nat.reduceSub,Int.reduceLT,Int.reduceLE,Int.reduceToNat,Int.reduceAdd,Int.reduceSub,Int.reduceMul,ne_eq,decide_true,decide_false,tf25, heB]
      rw [c_seq]
      simp -dsimp only [↓RE,RU,RL,if_true,if_false,forall_const,implies_true,Nat.reduceLeDiff,Nat.reduceLT,pureOp,binPure,intBin,strBin,eqPure,isConstO,unPure,sliceLo,sliceHi,slicePure,slice3Pure,lenPure,capPure,minPure,maxPure,buildP,resK,endV,yieldE,↓reduceIte,Nat.reduceEqDiff,reduceCtorEq,Nat.reduceAdd,Nat.reduceMul,Nat.reduceSub,Int.reduceLT,Int.reduceLE,Int.reduceToNat,Int.reduceAdd,Int.reduceSub,Int.reduceMul,ne_eq,decide_true,decide_false,tf25, he1, he5, add_lit', Nat.zero_add, d1]
      refine rcut_no (fun w4 g4 => ?_)
      simp -dsimp only [↓RE,RU,RL,if_true,if_false,forall_const,implies_true,Nat.reduceLeDiff,Nat.reduceLT,pureOp,binPure,intBin,strBin,eqPure,isConstO,unPure,sliceLo,sliceHi,slicePure,slice3Pure,lenPure,capPure,minPure,maxPure,buildP,resK,endV,yieldE,↓reduceIte,Nat.reduceEqDiff,reduceCtorEq,Nat.reduceAdd,Nat.reduceMul,Nat.reduceSub,Int.reduceLT,Int.reduceLE,Int.reduceToNat,Int.reduceAdd,Int.reduceSub,Int.reduceMul,ne_eq,decide_true,decide_false,tf25, he1, he5]
      refine new2 (fun w5 hb5 g5 => ?_) rfl rfl
      have hb35 := (hb3.grow g4).grow g5
      simp -dsimp only [↓RE,RU,RL,if_true,if_false,forall_const,implies_true,Nat.reduceLeDiff,Nat.reduceLT,pureOp,binPure,intBin,strBin,eqPure,isConstO,unPure,sliceLo,sliceHi,slicePure,slice3Pure,lenPure,capPure,minPure,maxPure,buildP,resK,endV,yieldE,↓reduceIte,Nat.reduceEqDiff,reduceCtorEq,Nat.reduceAdd,Nat.reduceMul,Nat.reduceSub,Int.reduceLT,Int.reduceLE,Int.reduceToNat,Int.reduceAdd,Int.reduceSub,Int.reduceMul,ne_eq,decide_true,decide_false,tf25, heA, heB]
      rw [c_seq]
      simp -dsimp only [↓RE,RU,RL,if_true,if_false,forall_const,implies_true,Nat.reduceLeDiff,Nat.reduceLT,pureOp,binPure,intBin,strBin,eqPure,isConstO,unPure,sliceLo,sliceHi,slicePure,slice3Pure,lenPure,capPure,minPure,maxPure,buildP,resK,endV,yieldE,↓reduceIte,Nat.reduceEqDiff,reduceCtorEq,Nat.reduceAdd,Nat.reduceMul,Nat.reduceSub,Int.reduceLT,Int.reduceLE,Int.reduceToNat,Int.reduceAdd,Int.reduceSub,Int.reduceMul,ne_eq,decide_true,decide_false,tf25, heA, heB]
      refine blk_agg2 hb35 ?_
      simp -dsimp only [↓RE,RU,RL,if_true,if_false,forall_const,implies_true,Nat.reduceLeDiff,Nat.reduceLT,pureOp,binPure,intBin,strBin,eqPure,isConstO,unPure,sliceLo,sliceHi,slicePure,slice3Pure,lenPure,capPure,minPure,maxPure,buildP,resK,endV,yieldE,↓reduceIte,Nat.reduceEqDiff,reduceCtorEq,Nat.reduceAdd,Nat.reduceMul,Nat.reduceSub,Int.reduceLT,Int.reduceLE,Int.reduceToNat,Int.reduceAdd,Int.reduceSub,Int.reduceMul,ne_eq,decide_true,decide_false,tf25, heA, heB]
      refine blk_agg2 hb5 ?_
      simp -dsimp only [↓RE,RU,RL,if_true,if_false,forall_const,implies_true,Nat.reduceLeDiff,Nat.reduceLT,pureOp,binPure,intBin,strBin,eqPure,isConstO,unPure,sliceLo,sliceHi,slicePure,slice3Pure,lenPure,capPure,minPure,maxPure,buildP,resK,endV,yieldE,↓reduceIte,Nat.reduceEqDiff,reduceCtorEq,Nat.reduceAdd,Nat.reduceMul,Nat.reduceSub,Int.reduceLT,Int.reduceLE,Int.reduceToNat,Int.reduceAdd,Int.reduceSub,Int.reduceMul,ne_eq,decide_true,decide_false,tf25, heA, heB, eq_self, and_self, decide_true, b_eq, Option.map_some, boolBeq]
      exact h w5 ((g1.trans g23).trans (g4.trans g5))
    | false =>
      simp -dsimp only [↓RE,RU,RL,if_true,if_false,forall_const,implies_true,Nat.reduceLeDiff,Nat.reduceLT,pureOp,binPure,intBin,strBin,eqPure,isConstO,unPure,sliceLo,sliceHi,slicePure,slice3Pure,lenPure,capPure,minPure,maxPure,buildP,resK,endV,yieldE,↓reduceIte,Nat.reduceEqDiff,reduceCtorEq,Nat.reduceAdd,Nat.reduceMul,Nat.reduceSub,Int.reduceLT,Int.reduceLE,Int.reduceToNat,Int.reduceAdd,Int.reduceSub,Int.reduceMul,ne_eq,decide_true,decide_false,tf25, hk1]
      rw [c_seq]
      cases hk2 : decide (o.k = 2) with
      | true =>
        simp -dsimp only [↓RE,RU,RL,if_true,if_false,forall_const,implies_true,Nat.reduceLeDiff,Nat.reduceLT,pureOp,binPure,intBin,strBin,eqPure,isConstO,unPure,sliceLo,sliceHi,slicePure,slice3Pure,lenPure,capPure,minPure,maxPure,buildP,resK,endV,yieldE,↓reduceIte,Nat.reduceEqDiff,reduceCtorEq,Nat.reduceAdd,Nat.reduceMul,Nat.reduceSub,Int.reduceLT,Int.reduceLE,Int.reduceToNat,Int.reduceAdd,Int.reduceSub,Int.reduceMul,ne_eq,decide_true,decide_false,tf25, hk2]
        rw [c_seq]
        simp -dsimp only [↓RE,RU,RL,if_true,if_false,forall_const,implies_true,Nat.reduceLeDiff,Nat.reduceLT,pureOp,binPure,intBin,strBin,eqPure,isConstO,unPure,sliceLo,sliceHi,slicePure,slice3Pure,lenPure,capPure,minPure,maxPure,buildP,resK,endV,yieldE,↓reduceIte,Nat.reduceEqDiff,reduceCtorEq,Nat.reduceAdd,Nat.reduceMul,Nat.reduceSub,Int.reduceLT,Int.reduceLE,Int.reduceToNat,Int.reduceAdd,Int.reduceSub,Int.reduceMul,ne_eq,decide_true,decide_false,tf25, he0, he5, add_lit', Nat.zero_add, c1, c2]
        refine del_no ?_
        simp -dsimp only [↓RE,RU,RL,if_true,if_false,forall_const,implies_true,Nat.reduceLeDiff,Nat.reduceLT,pureOp,binPure,intBin,strBin,eqPure,isConstO,unPure,sliceLo,sliceHi,slicePure,slice3Pure,lenPure,capPure,minPure,maxPure,buildP,resK,endV,yieldE,↓reduceIte,Nat.reduceEqDiff,reduceCtorEq,Nat.reduceAdd,Nat.reduceMul,Nat.reduceSub,Int.reduceLT,Int.reduceLE,Int.reduceToNat,Int.reduceAdd,Int.reduceSub,Int.reduceMul,ne_eq,decide_true,decide_false,tf25, he0]
        rw [c_seq]
        simp -dsimp only [↓RE,RU,RL,if_true,if_false,forall_const,implies_true,Nat.reduceLeDiff,Nat.reduceLT,pureOp,binPure,intBin,strBin,eqPure,isConstO,unPure,sliceLo,sliceHi,slicePure,slice3Pure,lenPure,capPure,minPure,maxPure,buildP,resK,endV,yieldE,↓reduceIte,Nat.reduceEqDiff,reduceCtorEq,Nat.reduceAdd,Nat.reduceMul,Nat.reduceSub,Int.reduceLT,Int.reduceLE,Int.reduceToNat,Int.reduceAdd,Int.reduceSub,Int.reduceMul,ne_eq,decide_true,decide_false,tf25, he1, he5, add_lit', Nat.zero_add, c1, c2]
        refine rdel_no ?_
        try simp -dsimp only [↓RE,↓c_seq,RU,RL,if_true,if_false,forall_const,implies_true,Nat.reduceLeDiff,Nat.reduceLT,pureOp,binPure,intBin,strBin,eqPure,isConstO,unPure,sliceLo,sliceHi,slicePure,slice3Pure,lenPure,capPure,minPure,maxPure,buildP,resK,endV,yieldE,↓reduceIte,Nat.reduceEqDiff,reduceCtorEq,Nat.reduceAdd,Nat.reduceMul,Nat.reduceSub,Int.reduceLT,Int.reduceLE,Int.reduceToNat,Int.reduceAdd,Int.reduceSub,Int.reduceMul,ne_eq,decide_true,decide_false,tf25, he1]
        refine msameSamples_ok (xs := []) (ys := []) (srow_nil _).rd (srow_nil _).rd (by omega) (by omega) (fun w4 g4 => ?_)
        rw [decide_eq_true rfl]
        try simp -dsimp only [↓RE,↓c_seq,RU,RL,if_true,if_false,forall_const,implies_true,Nat.reduceLeDiff,Nat.reduceLT,pureOp,binPure,intBin,strBin,eqPure,isConstO,unPure,sliceLo,sliceHi,slicePure,slice3Pure,lenPure,capPure,minPure,maxPure,buildP,resK,endV,yieldE,↓reduceIte,Nat.reduceEqDiff,reduceCtorEq,Nat.reduceAdd,Nat.reduceMul,Nat.reduceSub,Int.reduceLT,Int.reduceLE,Int.reduceToNat,Int.reduceAdd,Int.reduceSub,Int.reduceMul,ne_eq,decide_true,decide_false,tf25, he1]
        exact h w4 (g1.trans g4)
      | false =>
        simp -dsimp only [↓RE,RU,RL,if_true,if_false,forall_const,implies_true,Nat.reduceLeDiff,Nat.reduceLT,pureOp,binPure,intBin,strBin,eqPure,isConstO,unPure,sliceLo,sliceHi,slicePure,slice3Pure,lenPure,capPure,minPure,maxPure,buildP,resK,endV,yieldE,↓reduceIte,Nat.reduceEqDiff,reduceCtorEq,Nat.reduceAdd,Nat.reduceMul,Nat.reduceSub,Int.reduceLT,Int.reduceLE,Int.reduceToNat,Int.reduceAdd,Int.reduceSub,Int.reduceMul,ne_eq,decide_true,decide_false,tf25, hk2]
        rw [c_seq]
        cases hk3 : decide (o.k = 3) with
        | true =>
          have hol := hX.flat3
          simp -dsimp only [↓RE,RU,RL,if_true,if_false,forall_const,implies_true,Nat.reduceLeDiff,Nat.reduceLT,pureOp,binPure,intBin,strBin,eqPure,isConstO,unPure,sliceLo,sliceHi,slicePure,slice3Pure,lenPure,capPure,minPure,maxPure,buildP,resK,endV,yieldE,↓reduceIte,Nat.reduceEqDiff,reduceCtorEq,Nat.reduceAdd,Nat.reduceMul,Nat.reduceSub,Int.reduceLT,Int.reduceLE,Int.reduceToNat,Int.reduceAdd,Int.reduceSub,Int.reduceMul,ne_eq,decide_true,decide_false,tf25, hk3]
          rw [c_seq]
          simp -dsimp only [↓RE,RU,RL,if_true,if_false,forall_const,implies_true,Nat.reduceLeDiff,Nat.reduceLT,pureOp,binPure,intBin,strBin,eqPure,isConstO,unPure,sliceLo,sliceHi,slicePure,slice3Pure,lenPure,capPure,minPure,maxPure,buildP,resK,endV,yieldE,↓reduceIte,Nat.reduceEqDiff,reduceCtorEq,Nat.reduceAdd,Nat.reduceMul,Nat.reduceSub,Int.reduceLT,Int.reduceLE,Int.reduceToNat,Int.reduceAdd,Int.reduceSub,Int.reduceMul,ne_eq,decide_true,decide_false,tf25, he5, add_lit', Nat.zero_add, c5]
          refine hands_ok (hX.grow g1) (by omega) (fun w2 H hH g2 hgH => ?_)
          simp -dsimp only [↓RE,RU,RL,if_true,if_false,forall_const,implies_true,Nat.reduceLeDiff,Nat.reduceLT,pureOp,binPure,intBin,strBin,eqPure,isConstO,unPure,sliceLo,sliceHi,slicePure,slice3Pure,lenPure,capPure,minPure,maxPure,buildP,resK,endV,yieldE,↓reduceIte,Nat.reduceEqDiff,reduceCtorEq,Nat.reduceAdd,Nat.reduceMul,Nat.reduceSub,Int.reduceLT,Int.reduceLE,Int.reduceToNat,Int.reduceAdd,Int.reduceSub,Int.reduceMul,ne_eq,decide_true,decide_false,tf25, he5]
          rw [c_seq]
          simp -dsimp only [↓RE,RU,RL,if_true,if_false,forall_const,implies_true,Nat.reduceLeDiff,Nat.reduceLT,pureOp,binPure,intBin,strBin,eqPure,isConstO,unPure,sliceLo,sliceHi,slicePure,slice3Pure,lenPure,capPure,minPure,maxPure,buildP,resK,endV,yieldE,↓reduceIte,Nat.reduceEqDiff,reduceCtorEq,Nat.reduceAdd,Nat.reduceMul,Nat.reduceSub,Int.reduceLT,Int.reduceLE,Int.reduceToNat,Int.reduceAdd,Int.reduceSub,Int.reduceMul,ne_eq,decide_true,decide_false,tf25, he0]
          refine load_no ?_
          obtain ⟨_, _, _, d5⟩ := cc w2 g2
          refine os_gen (fun e' => e' 1 = .pointer none ∧ e' 5 = .pointer (some ⟨w.heap.size, 0, none⟩) ∧ e' 16 = .slice (some ⟨H, 0, none⟩) o.m (o.m + 9) ∧ e' 97 = .slice none 0 0) ⟨?_, ?_, ?_, ?_⟩ ?_
          · simp -dsimp only [↓RE,RU,RL,if_true,if_false,↓reduceIte,Nat.reduceEqDiff,reduceCtorEq,decide_true,decide_false, he1]
          · simp -dsimp only [↓RE,RU,RL,if_true,if_false,↓reduceIte,Nat.reduceEqDiff,reduceCtorEq,decide_true,decide_false, he5]
          · simp -dsimp only [↓RE,RU,RL,if_true,if_false,↓reduceIte,Nat.reduceEqDiff,reduceCtorEq,decide_true,decide_false, he0]
          · simp -dsimp only [↓RE,RU,RL,if_true,if_false,↓reduceIte,Nat.reduceEqDiff,reduceCtorEq,decide_true,decide_false, he0]
          clear he0 he1 he5 e
          rintro e ⟨he1, he5, he16, he97⟩
          simp -dsimp only [↓RE,RU,RL,if_true,if_false,forall_const,implies_true,Nat.reduceLeDiff,Nat.reduceLT,pureOp,binPure,intBin,strBin,eqPure,isConstO,unPure,sliceLo,sliceHi,slicePure,slice3Pure,lenPure,capPure,minPure,maxPure,buildP,resK,endV,yieldE,↓reduceIte,Nat.reduceEqDiff,reduceCtorEq,Nat.reduceAdd,Nat.reduceMul,Nat.reduceSub,Int.reduceLT,Int.reduceLE,Int.reduceToNat,Int.reduceAdd,Int.reduceSub,Int.reduceMul,ne_eq,decide_true,decide_false,tf25, he97]
          rw [c_seq]
          simp -dsimp only [↓RE,RU,RL,if_true,if_false,forall_const,implies_true,Nat.reduceLeDiff,Nat.reduceLT,pureOp,binPure,intBin,strBin,eqPure,isConstO,unPure,sliceLo,sliceHi,slicePure,slice3Pure,lenPure,capPure,minPure,maxPure,buildP,resK,endV,yieldE,↓reduceIte,Nat.reduceEqDiff,reduceCtorEq,Nat.reduceAdd,Nat.reduceMul,Nat.reduceSub,Int.reduceLT,Int.reduceLE,Int.reduceToNat,Int.reduceAdd,Int.reduceSub,Int.reduceMul,ne_eq,decide_true,decide_false,tf25, he1, he5, add_lit', Nat.zero_add, d5]
          refine rload_no ?_
          simp -dsimp only [↓RE,RU,RL,if_true,if_false,forall_const,implies_true,Nat.reduceLeDiff,Nat.reduceLT,pureOp,binPure,intBin,strBin,eqPure,isConstO,unPure,sliceLo,sliceHi,slicePure,slice3Pure,lenPure,capPure,minPure,maxPure,buildP,resK,endV,yieldE,↓reduceIte,Nat.reduceEqDiff,reduceCtorEq,Nat.reduceAdd,Nat.reduceMul,Nat.reduceSub,Int.reduceLT,Int.reduceLE,Int.reduceToNat,Int.reduceAdd,Int.reduceSub,Int.reduceMul,ne_eq,decide_true,decide_false,tf25, he97]
          have hd0 : Rd w2 none 0 10 (([] : List Dlt).flatMap dcells) := ⟨rfl, fun h => absurd h (Nat.lt_irrefl _)⟩
          refine msameDeltas_ok (D := []) hd0 hd0 (by omega) (fun w5 g5 => ?_)
          obtain ⟨_, _, _, d5'⟩ := cc w5 (g2.trans g5)
          simp -dsimp only [↓RE,RU,RL,if_true,if_false,forall_const,implies_true,Nat.reduceLeDiff,Nat.reduceLT,pureOp,binPure,intBin,strBin,eqPure,isConstO,unPure,sliceLo,sliceHi,slicePure,slice3Pure,lenPure,capPure,minPure,maxPure,buildP,resK,endV,yieldE,↓reduceIte,Nat.reduceEqDiff,reduceCtorEq,Nat.reduceAdd,Nat.reduceMul,Nat.reduceSub,Int.reduceLT,Int.reduceLE,Int.reduceToNat,Int.reduceAdd,Int.reduceSub,Int.reduceMul,ne_eq,decide_true,decide_false,tf25, he5, he16, add_lit', Nat.zero_add, d5']
          refine kepts_ok (hH.grow g5) (hX.grow ((g1.trans g2).trans g5)) (by omega) (fun w6 g6 => ?_)
          have hg6 := (g1.trans g2).trans (g5.trans g6)
          have hH6 := hH.grow (g5.trans g6)
          have hml : (o.l ++ markS).length = o.m + 9 := by rw [List.length_append, hol]; rfl
          refine os_gen (fun e' => e' 16 = .slice (some ⟨H, 0, none⟩) o.m (o.m + 9) ∧ e' 104 = .bool true ∧ e' 108 = .bool true) ⟨?_, ?_, ?_⟩ ?_
          · simp -dsimp only [↓RE,RU,RL,if_true,if_false,↓reduceIte,Nat.reduceEqDiff,reduceCtorEq,decide_true,decide_false, he16]
          · simp -dsimp only [↓RE,RU,RL,if_true,if_false,↓reduceIte,Nat.reduceEqDiff,reduceCtorEq,decide_true,decide_false, he5]
          · simp -dsimp only [↓RE,RU,RL,if_true,if_false,↓reduceIte,Nat.reduceEqDiff,reduceCtorEq,decide_true,decide_false, he5]
          clear he1 he5 he16 he97 e
          rintro e ⟨he16, he104, he108⟩
          simp -dsimp only [↓RE,RU,RL,if_true,if_false,forall_const,implies_true,Nat.reduceLeDiff,Nat.reduceLT,pureOp,binPure,intBin,strBin,eqPure,isConstO,unPure,sliceLo,sliceHi,slicePure,slice3Pure,lenPure,capPure,minPure,maxPure,buildP,resK,endV,yieldE,↓reduceIte,Nat.reduceEqDiff,reduceCtorEq,Nat.reduceAdd,Nat.reduceMul,Nat.reduceSub,Int.reduceLT,Int.reduceLE,Int.reduceToNat,Int.reduceAdd,Int.reduceSub,Int.reduceMul,ne_eq,decide_true,decide_false,tf25, he104, he108]
          refine c_seq_cut (fun e' w' => e' 18 = .bool true ∧ Keep (fun q => q = H) w6 w') ?_ ?_
          · rw [c_seq]
            simp -dsimp only [↓RE,RU,RL,if_true,if_false,forall_const,implies_true,Nat.reduceLeDiff,Nat.reduceLT,pureOp,binPure,intBin,strBin,eqPure,isConstO,unPure,sliceLo,sliceHi,slicePure,slice3Pure,lenPure,capPure,minPure,maxPure,buildP,resK,endV,yieldE,↓reduceIte,Nat.reduceEqDiff,reduceCtorEq,Nat.reduceAdd,Nat.reduceMul,Nat.reduceSub,Int.reduceLT,Int.reduceLE,Int.reduceToNat,Int.reduceAdd,Int.reduceSub,Int.reduceMul,ne_eq,decide_true,decide_false,tf25, he16]
            refine wpLoop_intro (fun e' w' => e' 16 = .slice (some ⟨H, 0, none⟩) o.m (o.m + 9) ∧ e' 18 = .bool true ∧ ∃ (k : Nat) (L : List Smp), k ≤ o.m ∧ e' 19 = .int .i64 k ∧ L.length = o.m + 9 ∧ Blk w' H 41 (L.flatMap scells) ∧ Keep (fun q => q = H) w6 w')
              (fun e' _ => o.m - (envInt (e' 19)).toNat) ⟨?_, ?_, 0, _, Nat.zero_le _, ?_, hml, hH6, Keep.refl _ _⟩ ?_
            · simp -dsimp only [↓RE,RU,RL,if_true,if_false,↓reduceIte,Nat.reduceEqDiff,reduceCtorEq,decide_true,decide_false, he16]
            · simp -dsimp only [↓RE,RU,RL,if_true,if_false,↓reduceIte,Nat.reduceEqDiff,reduceCtorEq,decide_true,decide_false, he16]
            · simp -dsimp only [↓RE,RU,RL,if_true,if_false,↓reduceIte,Nat.reduceEqDiff,reduceCtorEq,decide_true,decide_false, he16, Int.cast_ofNat_Int]
            clear he16 he104 he108
            rintro e' w' ⟨he16, he18, k, L, hk, he19, hLl, hB, hK⟩
            try simp -dsimp only [↓RE,↓c_seq,RU,RL,if_true,if_false,forall_const,implies_true,Nat.reduceLeDiff,Nat.reduceLT,pureOp,binPure,intBin,strBin,eqPure,isConstO,unPure,sliceLo,sliceHi,slicePure,slice3Pure,lenPure,capPure,minPure,maxPure,buildP,resK,endV,yieldE,↓reduceIte,Nat.reduceEqDiff,reduceCtorEq,Nat.reduceAdd,Nat.reduceMul,Nat.reduceSub,Int.reduceLT,Int.reduceLE,Int.reduceToNat,Int.reduceAdd,Int.reduceSub,Int.reduceMul,ne_eq,decide_true,decide_false,tf25, he16, he19]
            refine ⟨fun hlt2 => ?_, fun hge => ?_⟩
            · have hkm : k < o.m := by omega
              have hw2 : IntKind.i64.wrap ((k : Int) + 1) = ((k + 1 : Nat) : Int) := by rw [wrap_i64_in (by omega) (by omega)]; omega
              try simp -dsimp only [↓RE,↓c_seq,RU,RL,if_true,if_false,forall_const,implies_true,Nat.reduceLeDiff,Nat.reduceLT,pureOp,binPure,intBin,strBin,eqPure,isConstO,unPure,sliceLo,sliceHi,slicePure,slice3Pure,lenPure,capPure,minPure,maxPure,buildP,resK,endV,yieldE,↓reduceIte,Nat.reduceEqDiff,reduceCtorEq,Nat.reduceAdd,Nat.reduceMul,Nat.reduceSub,Int.reduceLT,Int.reduceLE,Int.reduceToNat,Int.reduceAdd,Int.reduceSub,Int.reduceMul,ne_eq,decide_true,decide_false,tf25, he16, he19, add_lit', Nat.zero_add]
              refine ⟨by omega, ?_⟩
              refine blk_smp_set hB (k := k) (by omega) (77, 0, 0) (fun w7 hB7 k7 => ?_)
              try simp -dsimp only [↓RE,↓c_seq,RU,RL,if_true,if_false,forall_const,implies_true,Nat.reduceLeDiff,Nat.reduceLT,pureOp,binPure,intBin,strBin,eqPure,isConstO,unPure,sliceLo,sliceHi,slicePure,slice3Pure,lenPure,capPure,minPure,maxPure,buildP,resK,endV,yieldE,↓reduceIte,Nat.reduceEqDiff,reduceCtorEq,Nat.reduceAdd,Nat.reduceMul,Nat.reduceSub,Int.reduceLT,Int.reduceLE,Int.reduceToNat,Int.reduceAdd,Int.reduceSub,Int.reduceMul,ne_eq,decide_true,decide_false,tf25, he19, hw2]
              refine hold_intro ⟨⟨by simp -dsimp only [↓RE,RU,RL,if_true,if_false,↓reduceIte,Nat.reduceEqDiff,reduceCtorEq,decide_true,decide_false, he16], by simp -dsimp only [↓RE,RU,RL,if_true,if_false,↓reduceIte,Nat.reduceEqDiff,reduceCtorEq,decide_true,decide_false, he18], k + 1, _, by omega, by simp -dsimp only [↓RE,RU,RL,if_true,if_false,↓reduceIte,Nat.reduceEqDiff,reduceCtorEq,decide_true,decide_false, he19, hw2], by rw [List.length_set]; exact hLl, hB7, hK.trans k7 (fun _ _ e => e) (fun _ _ e => e)⟩, ?_⟩
              simp -dsimp only [↓RE,↓c_seq,RU,RL,if_true,if_false,forall_const,implies_true,Nat.reduceLeDiff,Nat.reduceLT,pureOp,binPure,intBin,strBin,eqPure,isConstO,unPure,sliceLo,sliceHi,slicePure,slice3Pure,lenPure,capPure,minPure,maxPure,buildP,resK,endV,yieldE,↓reduceIte,Nat.reduceEqDiff,reduceCtorEq,Nat.reduceAdd,Nat.reduceMul,Nat.reduceSub,Int.reduceLT,Int.reduceLE,Int.reduceToNat,Int.reduceAdd,Int.reduceSub,Int.reduceMul,ne_eq,decide_true,decide_false,tf25, he19, hw2]
              simp only [envInt_int]; omega
            · exact hold_intro ⟨by simp -dsimp only [↓RE,RU,RL,if_true,if_false,↓reduceIte,Nat.reduceEqDiff,reduceCtorEq,decide_true,decide_false, he18], hK⟩
          · clear he16 he104 he108 e
            rintro e w7 ⟨he18, k7⟩
            try simp -dsimp only [↓RE,↓c_seq,RU,RL,if_true,if_false,forall_const,implies_true,Nat.reduceLeDiff,Nat.reduceLT,pureOp,binPure,intBin,strBin,eqPure,isConstO,unPure,sliceLo,sliceHi,slicePure,slice3Pure,lenPure,capPure,minPure,maxPure,buildP,resK,endV,yieldE,↓reduceIte,Nat.reduceEqDiff,reduceCtorEq,Nat.reduceAdd,Nat.reduceMul,Nat.reduceSub,Int.reduceLT,Int.reduceLE,Int.reduceToNat,Int.reduceAdd,Int.reduceSub,Int.reduceMul,ne_eq,decide_true,decide_false,tf25, he18]
            exact h w7 (hg6.above k7 (fun q hq e => by have := g1.size; omega))
        | false =>
          try simp -dsimp only [↓RE,↓c_seq,RU,RL,if_true,if_false,forall_const,implies_true,Nat.reduceLeDiff,Nat.reduceLT,pureOp,binPure,intBin,strBin,eqPure,isConstO,unPure,sliceLo,sliceHi,slicePure,slice3Pure,lenPure,capPure,minPure,maxPure,buildP,resK,endV,yieldE,↓reduceIte,Nat.reduceEqDiff,reduceCtorEq,Nat.reduceAdd,Nat.reduceMul,Nat.reduceSub,Int.reduceLT,Int.reduceLE,Int.reduceToNat,Int.reduceAdd,Int.reduceSub,Int.reduceMul,ne_eq,decide_true,decide_false,tf25, hk3]
          exact h w1 g1
/-- what a walk through alike holds on to. -/
structure AlN (w0 w : World) (a b c d : Nat) : Prop where
  ba : B3 w a
  bb : B3 w b
  bc : B3 w c
  bd : B3 w d
  ab : w0.heap.size ≤ a ∧ a < b ∧ b < c ∧ c < d
  gr : Grow w0 w
theorem AlN.grow {w0 w w1 : World} {a b c d : Nat} (h : AlN w0 w a b c d) (k : Grow w w1) : AlN w0 w1 a b c d :=
  ⟨h.ba.grow k, h.bb.grow k, h.bc.grow k, h.bd.grow k, h.ab, h.gr.trans k⟩
theorem AlN.set {w0 w w1 : World} {a b c d : Nat} (h : AlN w0 w a b c d) {q : Nat} (hq : w0.heap.size ≤ q) (k : Keep (fun i => i = q) w w1) (hB : B3 w1 q) : AlN w0 w1 a b c d := by
  have kp : ∀ {x}, B3 w x → B3 w1 x := fun {x} hx => by
    by_cases e : x = q
    · subst e; exact hB
    · exact hx.keep k e
  exact ⟨kp h.ba, kp h.bb, kp h.bc, kp h.bd, h.ab, h.gr.above k (fun i hi e => by omega)⟩
theorem alike_no {w : World} {A : Option Addr} {n c : Nat} {ts : List Int} (hT : Rd w A n 1 (ts.map (Value.int .i64))) (hnt : n ≤ 17592186044416) {R : VWK}
    (h : ∀ w', Grow w w' → R (.bool true) w') : CallsV Try.prog 26 [.pointer none, .pointer none, .slice A n c] w R := by
  have htl := hT.len1
  refine calls_of_wpC mixed Try.func26 rfl (by kernel_rfl) ?_
  intro e he
  have he0 := he 0
  have he1 := he 1
  have he2 := he 2
  simp only [List.getD_cons_zero, List.getD_cons_succ] at he0 he1 he2
  clear he
  rw [c_seq]
  simp -dsimp only [↓RE,RU,RL,if_true,if_false,forall_const,implies_true,Nat.reduceLeDiff,Nat.reduceLT,pureOp,binPure,intBin,strBin,eqPure,isConstO,unPure,sliceLo,sliceHi,slicePure,slice3Pure,lenPure,capPure,minPure,maxPure,buildP,resK,endV,yieldE,↓reduceIte,Nat.reduceEqDiff,reduceCtorEq,Nat.reduceAdd,Nat.reduceMul,Nat.reduceSub,Int.reduceLT,Int.reduceLE,Int.reduceToNat,Int.reduceAdd,Int.reduceSub,Int.reduceMul,ne_eq,decide_true,decide_false,tf26, he0]
  rw [c_seq]
  simp -dsimp only [↓RE,RU,RL,if_true,if_false,forall_const,implies_true,Nat.reduceLeDiff,Nat.reduceLT,pureOp,binPure,intBin,strBin,eqPure,isConstO,unPure,sliceLo,sliceHi,slicePure,slice3Pure,lenPure,capPure,minPure,maxPure,buildP,resK,endV,yieldE,↓reduceIte,Nat.reduceEqDiff,reduceCtorEq,Nat.reduceAdd,Nat.reduceMul,Nat.reduceSub,Int.reduceLT,Int.reduceLE,Int.reduceToNat,Int.reduceAdd,Int.reduceSub,Int.reduceMul,ne_eq,decide_true,decide_false,tf26, he0]
  refine first_no (fun w1 g1 => ?_)
  simp -dsimp only [↓RE,RU,RL,if_true,if_false,forall_const,implies_true,Nat.reduceLeDiff,Nat.reduceLT,pureOp,binPure,intBin,strBin,eqPure,isConstO,unPure,sliceLo,sliceHi,slicePure,slice3Pure,lenPure,capPure,minPure,maxPure,buildP,resK,endV,yieldE,↓reduceIte,Nat.reduceEqDiff,reduceCtorEq,Nat.reduceAdd,Nat.reduceMul,Nat.reduceSub,Int.reduceLT,Int.reduceLE,Int.reduceToNat,Int.reduceAdd,Int.reduceSub,Int.reduceMul,ne_eq,decide_true,decide_false,tf26, he0]
  refine new3 (fun w2 hb7 g2 => ?_) rfl rfl rfl
  have g02 := g1.trans g2
  simp -dsimp only [↓RE,RU,RL,if_true,if_false,forall_const,implies_true,Nat.reduceLeDiff,Nat.reduceLT,pureOp,binPure,intBin,strBin,eqPure,isConstO,unPure,sliceLo,sliceHi,slicePure,slice3Pure,lenPure,capPure,minPure,maxPure,buildP,resK,endV,yieldE,↓reduceIte,Nat.reduceEqDiff,reduceCtorEq,Nat.reduceAdd,Nat.reduceMul,Nat.reduceSub,Int.reduceLT,Int.reduceLE,Int.reduceToNat,Int.reduceAdd,Int.reduceSub,Int.reduceMul,ne_eq,decide_true,decide_false,tf26, he1]
  rw [c_seq]
  simp -dsimp only [↓RE,RU,RL,if_true,if_false,forall_const,implies_true,Nat.reduceLeDiff,Nat.reduceLT,pureOp,binPure,intBin,strBin,eqPure,isConstO,unPure,sliceLo,sliceHi,slicePure,slice3Pure,lenPure,capPure,minPure,maxPure,buildP,resK,endV,yieldE,↓reduceIte,Nat.reduceEqDiff,reduceCtorEq,Nat.reduceAdd,Nat.reduceMul,Nat.reduceSub,Int.reduceLT,Int.reduceLE,Int.reduceToNat,Int.reduceAdd,Int.reduceSub,Int.reduceMul,ne_eq,decide_true,decide_false,tf26, he1]
  refine rfirst_no (fun w3 g3 => ?_)
  simp -dsimp only [↓RE,RU,RL,if_true,if_false,forall_const,implies_true,Nat.reduceLeDiff,Nat.reduceLT,pureOp,binPure,intBin,strBin,eqPure,isConstO,unPure,sliceLo,sliceHi,slicePure,slice3Pure,lenPure,capPure,minPure,maxPure,buildP,resK,endV,yieldE,↓reduceIte,Nat.reduceEqDiff,reduceCtorEq,Nat.reduceAdd,Nat.reduceMul,Nat.reduceSub,Int.reduceLT,Int.reduceLE,Int.reduceToNat,Int.reduceAdd,Int.reduceSub,Int.reduceMul,ne_eq,decide_true,decide_false,tf26, he1]
  refine new3 (fun w4 hb9 g4 => ?_) rfl rfl rfl
  have g24 := g3.trans g4
  simp -dsimp only [↓RE,RU,RL,if_true,if_false,forall_const,implies_true,Nat.reduceLeDiff,Nat.reduceLT,pureOp,binPure,intBin,strBin,eqPure,isConstO,unPure,sliceLo,sliceHi,slicePure,slice3Pure,lenPure,capPure,minPure,maxPure,buildP,resK,endV,yieldE,↓reduceIte,Nat.reduceEqDiff,reduceCtorEq,Nat.reduceAdd,Nat.reduceMul,Nat.reduceSub,Int.reduceLT,Int.reduceLE,Int.reduceToNat,Int.reduceAdd,Int.reduceSub,Int.reduceMul,ne_eq,decide_true,decide_false,tf26, he0]
  rw [c_seq]
  simp -dsimp only [↓RE,RU,RL,if_true,if_false,forall_const,implies_true,Nat.reduceLeDiff,Nat.reduceLT,pureOp,binPure,intBin,strBin,eqPure,isConstO,unPure,sliceLo,sliceHi,slicePure,slice3Pure,lenPure,capPure,minPure,maxPure,buildP,resK,endV,yieldE,↓reduceIte,Nat.reduceEqDiff,reduceCtorEq,Nat.reduceAdd,Nat.reduceMul,Nat.reduceSub,Int.reduceLT,Int.reduceLE,Int.reduceToNat,Int.reduceAdd,Int.reduceSub,Int.reduceMul,ne_eq,decide_true,decide_false,tf26, he0]
  refine last_no (fun w5 g5 => ?_)
  simp -dsimp only [↓RE,RU,RL,if_true,if_false,forall_const,implies_true,Nat.reduceLeDiff,Nat.reduceLT,pureOp,binPure,intBin,strBin,eqPure,isConstO,unPure,sliceLo,sliceHi,slicePure,slice3Pure,lenPure,capPure,minPure,maxPure,buildP,resK,endV,yieldE,↓reduceIte,Nat.reduceEqDiff,reduceCtorEq,Nat.reduceAdd,Nat.reduceMul,Nat.reduceSub,Int.reduceLT,Int.reduceLE,Int.reduceToNat,Int.reduceAdd,Int.reduceSub,Int.reduceMul,ne_eq,decide_true,decide_false,tf26, he0]
  refine new3 (fun w6 hb11 g6 => ?_) rfl rfl rfl
  have g46 := g5.trans g6
  simp -dsimp only [↓RE,RU,RL,if_true,if_false,forall_const,implies_true,Nat.reduceLeDiff,Nat.reduceLT,pureOp,binPure,intBin,strBin,eqPure,isConstO,unPure,sliceLo,sliceHi,slicePure,slice3Pure,lenPure,capPure,minPure,maxPure,buildP,resK,endV,yieldE,↓reduceIte,Nat.reduceEqDiff,reduceCtorEq,Nat.reduceAdd,Nat.reduceMul,Nat.reduceSub,Int.reduceLT,Int.reduceLE,Int.reduceToNat,Int.reduceAdd,Int.reduceSub,Int.reduceMul,ne_eq,decide_true,decide_false,tf26, he1]
  rw [c_seq]
  simp -dsimp only [↓RE,RU,RL,if_true,if_false,forall_const,implies_true,Nat.reduceLeDiff,Nat.reduceLT,pureOp,binPure,intBin,strBin,eqPure,isConstO,unPure,sliceLo,sliceHi,slicePure,slice3Pure,lenPure,capPure,minPure,maxPure,buildP,resK,endV,yieldE,↓reduceIte,Nat.reduceEqDiff,reduceCtorEq,Nat.reduceAdd,Nat.reduceMul,Nat.reduceSub,Int.reduceLT,Int.reduceLE,Int.reduceToNat,Int.reduceAdd,Int.reduceSub,Int.reduceMul,ne_eq,decide_true,decide_false,tf26, he1]
  refine rlast_no (fun w7 g7 => ?_)
  simp -dsimp only [↓RE,RU,RL,if_true,if_false,forall_const,implies_true,Nat.reduceLeDiff,Nat.reduceLT,pureOp,binPure,intBin,strBin,eqPure,isConstO,unPure,sliceLo,sliceHi,slicePure,slice3Pure,lenPure,capPure,minPure,maxPure,buildP,resK,endV,yieldE,↓reduceIte,Nat.reduceEqDiff,reduceCtorEq,Nat.reduceAdd,Nat.reduceMul,Nat.reduceSub,Int.reduceLT,Int.reduceLE,Int.reduceToNat,Int.reduceAdd,Int.reduceSub,Int.reduceMul,ne_eq,decide_true,decide_false,tf26, he1]
  refine new3 (fun w8 hb13 g8 => ?_) rfl rfl rfl
  have g68 := g7.trans g8
  have hA : AlN w w8 w1.heap.size w3.heap.size w5.heap.size w7.heap.size :=
    ⟨⟨_, _, _, hb7.grow ((g24.trans g46).trans g68)⟩, ⟨_, _, _, hb9.grow (g46.trans g68)⟩, ⟨_, _, _, hb11.grow g68⟩, ⟨_, _, _, hb13⟩, ⟨g1.size, by have := hb7.lt; have := g3.size; omega, by have := hb9.lt; have := g5.size; omega, by have := hb11.lt; have := g7.size; omega⟩, ((g02.trans g24).trans g46).trans g68⟩
  have h7 := hb7.grow ((g24.trans g46).trans g68)
  have h9 := hb9.grow (g46.trans g68)
  have h11 := hb11.grow g68
  refine os_gen (fun e' => e' 0 = .pointer none ∧ e' 1 = .pointer none ∧ e' 2 = .slice A n c ∧ e' 7 = .pointer (some ⟨w1.heap.size, 0, none⟩) ∧ e' 9 = .pointer (some ⟨w3.heap.size, 0, none⟩) ∧ e' 11 = .pointer (some ⟨w5.heap.size, 0, none⟩) ∧ e' 13 = .pointer (some ⟨w7.heap.size, 0, none⟩) ∧
      e' 8 = .bool false ∧ e' 10 = .bool false ∧ e' 12 = .bool false ∧ e' 41 = .bool false) ⟨?_, ?_, ?_, ?_, ?_, ?_, ?_, ?_, ?_, ?_, ?_⟩ ?_
  · simp -dsimp only [↓RE,RU,RL,if_true,if_false,↓reduceIte,Nat.reduceEqDiff,reduceCtorEq,decide_true,decide_false, he0]
  · simp -dsimp only [↓RE,RU,RL,if_true,if_false,↓reduceIte,Nat.reduceEqDiff,reduceCtorEq,decide_true,decide_false, he1]
  · simp -dsimp only [↓RE,RU,RL,if_true,if_false,↓reduceIte,Nat.reduceEqDiff,reduceCtorEq,decide_true,decide_false, he2]
  · simp -dsimp only [↓RE,RU,RL,if_true,if_false,↓reduceIte,Nat.reduceEqDiff,reduceCtorEq,decide_true,decide_false, he2]
  · simp -dsimp only [↓RE,RU,RL,if_true,if_false,↓reduceIte,Nat.reduceEqDiff,reduceCtorEq,decide_true,decide_false, he2]
  · simp -dsimp only [↓RE,RU,RL,if_true,if_false,↓reduceIte,Nat.reduceEqDiff,reduceCtorEq,decide_true,decide_false, he2]
  · simp -dsimp only [↓RE,RU,RL,if_true,if_false,↓reduceIte,Nat.reduceEqDiff,reduceCtorEq,decide_true,decide_false, he2]
  · simp -dsimp only [↓RE,RU,RL,if_true,if_false,↓reduceIte,Nat.reduceEqDiff,reduceCtorEq,decide_true,decide_false, he2]
  · simp -dsimp only [↓RE,RU,RL,if_true,if_false,↓reduceIte,Nat.reduceEqDiff,reduceCtorEq,decide_true,decide_false, he2]
  · simp -dsimp only [↓RE,RU,RL,if_true,if_false,↓reduceIte,Nat.reduceEqDiff,reduceCtorEq,decide_true,decide_false, he2]
  · simp -dsimp only [↓RE,RU,RL,if_true,if_false,↓reduceIte,Nat.reduceEqDiff,reduceCtorEq,decide_true,decide_false, he2]
  clear he0 he1 he2 e
  rintro e ⟨he0, he1, he2, he7, he9, he11, he13, he8, he10, he12, he41⟩
  simp -dsimp only [↓RE,RU,RL,if_true,if_false,forall_const,implies_true,Nat.reduceLeDiff,Nat.reduceLT,pureOp,binPure,intBin,strBin,eqPure,isConstO,unPure,sliceLo,sliceHi,slicePure,slice3Pure,lenPure,capPure,minPure,maxPure,buildP,resK,endV,yieldE,↓reduceIte,Nat.reduceEqDiff,reduceCtorEq,Nat.reduceAdd,Nat.reduceMul,Nat.reduceSub,Int.reduceLT,Int.reduceLE,Int.reduceToNat,Int.reduceAdd,Int.reduceSub,Int.reduceMul,ne_eq,decide_true,decide_false,tf26, he41]
  rw [c_seq, c_seq]
  simp -dsimp only [↓RE,RU,RL,if_true,if_false,forall_const,implies_true,Nat.reduceLeDiff,Nat.reduceLT,pureOp,binPure,intBin,strBin,eqPure,isConstO,unPure,sliceLo,sliceHi,slicePure,slice3Pure,lenPure,capPure,minPure,maxPure,buildP,resK,endV,yieldE,↓reduceIte,Nat.reduceEqDiff,reduceCtorEq,Nat.reduceAdd,Nat.reduceMul,Nat.reduceSub,Int.reduceLT,Int.reduceLE,Int.reduceToNat,Int.reduceAdd,Int.reduceSub,Int.reduceMul,ne_eq,decide_true,decide_false,tf26, he0]
  refine len_no ?_
  simp -dsimp only [↓RE,RU,RL,if_true,if_false,forall_const,implies_true,Nat.reduceLeDiff,Nat.reduceLT,pureOp,binPure,intBin,strBin,eqPure,isConstO,unPure,sliceLo,sliceHi,slicePure,slice3Pure,lenPure,capPure,minPure,maxPure,buildP,resK,endV,yieldE,↓reduceIte,Nat.reduceEqDiff,reduceCtorEq,Nat.reduceAdd,Nat.reduceMul,Nat.reduceSub,Int.reduceLT,Int.reduceLE,Int.reduceToNat,Int.reduceAdd,Int.reduceSub,Int.reduceMul,ne_eq,decide_true,decide_false,tf26, he1]
  refine rlen_no ?_
  simp -dsimp only [↓RE,RU,RL,if_true,if_false,forall_const,implies_true,Nat.reduceLeDiff,Nat.reduceLT,pureOp,binPure,intBin,strBin,eqPure,isConstO,unPure,sliceLo,sliceHi,slicePure,slice3Pure,lenPure,capPure,minPure,maxPure,buildP,resK,endV,yieldE,↓reduceIte,Nat.reduceEqDiff,reduceCtorEq,Nat.reduceAdd,Nat.reduceMul,Nat.reduceSub,Int.reduceLT,Int.reduceLE,Int.reduceToNat,Int.reduceAdd,Int.reduceSub,Int.reduceMul,ne_eq,decide_true,decide_false,tf26, he7, he9, eq_self, decide_true, Bool.not_true]
  refine blk_agg3 h7 ?_
  simp -dsimp only [↓RE,RU,RL,if_true,if_false,forall_const,implies_true,Nat.reduceLeDiff,Nat.reduceLT,pureOp,binPure,intBin,strBin,eqPure,isConstO,unPure,sliceLo,sliceHi,slicePure,slice3Pure,lenPure,capPure,minPure,maxPure,buildP,resK,endV,yieldE,↓reduceIte,Nat.reduceEqDiff,reduceCtorEq,Nat.reduceAdd,Nat.reduceMul,Nat.reduceSub,Int.reduceLT,Int.reduceLE,Int.reduceToNat,Int.reduceAdd,Int.reduceSub,Int.reduceMul,ne_eq,decide_true,decide_false,tf26, he7, he9]
  refine blk_agg3 h9 ?_
  simp -dsimp only [↓RE,RU,RL,if_true,if_false,forall_const,implies_true,Nat.reduceLeDiff,Nat.reduceLT,pureOp,binPure,intBin,strBin,eqPure,isConstO,unPure,sliceLo,sliceHi,slicePure,slice3Pure,lenPure,capPure,minPure,maxPure,buildP,resK,endV,yieldE,↓reduceIte,Nat.reduceEqDiff,reduceCtorEq,Nat.reduceAdd,Nat.reduceMul,Nat.reduceSub,Int.reduceLT,Int.reduceLE,Int.reduceToNat,Int.reduceAdd,Int.reduceSub,Int.reduceMul,ne_eq,decide_true,decide_false,tf26, he8, he10, he11, he13, eq_self, decide_true, Bool.not_true, and_self, boolBeq, Option.map_some]
  refine blk_agg3 h11 ?_
  simp -dsimp only [↓RE,RU,RL,if_true,if_false,forall_const,implies_true,Nat.reduceLeDiff,Nat.reduceLT,pureOp,binPure,intBin,strBin,eqPure,isConstO,unPure,sliceLo,sliceHi,slicePure,slice3Pure,lenPure,capPure,minPure,maxPure,buildP,resK,endV,yieldE,↓reduceIte,Nat.reduceEqDiff,reduceCtorEq,Nat.reduceAdd,Nat.reduceMul,Nat.reduceSub,Int.reduceLT,Int.reduceLE,Int.reduceToNat,Int.reduceAdd,Int.reduceSub,Int.reduceMul,ne_eq,decide_true,decide_false,tf26, he13]
  refine blk_agg3 hb13 ?_
  simp -dsimp only [↓RE,RU,RL,if_true,if_false,forall_const,implies_true,Nat.reduceLeDiff,Nat.reduceLT,pureOp,binPure,intBin,strBin,eqPure,isConstO,unPure,sliceLo,sliceHi,slicePure,slice3Pure,lenPure,capPure,minPure,maxPure,buildP,resK,endV,yieldE,↓reduceIte,Nat.reduceEqDiff,reduceCtorEq,Nat.reduceAdd,Nat.reduceMul,Nat.reduceSub,Int.reduceLT,Int.reduceLE,Int.reduceToNat,Int.reduceAdd,Int.reduceSub,Int.reduceMul,ne_eq,decide_true,decide_false,tf26, he12, he41, eq_self, decide_true, Bool.not_true, and_self, boolBeq, Option.map_some]
  generalize w1.heap.size = b7 at hA he7
  generalize w3.heap.size = b9 at hA he9
  generalize w5.heap.size = b11 at hA he11
  generalize w7.heap.size = b13 at hA he13
  refine c_seq_cut (fun e' w' => Grow w w') ?_ ?_
  · rw [c_seq]
    simp -dsimp only [↓RE,RU,RL,if_true,if_false,forall_const,implies_true,Nat.reduceLeDiff,Nat.reduceLT,pureOp,binPure,intBin,strBin,eqPure,isConstO,unPure,sliceLo,sliceHi,slicePure,slice3Pure,lenPure,capPure,minPure,maxPure,buildP,resK,endV,yieldE,↓reduceIte,Nat.reduceEqDiff,reduceCtorEq,Nat.reduceAdd,Nat.reduceMul,Nat.reduceSub,Int.reduceLT,Int.reduceLE,Int.reduceToNat,Int.reduceAdd,Int.reduceSub,Int.reduceMul,ne_eq,decide_true,decide_false,tf26, he0]
    refine wpLoop_intro (fun e' w' => (e' 0 = .pointer none ∧ e' 1 = .pointer none ∧ e' 2 = .slice A n c) ∧ (e' 7 = .pointer (some ⟨b7, 0, none⟩) ∧ e' 9 = .pointer (some ⟨b9, 0, none⟩) ∧ e' 11 = .pointer (some ⟨b11, 0, none⟩) ∧ e' 13 = .pointer (some ⟨b13, 0, none⟩)) ∧ ∃ k : Nat, k ≤ n ∧ e' 15 = .int .i64 k ∧ AlN w w' b7 b9 b11 b13)
      (fun e' _ => n - (envInt (e' 15)).toNat) ⟨⟨?_, ?_, ?_⟩, ⟨?_, ?_, ?_, ?_⟩, 0, Nat.zero_le _, ?_, hA⟩ ?_
    · simp -dsimp only [↓RE,RU,RL,if_true,if_false,↓reduceIte,Nat.reduceEqDiff,reduceCtorEq,decide_true,decide_false, he0]
    · simp -dsimp only [↓RE,RU,RL,if_true,if_false,↓reduceIte,Nat.reduceEqDiff,reduceCtorEq,decide_true,decide_false, he1]
    · simp -dsimp only [↓RE,RU,RL,if_true,if_false,↓reduceIte,Nat.reduceEqDiff,reduceCtorEq,decide_true,decide_false, he2]
    · simp -dsimp only [↓RE,RU,RL,if_true,if_false,↓reduceIte,Nat.reduceEqDiff,reduceCtorEq,decide_true,decide_false, he7]
    · simp -dsimp only [↓RE,RU,RL,if_true,if_false,↓reduceIte,Nat.reduceEqDiff,reduceCtorEq,decide_true,decide_false, he9]
    · simp -dsimp only [↓RE,RU,RL,if_true,if_false,↓reduceIte,Nat.reduceEqDiff,reduceCtorEq,decide_true,decide_false, he11]
    · simp -dsimp only [↓RE,RU,RL,if_true,if_false,↓reduceIte,Nat.reduceEqDiff,reduceCtorEq,decide_true,decide_false, he13]
    · simp -dsimp only [↓RE,RU,RL,if_true,if_false,↓reduceIte,Nat.reduceEqDiff,reduceCtorEq,decide_true,decide_false, he0, Int.cast_ofNat_Int]
    clear he0 he1 he2 he7 he9 he11 he13 he8 he10 he12 he41 hA
    rintro e' w' ⟨⟨he0, he1, he2⟩, ⟨he7, he9, he11, he13⟩, k, hk, he15, hA⟩
    rw [c_seq, c_seq]
    simp -dsimp only [↓RE,RU,RL,if_true,if_false,forall_const,implies_true,Nat.reduceLeDiff,Nat.reduceLT,pureOp,binPure,intBin,strBin,eqPure,isConstO,unPure,sliceLo,sliceHi,slicePure,slice3Pure,lenPure,capPure,minPure,maxPure,buildP,resK,endV,yieldE,↓reduceIte,Nat.reduceEqDiff,reduceCtorEq,Nat.reduceAdd,Nat.reduceMul,Nat.reduceSub,Int.reduceLT,Int.reduceLE,Int.reduceToNat,Int.reduceAdd,Int.reduceSub,Int.reduceMul,ne_eq,decide_true,decide_false,tf26, he2, he15]
    refine ⟨fun hlt1 => ?_, fun hge => ?_⟩
    · have hkn : k < n := by omega
      obtain ⟨ad, rfl, hca⟩ := (hT.grow hA.gr).int (k := k) hkn
      have hw1 : IntKind.i64.wrap ((k : Int) + 1) = ((k + 1 : Nat) : Int) := by rw [wrap_i64_in (by omega) (by omega)]; omega
      generalize ts.getD k 0 = t at hca
      obtain ⟨ha0, hab, hbc, hcd⟩ := hA.ab
      rw [c_seq]
      simp -dsimp only [↓RE,RU,RL,if_true,if_false,forall_const,implies_true,Nat.reduceLeDiff,Nat.reduceLT,pureOp,binPure,intBin,strBin,eqPure,isConstO,unPure,sliceLo,sliceHi,slicePure,slice3Pure,lenPure,capPure,minPure,maxPure,buildP,resK,endV,yieldE,↓reduceIte,Nat.reduceEqDiff,reduceCtorEq,Nat.reduceAdd,Nat.reduceMul,Nat.reduceSub,Int.reduceLT,Int.reduceLE,Int.reduceToNat,Int.reduceAdd,Int.reduceSub,Int.reduceMul,ne_eq,decide_true,decide_false,tf26, he0]
      rw [c_seq]
      simp -dsimp only [↓RE,RU,RL,if_true,if_false,forall_const,implies_true,Nat.reduceLeDiff,Nat.reduceLT,pureOp,binPure,intBin,strBin,eqPure,isConstO,unPure,sliceLo,sliceHi,slicePure,slice3Pure,lenPure,capPure,minPure,maxPure,buildP,resK,endV,yieldE,↓reduceIte,Nat.reduceEqDiff,reduceCtorEq,Nat.reduceAdd,Nat.reduceMul,Nat.reduceSub,Int.reduceLT,Int.reduceLE,Int.reduceToNat,Int.reduceAdd,Int.reduceSub,Int.reduceMul,ne_eq,decide_true,decide_false,tf26, he2, he15, hca, Nat.mul_one]
      refine ⟨by omega, ?_⟩
      rw [c_seq]
      simp -dsimp only [↓RE,RU,RL,if_true,if_false,forall_const,implies_true,Nat.reduceLeDiff,Nat.reduceLT,pureOp,binPure,intBin,strBin,eqPure,isConstO,unPure,sliceLo,sliceHi,slicePure,slice3Pure,lenPure,capPure,minPure,maxPure,buildP,resK,endV,yieldE,↓reduceIte,Nat.reduceEqDiff,reduceCtorEq,Nat.reduceAdd,Nat.reduceMul,Nat.reduceSub,Int.reduceLT,Int.reduceLE,Int.reduceToNat,Int.reduceAdd,Int.reduceSub,Int.reduceMul,ne_eq,decide_true,decide_false,tf26, he0]
      refine get_no (fun w10 g10 => ?_)
      simp -dsimp only [↓RE,RU,RL,if_true,if_false,forall_const,implies_true,Nat.reduceLeDiff,Nat.reduceLT,pureOp,binPure,intBin,strBin,eqPure,isConstO,unPure,sliceLo,sliceHi,slicePure,slice3Pure,lenPure,capPure,minPure,maxPure,buildP,resK,endV,yieldE,↓reduceIte,Nat.reduceEqDiff,reduceCtorEq,Nat.reduceAdd,Nat.reduceMul,Nat.reduceSub,Int.reduceLT,Int.reduceLE,Int.reduceToNat,Int.reduceAdd,Int.reduceSub,Int.reduceMul,ne_eq,decide_true,decide_false,tf26, he0]
      refine new2 (fun w11 hb17 g11 => ?_) rfl rfl
      have hA11 := hA.grow (g10.trans g11)
      simp -dsimp only [↓RE,RU,RL,if_true,if_false,forall_const,implies_true,Nat.reduceLeDiff,Nat.reduceLT,pureOp,binPure,intBin,strBin,eqPure,isConstO,unPure,sliceLo,sliceHi,slicePure,slice3Pure,lenPure,capPure,minPure,maxPure,buildP,resK,endV,yieldE,↓reduceIte,Nat.reduceEqDiff,reduceCtorEq,Nat.reduceAdd,Nat.reduceMul,Nat.reduceSub,Int.reduceLT,Int.reduceLE,Int.reduceToNat,Int.reduceAdd,Int.reduceSub,Int.reduceMul,ne_eq,decide_true,decide_false,tf26, he1]
      rw [c_seq]
      simp -dsimp only [↓RE,RU,RL,if_true,if_false,forall_const,implies_true,Nat.reduceLeDiff,Nat.reduceLT,pureOp,binPure,intBin,strBin,eqPure,isConstO,unPure,sliceLo,sliceHi,slicePure,slice3Pure,lenPure,capPure,minPure,maxPure,buildP,resK,endV,yieldE,↓reduceIte,Nat.reduceEqDiff,reduceCtorEq,Nat.reduceAdd,Nat.reduceMul,Nat.reduceSub,Int.reduceLT,Int.reduceLE,Int.reduceToNat,Int.reduceAdd,Int.reduceSub,Int.reduceMul,ne_eq,decide_true,decide_false,tf26, he1]
      refine rget_no (fun w12 g12 => ?_)
      simp -dsimp only [↓RE,RU,RL,if_true,if_false,forall_const,implies_true,Nat.reduceLeDiff,Nat.reduceLT,pureOp,binPure,intBin,strBin,eqPure,isConstO,unPure,sliceLo,sliceHi,slicePure,slice3Pure,lenPure,capPure,minPure,maxPure,buildP,resK,endV,yieldE,↓reduceIte,Nat.reduceEqDiff,reduceCtorEq,Nat.reduceAdd,Nat.reduceMul,Nat.reduceSub,Int.reduceLT,Int.reduceLE,Int.reduceToNat,Int.reduceAdd,Int.reduceSub,Int.reduceMul,ne_eq,decide_true,decide_false,tf26, he1]
      refine new2 (fun w13 hb19 g13 => ?_) rfl rfl
      have hA13 := hA11.grow (g12.trans g13)
      have h17 := hb17.grow (g12.trans g13)
      refine os_gen (fun e' => (e' 0 = .pointer none ∧ e' 1 = .pointer none ∧ e' 2 = .slice (some ad) n c) ∧ (e' 7 = .pointer (some ⟨b7, 0, none⟩) ∧ e' 9 = .pointer (some ⟨b9, 0, none⟩) ∧ e' 11 = .pointer (some ⟨b11, 0, none⟩) ∧ e' 13 = .pointer (some ⟨b13, 0, none⟩)) ∧ e' 15 = .int .i64 k ∧ e' 16 = .int .i64 t ∧ e' 17 = .pointer (some ⟨w10.heap.size, 0, none⟩) ∧ e' 18 = .bool false ∧ e' 19 = .pointer (some ⟨w12.heap.size, 0, none⟩) ∧ e' 88 = .bool false) ⟨⟨?_, ?_, ?_⟩, ⟨?_, ?_, ?_, ?_⟩, ?_, ?_, ?_, ?_, ?_, ?_⟩ ?_
      · simp -dsimp only [↓RE,RU,RL,if_true,if_false,↓reduceIte,Nat.reduceEqDiff,reduceCtorEq,decide_true,decide_false, he0]
      · simp -dsimp only [↓RE,RU,RL,if_true,if_false,↓reduceIte,Nat.reduceEqDiff,reduceCtorEq,decide_true,decide_false, he1]
      · simp -dsimp only [↓RE,RU,RL,if_true,if_false,↓reduceIte,Nat.reduceEqDiff,reduceCtorEq,decide_true,decide_false, he2]
      · simp -dsimp only [↓RE,RU,RL,if_true,if_false,↓reduceIte,Nat.reduceEqDiff,reduceCtorEq,decide_true,decide_false, he7]
      · simp -dsimp only [↓RE,RU,RL,if_true,if_false,↓reduceIte,Nat.reduceEqDiff,reduceCtorEq,decide_true,decide_false, he9]
      · simp -dsimp only [↓RE,RU,RL,if_true,if_false,↓reduceIte,Nat.reduceEqDiff,reduceCtorEq,decide_true,decide_false, he11]
      · simp -dsimp only [↓RE,RU,RL,if_true,if_false,↓reduceIte,Nat.reduceEqDiff,reduceCtorEq,decide_true,decide_false, he13]
      · simp -dsimp only [↓RE,RU,RL,if_true,if_false,↓reduceIte,Nat.reduceEqDiff,reduceCtorEq,decide_true,decide_false, he15]
      · simp -dsimp only [↓RE,RU,RL,if_true,if_false,↓reduceIte,Nat.reduceEqDiff,reduceCtorEq,decide_true,decide_false, he0]
      · simp -dsimp only [↓RE,RU,RL,if_true,if_false,↓reduceIte,Nat.reduceEqDiff,reduceCtorEq,decide_true,decide_false, he0]
      · simp -dsimp only [↓RE,RU,RL,if_true,if_false,↓reduceIte,Nat.reduceEqDiff,reduceCtorEq,decide_true,decide_false, he0]
      · simp -dsimp only [↓RE,RU,RL,if_true,if_false,↓reduceIte,Nat.reduceEqDiff,reduceCtorEq,decide_true,decide_false, he0]
      · simp -dsimp only [↓RE,RU,RL,if_true,if_false,↓reduceIte,Nat.reduceEqDiff,reduceCtorEq,decide_true,decide_false, he0]
      have he15o := he15
      clear he0 he1 he2 he7 he9 he11 he13 he15
      rintro e ⟨⟨he0, he1, he2⟩, ⟨he7, he9, he11, he13⟩, he15, he16, he17, he18, he19, he88⟩
      simp -dsimp only [↓RE,RU,RL,if_true,if_false,forall_const,implies_true,Nat.reduceLeDiff,Nat.reduceLT,pureOp,binPure,intBin,strBin,eqPure,isConstO,unPure,sliceLo,sliceHi,slicePure,slice3Pure,lenPure,capPure,minPure,maxPure,buildP,resK,endV,yieldE,↓reduceIte,Nat.reduceEqDiff,reduceCtorEq,Nat.reduceAdd,Nat.reduceMul,Nat.reduceSub,Int.reduceLT,Int.reduceLE,Int.reduceToNat,Int.reduceAdd,Int.reduceSub,Int.reduceMul,ne_eq,decide_true,decide_false,tf26, he88]
      rw [c_seq, c_seq]
      simp -dsimp only [↓RE,RU,RL,if_true,if_false,forall_const,implies_true,Nat.reduceLeDiff,Nat.reduceLT,pureOp,binPure,intBin,strBin,eqPure,isConstO,unPure,sliceLo,sliceHi,slicePure,slice3Pure,lenPure,capPure,minPure,maxPure,buildP,resK,endV,yieldE,↓reduceIte,Nat.reduceEqDiff,reduceCtorEq,Nat.reduceAdd,Nat.reduceMul,Nat.reduceSub,Int.reduceLT,Int.reduceLE,Int.reduceToNat,Int.reduceAdd,Int.reduceSub,Int.reduceMul,ne_eq,decide_true,decide_false,tf26, he17, he19]
      refine blk_agg2 h17 ?_
      simp -dsimp only [↓RE,RU,RL,if_true,if_false,forall_const,implies_true,Nat.reduceLeDiff,Nat.reduceLT,pureOp,binPure,intBin,strBin,eqPure,isConstO,unPure,sliceLo,sliceHi,slicePure,slice3Pure,lenPure,capPure,minPure,maxPure,buildP,resK,endV,yieldE,↓reduceIte,Nat.reduceEqDiff,reduceCtorEq,Nat.reduceAdd,Nat.reduceMul,Nat.reduceSub,Int.reduceLT,Int.reduceLE,Int.reduceToNat,Int.reduceAdd,Int.reduceSub,Int.reduceMul,ne_eq,decide_true,decide_false,tf26, he19]
      refine blk_agg2 hb19 ?_
      simp -dsimp only [↓RE,RU,RL,if_true,if_false,forall_const,implies_true,Nat.reduceLeDiff,Nat.reduceLT,pureOp,binPure,intBin,strBin,eqPure,isConstO,unPure,sliceLo,sliceHi,slicePure,slice3Pure,lenPure,capPure,minPure,maxPure,buildP,resK,endV,yieldE,↓reduceIte,Nat.reduceEqDiff,reduceCtorEq,Nat.reduceAdd,Nat.reduceMul,Nat.reduceSub,Int.reduceLT,Int.reduceLE,Int.reduceToNat,Int.reduceAdd,Int.reduceSub,Int.reduceMul,ne_eq,decide_true,decide_false,tf26, he18, he88, eq_self, decide_true, Bool.not_true, and_self, boolBeq, Option.map_some]
      rw [c_seq]
      simp -dsimp only [↓RE,RU,RL,if_true,if_false,forall_const,implies_true,Nat.reduceLeDiff,Nat.reduceLT,pureOp,binPure,intBin,strBin,eqPure,isConstO,unPure,sliceLo,sliceHi,slicePure,slice3Pure,lenPure,capPure,minPure,maxPure,buildP,resK,endV,yieldE,↓reduceIte,Nat.reduceEqDiff,reduceCtorEq,Nat.reduceAdd,Nat.reduceMul,Nat.reduceSub,Int.reduceLT,Int.reduceLE,Int.reduceToNat,Int.reduceAdd,Int.reduceSub,Int.reduceMul,ne_eq,decide_true,decide_false,tf26, he0, he16]
      refine before_no (fun w20 g20 => ?_)
      have hA20 := hA13.grow g20
      obtain ⟨x1, y1, z1, h7⟩ := hA20.ba
      simp -dsimp only [↓RE,RU,RL,if_true,if_false,forall_const,implies_true,Nat.reduceLeDiff,Nat.reduceLT,pureOp,binPure,intBin,strBin,eqPure,isConstO,unPure,sliceLo,sliceHi,slicePure,slice3Pure,lenPure,capPure,minPure,maxPure,buildP,resK,endV,yieldE,↓reduceIte,Nat.reduceEqDiff,reduceCtorEq,Nat.reduceAdd,Nat.reduceMul,Nat.reduceSub,Int.reduceLT,Int.reduceLE,Int.reduceToNat,Int.reduceAdd,Int.reduceSub,Int.reduceMul,ne_eq,decide_true,decide_false,tf26, he7]
      refine blk_st3 h7 rfl rfl rfl (fun w21 h7 k21 => ?_)
      have hA21 := hA20.set ha0 k21 ⟨_, _, _, h7⟩
      simp -dsimp only [↓RE,RU,RL,if_true,if_false,forall_const,implies_true,Nat.reduceLeDiff,Nat.reduceLT,pureOp,binPure,intBin,strBin,eqPure,isConstO,unPure,sliceLo,sliceHi,slicePure,slice3Pure,lenPure,capPure,minPure,maxPure,buildP,resK,endV,yieldE,↓reduceIte,Nat.reduceEqDiff,reduceCtorEq,Nat.reduceAdd,Nat.reduceMul,Nat.reduceSub,Int.reduceLT,Int.reduceLE,Int.reduceToNat,Int.reduceAdd,Int.reduceSub,Int.reduceMul,ne_eq,decide_true,decide_false,tf26, he1]
      rw [c_seq]
      simp -dsimp only [↓RE,RU,RL,if_true,if_false,forall_const,implies_true,Nat.reduceLeDiff,Nat.reduceLT,pureOp,binPure,intBin,strBin,eqPure,isConstO,unPure,sliceLo,sliceHi,slicePure,slice3Pure,lenPure,capPure,minPure,maxPure,buildP,resK,endV,yieldE,↓reduceIte,Nat.reduceEqDiff,reduceCtorEq,Nat.reduceAdd,Nat.reduceMul,Nat.reduceSub,Int.reduceLT,Int.reduceLE,Int.reduceToNat,Int.reduceAdd,Int.reduceSub,Int.reduceMul,ne_eq,decide_true,decide_false,tf26, he1, he16]
      refine rbefore_no (fun w22 g22 => ?_)
      have hA22 := hA21.grow g22
      have h7 := h7.grow g22
      obtain ⟨x2, y2, z2, h9⟩ := hA22.bb
      simp -dsimp only [↓RE,RU,RL,if_true,if_false,forall_const,implies_true,Nat.reduceLeDiff,Nat.reduceLT,pureOp,binPure,intBin,strBin,eqPure,isConstO,unPure,sliceLo,sliceHi,slicePure,slice3Pure,lenPure,capPure,minPure,maxPure,buildP,resK,endV,yieldE,↓reduceIte,Nat.reduceEqDiff,reduceCtorEq,Nat.reduceAdd,Nat.reduceMul,Nat.reduceSub,Int.reduceLT,Int.reduceLE,Int.reduceToNat,Int.reduceAdd,Int.reduceSub,Int.reduceMul,ne_eq,decide_true,decide_false,tf26, he9]
      refine blk_st3 h9 rfl rfl rfl (fun w23 h9 k23 => ?_)
      have hA23 := hA22.set (by omega) k23 ⟨_, _, _, h9⟩
      have h7 := h7.keep k23 (by omega)
      simp -dsimp only [↓RE,RU,RL,if_true,if_false,forall_const,implies_true,Nat.reduceLeDiff,Nat.reduceLT,pureOp,binPure,intBin,strBin,eqPure,isConstO,unPure,sliceLo,sliceHi,slicePure,slice3Pure,lenPure,capPure,minPure,maxPure,buildP,resK,endV,yieldE,↓reduceIte,Nat.reduceEqDiff,reduceCtorEq,Nat.reduceAdd,Nat.reduceMul,Nat.reduceSub,Int.reduceLT,Int.reduceLE,Int.reduceToNat,Int.reduceAdd,Int.reduceSub,Int.reduceMul,ne_eq,decide_true,decide_false,tf26, he0]
      rw [c_seq]
      simp -dsimp only [↓RE,RU,RL,if_true,if_false,forall_const,implies_true,Nat.reduceLeDiff,Nat.reduceLT,pureOp,binPure,intBin,strBin,eqPure,isConstO,unPure,sliceLo,sliceHi,slicePure,slice3Pure,lenPure,capPure,minPure,maxPure,buildP,resK,endV,yieldE,↓reduceIte,Nat.reduceEqDiff,reduceCtorEq,Nat.reduceAdd,Nat.reduceMul,Nat.reduceSub,Int.reduceLT,Int.reduceLE,Int.reduceToNat,Int.reduceAdd,Int.reduceSub,Int.reduceMul,ne_eq,decide_true,decide_false,tf26, he0, he16]
      refine behind_no (fun w24 g24' => ?_)
      have hA24 := hA23.grow g24'
      have h7 := h7.grow g24'
      have h9 := h9.grow g24'
      obtain ⟨x3, y3, z3, h11⟩ := hA24.bc
      simp -dsimp only [↓RE,RU,RL,if_true,if_false,forall_const,implies_true,Nat.reduceLeDiff,Nat.reduceLT,pureOp,binPure,intBin,strBin,eqPure,isConstO,unPure,sliceLo,sliceHi,slicePure,slice3Pure,lenPure,capPure,minPure,maxPure,buildP,resK,endV,yieldE,↓reduceIte,Nat.reduceEqDiff,reduceCtorEq,Nat.reduceAdd,Nat.reduceMul,Nat.reduceSub,Int.reduceLT,Int.reduceLE,Int.reduceToNat,Int.reduceAdd,Int.reduceSub,Int.reduceMul,ne_eq,decide_true,decide_false,tf26, he11]
      refine blk_st3 h11 rfl rfl rfl (fun w25 h11 k25 => ?_)
      have hA25 := hA24.set (by omega) k25 ⟨_, _, _, h11⟩
      have h7 := h7.keep k25 (by omega)
      have h9 := h9.keep k25 (by omega)
      simp -dsimp only [↓RE,RU,RL,if_true,if_false,forall_const,implies_true,Nat.reduceLeDiff,Nat.reduceLT,pureOp,binPure,intBin,strBin,eqPure,isConstO,unPure,sliceLo,sliceHi,slicePure,slice3Pure,lenPure,capPure,minPure,maxPure,buildP,resK,endV,yieldE,↓reduceIte,Nat.reduceEqDiff,reduceCtorEq,Nat.reduceAdd,Nat.reduceMul,Nat.reduceSub,Int.reduceLT,Int.reduceLE,Int.reduceToNat,Int.reduceAdd,Int.reduceSub,Int.reduceMul,ne_eq,decide_true,decide_false,tf26, he1]
      rw [c_seq]
      simp -dsimp only [↓RE,RU,RL,if_true,if_false,forall_const,implies_true,Nat.reduceLeDiff,Nat.reduceLT,pureOp,binPure,intBin,strBin,eqPure,isConstO,unPure,sliceLo,sliceHi,slicePure,slice3Pure,lenPure,capPure,minPure,maxPure,buildP,resK,endV,yieldE,↓reduceIte,Nat.reduceEqDiff,reduceCtorEq,Nat.reduceAdd,Nat.reduceMul,Nat.reduceSub,Int.reduceLT,Int.reduceLE,Int.reduceToNat,Int.reduceAdd,Int.reduceSub,Int.reduceMul,ne_eq,decide_true,decide_false,tf26, he1, he16]
      refine rbehind_no (fun w26 g26 => ?_)
      have hA26 := hA25.grow g26
      have h7 := h7.grow g26
      have h9 := h9.grow g26
      have h11 := h11.grow g26
      obtain ⟨x4, y4, z4, h13⟩ := hA26.bd
      simp -dsimp only [↓RE,RU,RL,if_true,if_false,forall_const,implies_true,Nat.reduceLeDiff,Nat.reduceLT,pureOp,binPure,intBin,strBin,eqPure,isConstO,unPure,sliceLo,sliceHi,slicePure,slice3Pure,lenPure,capPure,minPure,maxPure,buildP,resK,endV,yieldE,↓reduceIte,Nat.reduceEqDiff,reduceCtorEq,Nat.reduceAdd,Nat.reduceMul,Nat.reduceSub,Int.reduceLT,Int.reduceLE,Int.reduceToNat,Int.reduceAdd,Int.reduceSub,Int.reduceMul,ne_eq,decide_true,decide_false,tf26, he13]
      refine blk_st3 h13 rfl rfl rfl (fun w27 h13 k27 => ?_)
      have hA27 := hA26.set (by omega) k27 ⟨_, _, _, h13⟩
      have h7 := h7.keep k27 (by omega)
      have h9 := h9.keep k27 (by omega)
      have h11 := h11.keep k27 (by omega)
      refine os_gen (fun e' => (e' 0 = .pointer none ∧ e' 1 = .pointer none ∧ e' 2 = .slice (some ad) n c) ∧ (e' 7 = .pointer (some ⟨b7, 0, none⟩) ∧ e' 9 = .pointer (some ⟨b9, 0, none⟩) ∧ e' 11 = .pointer (some ⟨b11, 0, none⟩) ∧ e' 13 = .pointer (some ⟨b13, 0, none⟩)) ∧ e' 15 = .int .i64 k ∧ e' 16 = .int .i64 t ∧ e' 8 = .bool false ∧ e' 10 = .bool false ∧ e' 12 = .bool false ∧ e' 120 = .bool false) ⟨⟨?_, ?_, ?_⟩, ⟨?_, ?_, ?_, ?_⟩, ?_, ?_, ?_, ?_, ?_, ?_⟩ ?_
      · simp -dsimp only [↓RE,RU,RL,if_true,if_false,↓reduceIte,Nat.reduceEqDiff,reduceCtorEq,decide_true,decide_false, he0]
      · simp -dsimp only [↓RE,RU,RL,if_true,if_false,↓reduceIte,Nat.reduceEqDiff,reduceCtorEq,decide_true,decide_false, he1]
      · simp -dsimp only [↓RE,RU,RL,if_true,if_false,↓reduceIte,Nat.reduceEqDiff,reduceCtorEq,decide_true,decide_false, he2]
      · simp -dsimp only [↓RE,RU,RL,if_true,if_false,↓reduceIte,Nat.reduceEqDiff,reduceCtorEq,decide_true,decide_false, he7]
      · simp -dsimp only [↓RE,RU,RL,if_true,if_false,↓reduceIte,Nat.reduceEqDiff,reduceCtorEq,decide_true,decide_false, he9]
      · simp -dsimp only [↓RE,RU,RL,if_true,if_false,↓reduceIte,Nat.reduceEqDiff,reduceCtorEq,decide_true,decide_false, he11]
      · simp -dsimp only [↓RE,RU,RL,if_true,if_false,↓reduceIte,Nat.reduceEqDiff,reduceCtorEq,decide_true,decide_false, he13]
      · simp -dsimp only [↓RE,RU,RL,if_true,if_false,↓reduceIte,Nat.reduceEqDiff,reduceCtorEq,decide_true,decide_false, he15]
      · simp -dsimp only [↓RE,RU,RL,if_true,if_false,↓reduceIte,Nat.reduceEqDiff,reduceCtorEq,decide_true,decide_false, he16]
      · simp -dsimp only [↓RE,RU,RL,if_true,if_false,↓reduceIte,Nat.reduceEqDiff,reduceCtorEq,decide_true,decide_false, he0]
      · simp -dsimp only [↓RE,RU,RL,if_true,if_false,↓reduceIte,Nat.reduceEqDiff,reduceCtorEq,decide_true,decide_false, he0]
      · simp -dsimp only [↓RE,RU,RL,if_true,if_false,↓reduceIte,Nat.reduceEqDiff,reduceCtorEq,decide_true,decide_false, he0]
      · simp -dsimp only [↓RE,RU,RL,if_true,if_false,↓reduceIte,Nat.reduceEqDiff,reduceCtorEq,decide_true,decide_false, he0]
      clear he0 he1 he2 he7 he9 he11 he13 he15 he16 he17 he18 he19 he88
      rintro e ⟨⟨he0, he1, he2⟩, ⟨he7, he9, he11, he13⟩, he15, he16, he8, he10, he12, he120⟩
      simp -dsimp only [↓RE,RU,RL,if_true,if_false,forall_const,implies_true,Nat.reduceLeDiff,Nat.reduceLT,pureOp,binPure,intBin,strBin,eqPure,isConstO,unPure,sliceLo,sliceHi,slicePure,slice3Pure,lenPure,capPure,minPure,maxPure,buildP,resK,endV,yieldE,↓reduceIte,Nat.reduceEqDiff,reduceCtorEq,Nat.reduceAdd,Nat.reduceMul,Nat.reduceSub,Int.reduceLT,Int.reduceLE,Int.reduceToNat,Int.reduceAdd,Int.reduceSub,Int.reduceMul,ne_eq,decide_true,decide_false,tf26, he120]
      rw [c_seq, c_seq]
      simp -dsimp only [↓RE,RU,RL,if_true,if_false,forall_const,implies_true,Nat.reduceLeDiff,Nat.reduceLT,pureOp,binPure,intBin,strBin,eqPure,isConstO,unPure,sliceLo,sliceHi,slicePure,slice3Pure,lenPure,capPure,minPure,maxPure,buildP,resK,endV,yieldE,↓reduceIte,Nat.reduceEqDiff,reduceCtorEq,Nat.reduceAdd,Nat.reduceMul,Nat.reduceSub,Int.reduceLT,Int.reduceLE,Int.reduceToNat,Int.reduceAdd,Int.reduceSub,Int.reduceMul,ne_eq,decide_true,decide_false,tf26, he7, he9]
      refine blk_agg3 h7 ?_
      simp -dsimp only [↓RE,RU,RL,if_true,if_false,forall_const,implies_true,Nat.reduceLeDiff,Nat.reduceLT,pureOp,binPure,intBin,strBin,eqPure,isConstO,unPure,sliceLo,sliceHi,slicePure,slice3Pure,lenPure,capPure,minPure,maxPure,buildP,resK,endV,yieldE,↓reduceIte,Nat.reduceEqDiff,reduceCtorEq,Nat.reduceAdd,Nat.reduceMul,Nat.reduceSub,Int.reduceLT,Int.reduceLE,Int.reduceToNat,Int.reduceAdd,Int.reduceSub,Int.reduceMul,ne_eq,decide_true,decide_false,tf26, he9]
      refine blk_agg3 h9 ?_
      simp -dsimp only [↓RE,RU,RL,if_true,if_false,forall_const,implies_true,Nat.reduceLeDiff,Nat.reduceLT,pureOp,binPure,intBin,strBin,eqPure,isConstO,unPure,sliceLo,sliceHi,slicePure,slice3Pure,lenPure,capPure,minPure,maxPure,buildP,resK,endV,yieldE,↓reduceIte,Nat.reduceEqDiff,reduceCtorEq,Nat.reduceAdd,Nat.reduceMul,Nat.reduceSub,Int.reduceLT,Int.reduceLE,Int.reduceToNat,Int.reduceAdd,Int.reduceSub,Int.reduceMul,ne_eq,decide_true,decide_false,tf26, he8, he10, he11, he13, eq_self, decide_true, Bool.not_true, and_self, boolBeq, Option.map_some]
      refine blk_agg3 h11 ?_
      simp -dsimp only [↓RE,RU,RL,if_true,if_false,forall_const,implies_true,Nat.reduceLeDiff,Nat.reduceLT,pureOp,binPure,intBin,strBin,eqPure,isConstO,unPure,sliceLo,sliceHi,slicePure,slice3Pure,lenPure,capPure,minPure,maxPure,buildP,resK,endV,yieldE,↓reduceIte,Nat.reduceEqDiff,reduceCtorEq,Nat.reduceAdd,Nat.reduceMul,Nat.reduceSub,Int.reduceLT,Int.reduceLE,Int.reduceToNat,Int.reduceAdd,Int.reduceSub,Int.reduceMul,ne_eq,decide_true,decide_false,tf26, he13]
      refine blk_agg3 h13 ?_
      simp -dsimp only [↓RE,RU,RL,if_true,if_false,forall_const,implies_true,Nat.reduceLeDiff,Nat.reduceLT,pureOp,binPure,intBin,strBin,eqPure,isConstO,unPure,sliceLo,sliceHi,slicePure,slice3Pure,lenPure,capPure,minPure,maxPure,buildP,resK,endV,yieldE,↓reduceIte,Nat.reduceEqDiff,reduceCtorEq,Nat.reduceAdd,Nat.reduceMul,Nat.reduceSub,Int.reduceLT,Int.reduceLE,Int.reduceToNat,Int.reduceAdd,Int.reduceSub,Int.reduceMul,ne_eq,decide_true,decide_false,tf26, he12, he120, eq_self, decide_true, Bool.not_true, and_self, boolBeq, Option.map_some]
      rw [c_seq]
      simp -dsimp only [↓RE,RU,RL,if_true,if_false,forall_const,implies_true,Nat.reduceLeDiff,Nat.reduceLT,pureOp,binPure,intBin,strBin,eqPure,isConstO,unPure,sliceLo,sliceHi,slicePure,slice3Pure,lenPure,capPure,minPure,maxPure,buildP,resK,endV,yieldE,↓reduceIte,Nat.reduceEqDiff,reduceCtorEq,Nat.reduceAdd,Nat.reduceMul,Nat.reduceSub,Int.reduceLT,Int.reduceLE,Int.reduceToNat,Int.reduceAdd,Int.reduceSub,Int.reduceMul,ne_eq,decide_true,decide_false,tf26, he0]
      refine wpLoop_intro (fun e' w' => (e' 0 = .pointer none ∧ e' 1 = .pointer none ∧ e' 2 = .slice (some ad) n c) ∧ (e' 7 = .pointer (some ⟨b7, 0, none⟩) ∧ e' 9 = .pointer (some ⟨b9, 0, none⟩) ∧ e' 11 = .pointer (some ⟨b11, 0, none⟩) ∧ e' 13 = .pointer (some ⟨b13, 0, none⟩)) ∧ e' 15 = .int .i64 k ∧ e' 16 = .int .i64 t ∧ ∃ m : Nat, m ≤ n ∧ e' 21 = .int .i64 m ∧ AlN w w' b7 b9 b11 b13)
        (fun e' _ => n - (envInt (e' 21)).toNat) ⟨⟨?_, ?_, ?_⟩, ⟨?_, ?_, ?_, ?_⟩, ?_, ?_, 0, Nat.zero_le _, ?_, hA27⟩ ?_
      · simp -dsimp only [↓RE,RU,RL,if_true,if_false,↓reduceIte,Nat.reduceEqDiff,reduceCtorEq,decide_true,decide_false, he0]
      · simp -dsimp only [↓RE,RU,RL,if_true,if_false,↓reduceIte,Nat.reduceEqDiff,reduceCtorEq,decide_true,decide_false, he1]
      · simp -dsimp only [↓RE,RU,RL,if_true,if_false,↓reduceIte,Nat.reduceEqDiff,reduceCtorEq,decide_true,decide_false, he2]
      · simp -dsimp only [↓RE,RU,RL,if_true,if_false,↓reduceIte,Nat.reduceEqDiff,reduceCtorEq,decide_true,decide_false, he7]
      · simp -dsimp only [↓RE,RU,RL,if_true,if_false,↓reduceIte,Nat.reduceEqDiff,reduceCtorEq,decide_true,decide_false, he9]
      · simp -dsimp only [↓RE,RU,RL,if_true,if_false,↓reduceIte,Nat.reduceEqDiff,reduceCtorEq,decide_true,decide_false, he11]
      · simp -dsimp only [↓RE,RU,RL,if_true,if_false,↓reduceIte,Nat.reduceEqDiff,reduceCtorEq,decide_true,decide_false, he13]
      · simp -dsimp only [↓RE,RU,RL,if_true,if_false,↓reduceIte,Nat.reduceEqDiff,reduceCtorEq,decide_true,decide_false, he15]
      · simp -dsimp only [↓RE,RU,RL,if_true,if_false,↓reduceIte,Nat.reduceEqDiff,reduceCtorEq,decide_true,decide_false, he16]
      · simp -dsimp only [↓RE,RU,RL,if_true,if_false,↓reduceIte,Nat.reduceEqDiff,reduceCtorEq,decide_true,decide_false, he0, Int.cast_ofNat_Int]
      clear he0 he1 he2 he7 he9 he11 he13 he15 he16 he8 he10 he12 he120
      rintro e' w' ⟨⟨he0, he1, he2⟩, ⟨he7, he9, he11, he13⟩, he15, he16, m, hm, he21, hB⟩
      rw [c_seq, c_seq]
      simp -dsimp only [↓RE,RU,RL,if_true,if_false,forall_const,implies_true,Nat.reduceLeDiff,Nat.reduceLT,pureOp,binPure,intBin,strBin,eqPure,isConstO,unPure,sliceLo,sliceHi,slicePure,slice3Pure,lenPure,capPure,minPure,maxPure,buildP,resK,endV,yieldE,↓reduceIte,Nat.reduceEqDiff,reduceCtorEq,Nat.reduceAdd,Nat.reduceMul,Nat.reduceSub,Int.reduceLT,Int.reduceLE,Int.reduceToNat,Int.reduceAdd,Int.reduceSub,Int.reduceMul,ne_eq,decide_true,decide_false,tf26, he2, he21]
      refine ⟨fun hlt2 => ?_, fun hge2 => ?_⟩
      · have hmn : m < n := by omega
        have rt : ∀ w1, Grow w' w1 → w1.cell? (ad.add m) = some (.int .i64 (ts.getD m 0)) := fun w1 g1 => by
          obtain ⟨ad', h1, h2⟩ := (hT.grow (hB.gr.trans g1)).int (k := m) hmn
          injection h1 with h1
          subst h1
          exact h2
        have hw2 : IntKind.i64.wrap ((m : Int) + 1) = ((m + 1 : Nat) : Int) := by rw [wrap_i64_in (by omega) (by omega)]; omega
        generalize ts.getD m 0 = u at rt
        rw [c_seq]
        simp -dsimp only [↓RE,RU,RL,if_true,if_false,forall_const,implies_true,Nat.reduceLeDiff,Nat.reduceLT,pureOp,binPure,intBin,strBin,eqPure,isConstO,unPure,sliceLo,sliceHi,slicePure,slice3Pure,lenPure,capPure,minPure,maxPure,buildP,resK,endV,yieldE,↓reduceIte,Nat.reduceEqDiff,reduceCtorEq,Nat.reduceAdd,Nat.reduceMul,Nat.reduceSub,Int.reduceLT,Int.reduceLE,Int.reduceToNat,Int.reduceAdd,Int.reduceSub,Int.reduceMul,ne_eq,decide_true,decide_false,tf26, he0]
        rw [c_seq]
        simp -dsimp only [↓RE,RU,RL,if_true,if_false,forall_const,implies_true,Nat.reduceLeDiff,Nat.reduceLT,pureOp,binPure,intBin,strBin,eqPure,isConstO,unPure,sliceLo,sliceHi,slicePure,slice3Pure,lenPure,capPure,minPure,maxPure,buildP,resK,endV,yieldE,↓reduceIte,Nat.reduceEqDiff,reduceCtorEq,Nat.reduceAdd,Nat.reduceMul,Nat.reduceSub,Int.reduceLT,Int.reduceLE,Int.reduceToNat,Int.reduceAdd,Int.reduceSub,Int.reduceMul,ne_eq,decide_true,decide_false,tf26, he0]
        refine wpDraw_by (Grow w' ·) [(0, true), (1, true), (2, true), (3, true), (4, true), (5, true), (7, true), (8, true), (9, true), (10, true), (11, true), (12, true), (6, false), (13, false), (14, false), (15, true)] (by kernel_rfl) (Grow.drew w') ?_
        simp only [planL, List.getElem?_toArray, List.getElem?_cons_zero, List.getElem?_cons_succ, Option.toList_some, List.map_cons, List.map_nil, List.cons_append, List.nil_append]
        simp -dsimp only [↓RE,RU,RL,if_true,if_false,forall_const,implies_true,Nat.reduceLeDiff,Nat.reduceLT,pureOp,binPure,intBin,strBin,eqPure,isConstO,unPure,sliceLo,sliceHi,slicePure,slice3Pure,lenPure,capPure,minPure,maxPure,buildP,resK,endV,yieldE,↓reduceIte,Nat.reduceEqDiff,reduceCtorEq,Nat.reduceAdd,Nat.reduceMul,Nat.reduceSub,Int.reduceLT,Int.reduceLE,Int.reduceToNat,Int.reduceAdd,Int.reduceSub,Int.reduceMul,ne_eq,decide_true,decide_false,tf26, he0, he2, he21, Nat.mul_one]
        refine ⟨by omega, _, fun w1 g1 => rt w1 g1, ?_⟩
        simp -dsimp only [↓RE,RU,RL,if_true,if_false,forall_const,implies_true,Nat.reduceLeDiff,Nat.reduceLT,pureOp,binPure,intBin,strBin,eqPure,isConstO,unPure,sliceLo,sliceHi,slicePure,slice3Pure,lenPure,capPure,minPure,maxPure,buildP,resK,endV,yieldE,↓reduceIte,Nat.reduceEqDiff,reduceCtorEq,Nat.reduceAdd,Nat.reduceMul,Nat.reduceSub,Int.reduceLT,Int.reduceLE,Int.reduceToNat,Int.reduceAdd,Int.reduceSub,Int.reduceMul,ne_eq,decide_true,decide_false,tf26, he0, he2, he21, Nat.mul_one]
        refine ⟨by omega, _, fun w1 g1 => rt w1 g1, ?_⟩
        simp -dsimp only [↓RE,RU,RL,if_true,if_false,forall_const,implies_true,Nat.reduceLeDiff,Nat.reduceLT,pureOp,binPure,intBin,strBin,eqPure,isConstO,unPure,sliceLo,sliceHi,slicePure,slice3Pure,lenPure,capPure,minPure,maxPure,buildP,resK,endV,yieldE,↓reduceIte,Nat.reduceEqDiff,reduceCtorEq,Nat.reduceAdd,Nat.reduceMul,Nat.reduceSub,Int.reduceLT,Int.reduceLE,Int.reduceToNat,Int.reduceAdd,Int.reduceSub,Int.reduceMul,ne_eq,decide_true,decide_false,tf26, he0, he1, he16]
        have hBd := hB.grow (Grow.drew w')
        refine range_no ?_
        simp -dsimp only [↓RE,RU,RL,if_true,if_false,forall_const,implies_true,Nat.reduceLeDiff,Nat.reduceLT,pureOp,binPure,intBin,strBin,eqPure,isConstO,unPure,sliceLo,sliceHi,slicePure,slice3Pure,lenPure,capPure,minPure,maxPure,buildP,resK,endV,yieldE,↓reduceIte,Nat.reduceEqDiff,reduceCtorEq,Nat.reduceAdd,Nat.reduceMul,Nat.reduceSub,Int.reduceLT,Int.reduceLE,Int.reduceToNat,Int.reduceAdd,Int.reduceSub,Int.reduceMul,ne_eq,decide_true,decide_false,tf26, he1, he16]
        refine ⟨Grow.drew w', ?_⟩
        try simp -dsimp only [↓RE,↓c_seq,RU,RL,if_true,if_false,forall_const,implies_true,Nat.reduceLeDiff,Nat.reduceLT,pureOp,binPure,intBin,strBin,eqPure,isConstO,unPure,sliceLo,sliceHi,slicePure,slice3Pure,lenPure,capPure,minPure,maxPure,buildP,resK,endV,yieldE,↓reduceIte,Nat.reduceEqDiff,reduceCtorEq,Nat.reduceAdd,Nat.reduceMul,Nat.reduceSub,Int.reduceLT,Int.reduceLE,Int.reduceToNat,Int.reduceAdd,Int.reduceSub,Int.reduceMul,ne_eq,decide_true,decide_false,tf26, he1, he16]
        refine rrange_no ?_
        simp -dsimp only [↓RE,RU,RL,if_true,if_false,forall_const,implies_true,Nat.reduceLeDiff,Nat.reduceLT,pureOp,binPure,intBin,strBin,eqPure,isConstO,unPure,sliceLo,sliceHi,slicePure,slice3Pure,lenPure,capPure,minPure,maxPure,buildP,resK,endV,yieldE,↓reduceIte,Nat.reduceEqDiff,reduceCtorEq,Nat.reduceAdd,Nat.reduceMul,Nat.reduceSub,Int.reduceLT,Int.reduceLE,Int.reduceToNat,Int.reduceAdd,Int.reduceSub,Int.reduceMul,ne_eq,decide_true,decide_false,tf26, he1]
        refine ⟨Grow.drew w', ?_⟩
        try simp -dsimp only [↓RE,↓c_seq,RU,RL,if_true,if_false,forall_const,implies_true,Nat.reduceLeDiff,Nat.reduceLT,pureOp,binPure,intBin,strBin,eqPure,isConstO,unPure,sliceLo,sliceHi,slicePure,slice3Pure,lenPure,capPure,minPure,maxPure,buildP,resK,endV,yieldE,↓reduceIte,Nat.reduceEqDiff,reduceCtorEq,Nat.reduceAdd,Nat.reduceMul,Nat.reduceSub,Int.reduceLT,Int.reduceLE,Int.reduceToNat,Int.reduceAdd,Int.reduceSub,Int.reduceMul,ne_eq,decide_true,decide_false,tf26, he1]
        refine msameSamples_ok (xs := []) (ys := []) (srow_nil _).rd (srow_nil _).rd (by omega) (by omega) (fun w32 g32 => ?_)
        rw [decide_eq_true rfl]
        simp -dsimp only [↓RE,RU,RL,if_true,if_false,forall_const,implies_true,Nat.reduceLeDiff,Nat.reduceLT,pureOp,binPure,intBin,strBin,eqPure,isConstO,unPure,sliceLo,sliceHi,slicePure,slice3Pure,lenPure,capPure,minPure,maxPure,buildP,resK,endV,yieldE,↓reduceIte,Nat.reduceEqDiff,reduceCtorEq,Nat.reduceAdd,Nat.reduceMul,Nat.reduceSub,Int.reduceLT,Int.reduceLE,Int.reduceToNat,Int.reduceAdd,Int.reduceSub,Int.reduceMul,ne_eq,decide_true,decide_false,tf26, he1]
        refine ⟨(Grow.drew w').trans g32, ?_⟩
        have hB32 := hBd.grow g32
        try simp -dsimp only [↓RE,↓c_seq,RU,RL,if_true,if_false,forall_const,implies_true,Nat.reduceLeDiff,Nat.reduceLT,pureOp,binPure,intBin,strBin,eqPure,isConstO,unPure,sliceLo,sliceHi,slicePure,slice3Pure,lenPure,capPure,minPure,maxPure,buildP,resK,endV,yieldE,↓reduceIte,Nat.reduceEqDiff,reduceCtorEq,Nat.reduceAdd,Nat.reduceMul,Nat.reduceSub,Int.reduceLT,Int.reduceLE,Int.reduceToNat,Int.reduceAdd,Int.reduceSub,Int.reduceMul,ne_eq,decide_true,decide_false,tf26, he21, hw2]
        refine hold_intro ⟨⟨⟨by simp -dsimp only [↓RE,RU,RL,if_true,if_false,↓reduceIte,Nat.reduceEqDiff,reduceCtorEq,decide_true,decide_false, he0], by simp -dsimp only [↓RE,RU,RL,if_true,if_false,↓reduceIte,Nat.reduceEqDiff,reduceCtorEq,decide_true,decide_false, he1], by simp -dsimp only [↓RE,RU,RL,if_true,if_false,↓reduceIte,Nat.reduceEqDiff,reduceCtorEq,decide_true,decide_false, he2]⟩, ⟨by simp -dsimp only [↓RE,RU,RL,if_true,if_false,↓reduceIte,Nat.reduceEqDiff,reduceCtorEq,decide_true,decide_false, he7], by simp -dsimp only [↓RE,RU,RL,if_true,if_false,↓reduceIte,Nat.reduceEqDiff,reduceCtorEq,decide_true,decide_false, he9], by simp -dsimp only [↓RE,RU,RL,if_true,if_false,↓reduceIte,Nat.reduceEqDiff,reduceCtorEq,decide_true,decide_false, he11], by simp -dsimp only [↓RE,RU,RL,if_true,if_false,↓reduceIte,Nat.reduceEqDiff,reduceCtorEq,decide_true,decide_false, he13]⟩, by simp -dsimp only [↓RE,RU,RL,if_true,if_false,↓reduceIte,Nat.reduceEqDiff,reduceCtorEq,decide_true,decide_false, he15], by simp -dsimp only [↓RE,RU,RL,if_true,if_false,↓reduceIte,Nat.reduceEqDiff,reduceCtorEq,decide_true,decide_false, he16], m + 1, by omega, by simp -dsimp only [↓RE,RU,RL,if_true,if_false,↓reduceIte,Nat.reduceEqDiff,reduceCtorEq,decide_true,decide_false, he21, hw2], hB32⟩, ?_⟩
        simp -dsimp only [↓RE,↓c_seq,RU,RL,if_true,if_false,forall_const,implies_true,Nat.reduceLeDiff,Nat.reduceLT,pureOp,binPure,intBin,strBin,eqPure,isConstO,unPure,sliceLo,sliceHi,slicePure,slice3Pure,lenPure,capPure,minPure,maxPure,buildP,resK,endV,yieldE,↓reduceIte,Nat.reduceEqDiff,reduceCtorEq,Nat.reduceAdd,Nat.reduceMul,Nat.reduceSub,Int.reduceLT,Int.reduceLE,Int.reduceToNat,Int.reduceAdd,Int.reduceSub,Int.reduceMul,ne_eq,decide_true,decide_false,tf26, he21, hw2]
        simp only [envInt_int]; omega
      · try simp -dsimp only [↓RE,↓c_seq,RU,RL,if_true,if_false,forall_const,implies_true,Nat.reduceLeDiff,Nat.reduceLT,pureOp,binPure,intBin,strBin,eqPure,isConstO,unPure,sliceLo,sliceHi,slicePure,slice3Pure,lenPure,capPure,minPure,maxPure,buildP,resK,endV,yieldE,↓reduceIte,Nat.reduceEqDiff,reduceCtorEq,Nat.reduceAdd,Nat.reduceMul,Nat.reduceSub,Int.reduceLT,Int.reduceLE,Int.reduceToNat,Int.reduceAdd,Int.reduceSub,Int.reduceMul,ne_eq,decide_true,decide_false,tf26, he15, hw1]
        refine hold_intro ⟨⟨⟨by simp -dsimp only [↓RE,RU,RL,if_true,if_false,↓reduceIte,Nat.reduceEqDiff,reduceCtorEq,decide_true,decide_false, he0], by simp -dsimp only [↓RE,RU,RL,if_true,if_false,↓reduceIte,Nat.reduceEqDiff,reduceCtorEq,decide_true,decide_false, he1], by simp -dsimp only [↓RE,RU,RL,if_true,if_false,↓reduceIte,Nat.reduceEqDiff,reduceCtorEq,decide_true,decide_false, he2]⟩, ⟨by simp -dsimp only [↓RE,RU,RL,if_true,if_false,↓reduceIte,Nat.reduceEqDiff,reduceCtorEq,decide_true,decide_false, he7], by simp -dsimp only [↓RE,RU,RL,if_true,if_false,↓reduceIte,Nat.reduceEqDiff,reduceCtorEq,decide_true,decide_false, he9], by simp -dsimp only [↓RE,RU,RL,if_true,if_false,↓reduceIte,Nat.reduceEqDiff,reduceCtorEq,decide_true,decide_false, he11], by simp -dsimp only [↓RE,RU,RL,if_true,if_false,↓reduceIte,Nat.reduceEqDiff,reduceCtorEq,decide_true,decide_false, he13]⟩, k + 1, by omega, by simp -dsimp only [↓RE,RU,RL,if_true,if_false,↓reduceIte,Nat.reduceEqDiff,reduceCtorEq,decide_true,decide_false, he15, hw1], hB⟩, ?_⟩
        simp -dsimp only [↓RE,↓c_seq,RU,RL,if_true,if_false,forall_const,implies_true,Nat.reduceLeDiff,Nat.reduceLT,pureOp,binPure,intBin,strBin,eqPure,isConstO,unPure,sliceLo,sliceHi,slicePure,slice3Pure,lenPure,capPure,minPure,maxPure,buildP,resK,endV,yieldE,↓reduceIte,Nat.reduceEqDiff,reduceCtorEq,Nat.reduceAdd,Nat.reduceMul,Nat.reduceSub,Int.reduceLT,Int.reduceLE,Int.reduceToNat,Int.reduceAdd,Int.reduceSub,Int.reduceMul,ne_eq,decide_true,decide_false,tf26, he15o, he15, hw1]
        simp only [envInt_int]; omega
    · exact hold_intro hA.gr
  · rintro e w' hg
    try simp -dsimp only [↓RE,↓c_seq,RU,RL,if_true,if_false,forall_const,implies_true,Nat.reduceLeDiff,Nat.reduceLT,pureOp,binPure,intBin,strBin,eqPure,isConstO,unPure,sliceLo,sliceHi,slicePure,slice3Pure,lenPure,capPure,minPure,maxPure,buildP,resK,endV,yieldE,↓reduceIte,Nat.reduceEqDiff,reduceCtorEq,Nat.reduceAdd,Nat.reduceMul,Nat.reduceSub,Int.reduceLT,Int.reduceLE,Int.reduceToNat,Int.reduceAdd,Int.reduceSub,Int.reduceMul,ne_eq,decide_true,decide_false,tf26, eq_self]
    exact h w' hg
theorem none_walk {w : World} {A : Option Addr} {n c : Nat} {ops : List StepV} (hR : Rd w A n 6 (ops.flatMap StepV.cells)) (ho : ∀ o ∈ ops, o.Ok w) (hn : stot ops ≤ 1048576) {R : VWK}
    (h : ∀ w', Grow w w' → R (.bool true) w') : CallsV Try.prog 8 [.slice A n c] w R := by
  have hl := hR.steps_len
  have hnl : n ≤ 1048576 := by have := len_stot ops; omega
  refine calls_of_wpC mixed Try.func8 rfl (by kernel_rfl) ?_
  intro e he
  have he0 := he 0
  simp only [List.getD_cons_zero, List.getD_cons_succ] at he0
  clear he
  rw [c_seq]
  simp -dsimp only [↓RE,RU,RL,if_true,if_false,forall_const,implies_true,Nat.reduceLeDiff,Nat.reduceLT,pureOp,binPure,intBin,strBin,eqPure,isConstO,unPure,sliceLo,sliceHi,slicePure,slice3Pure,lenPure,capPure,minPure,maxPure,buildP,resK,endV,yieldE,↓reduceIte,Nat.reduceEqDiff,reduceCtorEq,Nat.reduceAdd,Nat.reduceMul,Nat.reduceSub,Int.reduceLT,Int.reduceLE,Int.reduceToNat,Int.reduceAdd,Int.reduceSub,Int.reduceMul,ne_eq,decide_true,decide_false,tf8, he0]
  rw [c_seq, c_seq]
  simp -dsimp only [↓RE,RU,RL,if_true,if_false,forall_const,implies_true,Nat.reduceLeDiff,Nat.reduceLT,pureOp,binPure,intBin,strBin,eqPure,isConstO,unPure,sliceLo,sliceHi,slicePure,slice3Pure,lenPure,capPure,minPure,maxPure,buildP,resK,endV,yieldE,↓reduceIte,Nat.reduceEqDiff,reduceCtorEq,Nat.reduceAdd,Nat.reduceMul,Nat.reduceSub,Int.reduceLT,Int.reduceLE,Int.reduceToNat,Int.reduceAdd,Int.reduceSub,Int.reduceMul,ne_eq,decide_true,decide_false,tf8, he0]
  refine live_ok (fun w1 g1 => ?_)
  simp -dsimp only [↓RE,RU,RL,if_true,if_false,forall_const,implies_true,Nat.reduceLeDiff,Nat.reduceLT,pureOp,binPure,intBin,strBin,eqPure,isConstO,unPure,sliceLo,sliceHi,slicePure,slice3Pure,lenPure,capPure,minPure,maxPure,buildP,resK,endV,yieldE,↓reduceIte,Nat.reduceEqDiff,reduceCtorEq,Nat.reduceAdd,Nat.reduceMul,Nat.reduceSub,Int.reduceLT,Int.reduceLE,Int.reduceToNat,Int.reduceAdd,Int.reduceSub,Int.reduceMul,ne_eq,decide_true,decide_false,tf8, he0]
  rw [c_seq]
  simp -dsimp only [↓RE,RU,RL,if_true,if_false,forall_const,implies_true,Nat.reduceLeDiff,Nat.reduceLT,pureOp,binPure,intBin,strBin,eqPure,isConstO,unPure,sliceLo,sliceHi,slicePure,slice3Pure,lenPure,capPure,minPure,maxPure,buildP,resK,endV,yieldE,↓reduceIte,Nat.reduceEqDiff,reduceCtorEq,Nat.reduceAdd,Nat.reduceMul,Nat.reduceSub,Int.reduceLT,Int.reduceLE,Int.reduceToNat,Int.reduceAdd,Int.reduceSub,Int.reduceMul,ne_eq,decide_true,decide_false,tf8, he0]
  refine c_seq_cut (fun e' w' => (e' 0 = .slice A n c ∧ e' 3 = .pointer none) ∧ Grow w w') ?_ ?_
  · rw [c_seq]
    simp -dsimp only [↓RE,RU,RL,if_true,if_false,forall_const,implies_true,Nat.reduceLeDiff,Nat.reduceLT,pureOp,binPure,intBin,strBin,eqPure,isConstO,unPure,sliceLo,sliceHi,slicePure,slice3Pure,lenPure,capPure,minPure,maxPure,buildP,resK,endV,yieldE,↓reduceIte,Nat.reduceEqDiff,reduceCtorEq,Nat.reduceAdd,Nat.reduceMul,Nat.reduceSub,Int.reduceLT,Int.reduceLE,Int.reduceToNat,Int.reduceAdd,Int.reduceSub,Int.reduceMul,ne_eq,decide_true,decide_false,tf8, he0]
    refine wpLoop_intro (fun e' w' => (e' 0 = .slice A n c ∧ e' 3 = .pointer none) ∧ ∃ (i : Nat), i ≤ n ∧ e' 4 = .int .i64 i ∧ Grow w w')
      (fun e' _ => n - (envInt (e' 4)).toNat) ⟨⟨?_, ?_⟩, 0, Nat.zero_le _, ?_, g1⟩ ?_
    · simp -dsimp only [↓RE,RU,RL,if_true,if_false,↓reduceIte,Nat.reduceEqDiff,reduceCtorEq,decide_true,decide_false, he0]
    · simp -dsimp only [↓RE,RU,RL,if_true,if_false,↓reduceIte,Nat.reduceEqDiff,reduceCtorEq,decide_true,decide_false, he0]
    · simp -dsimp only [↓RE,RU,RL,if_true,if_false,↓reduceIte,Nat.reduceEqDiff,reduceCtorEq,decide_true,decide_false, he0, Int.cast_ofNat_Int]
    clear he0
    rintro e' w' ⟨⟨he0, he3⟩, i, hi, hei, hg⟩
    rw [c_seq, c_seq]
    simp -dsimp only [↓RE,RU,RL,if_true,if_false,forall_const,implies_true,Nat.reduceLeDiff,Nat.reduceLT,pureOp,binPure,intBin,strBin,eqPure,isConstO,unPure,sliceLo,sliceHi,slicePure,slice3Pure,lenPure,capPure,minPure,maxPure,buildP,resK,endV,yieldE,↓reduceIte,Nat.reduceEqDiff,reduceCtorEq,Nat.reduceAdd,Nat.reduceMul,Nat.reduceSub,Int.reduceLT,Int.reduceLE,Int.reduceToNat,Int.reduceAdd,Int.reduceSub,Int.reduceMul,ne_eq,decide_true,decide_false,tf8, he0, hei]
    refine ⟨fun hlt => ?_, fun hge => ?_⟩
    · have hin : i < n := by omega
      obtain ⟨ad, rfl⟩ := hR.some (by omega)
      have hoi : (ops.getD i step0).Ok w := by rw [stepD_lt (by omega)]; exact ho _ (List.getElem_mem _)
      obtain ⟨_, _, _, _, _, hss⟩ := (hR.grow hg).stp' hin
      have hw1 : IntKind.i64.wrap ((i : Int) + 1) = ((i + 1 : Nat) : Int) := by rw [wrap_i64_in (by omega) (by omega)]; omega
      have hst := stot_take (ops := ops) (i := i) (by omega)
      have hst2 := stot_le ops (i + 1)
      generalize ops.getD i step0 = o at hoi hss hst
      rw [c_seq]
      simp -dsimp only [↓RE,RU,RL,if_true,if_false,forall_const,implies_true,Nat.reduceLeDiff,Nat.reduceLT,pureOp,binPure,intBin,strBin,eqPure,isConstO,unPure,sliceLo,sliceHi,slicePure,slice3Pure,lenPure,capPure,minPure,maxPure,buildP,resK,endV,yieldE,↓reduceIte,Nat.reduceEqDiff,reduceCtorEq,Nat.reduceAdd,Nat.reduceMul,Nat.reduceSub,Int.reduceLT,Int.reduceLE,Int.reduceToNat,Int.reduceAdd,Int.reduceSub,Int.reduceMul,ne_eq,decide_true,decide_false,tf8, he0]
      rw [c_seq]
      simp -dsimp only [↓RE,RU,RL,if_true,if_false,forall_const,implies_true,Nat.reduceLeDiff,Nat.reduceLT,pureOp,binPure,intBin,strBin,eqPure,isConstO,unPure,sliceLo,sliceHi,slicePure,slice3Pure,lenPure,capPure,minPure,maxPure,buildP,resK,endV,yieldE,↓reduceIte,Nat.reduceEqDiff,reduceCtorEq,Nat.reduceAdd,Nat.reduceMul,Nat.reduceSub,Int.reduceLT,Int.reduceLE,Int.reduceToNat,Int.reduceAdd,Int.reduceSub,Int.reduceMul,ne_eq,decide_true,decide_false,tf8, he0, he3, hei]
      refine ⟨by omega, hss ?_⟩
      simp -dsimp only [↓RE,RU,RL,if_true,if_false,forall_const,implies_true,Nat.reduceLeDiff,Nat.reduceLT,pureOp,binPure,intBin,strBin,eqPure,isConstO,unPure,sliceLo,sliceHi,slicePure,slice3Pure,lenPure,capPure,minPure,maxPure,buildP,resK,endV,yieldE,↓reduceIte,Nat.reduceEqDiff,reduceCtorEq,Nat.reduceAdd,Nat.reduceMul,Nat.reduceSub,Int.reduceLT,Int.reduceLE,Int.reduceToNat,Int.reduceAdd,Int.reduceSub,Int.reduceMul,ne_eq,decide_true,decide_false,tf8, he0, he3]
      refine step_no (hoi.rd.grow hg) (by omega) (fun w5 g5 => ?_)
      simp -dsimp only [↓RE,RU,RL,if_true,if_false,forall_const,implies_true,Nat.reduceLeDiff,Nat.reduceLT,pureOp,binPure,intBin,strBin,eqPure,isConstO,unPure,sliceLo,sliceHi,slicePure,slice3Pure,lenPure,capPure,minPure,maxPure,buildP,resK,endV,yieldE,↓reduceIte,Nat.reduceEqDiff,reduceCtorEq,Nat.reduceAdd,Nat.reduceMul,Nat.reduceSub,Int.reduceLT,Int.reduceLE,Int.reduceToNat,Int.reduceAdd,Int.reduceSub,Int.reduceMul,ne_eq,decide_true,decide_false,tf8, hei, hw1]
      refine hold_intro ⟨⟨⟨by simp -dsimp only [↓RE,RU,RL,if_true,if_false,↓reduceIte,Nat.reduceEqDiff,reduceCtorEq,decide_true,decide_false, he0], by simp -dsimp only [↓RE,RU,RL,if_true,if_false,↓reduceIte,Nat.reduceEqDiff,reduceCtorEq,decide_true,decide_false, he3]⟩, i + 1, by omega, by simp -dsimp only [↓RE,RU,RL,if_true,if_false,↓reduceIte,Nat.reduceEqDiff,reduceCtorEq,decide_true,decide_false, hei, hw1], hg.trans g5⟩, ?_⟩
      simp -dsimp only [↓RE,↓c_seq,RU,RL,if_true,if_false,forall_const,implies_true,Nat.reduceLeDiff,Nat.reduceLT,pureOp,binPure,intBin,strBin,eqPure,isConstO,unPure,sliceLo,sliceHi,slicePure,slice3Pure,lenPure,capPure,minPure,maxPure,buildP,resK,endV,yieldE,↓reduceIte,Nat.reduceEqDiff,reduceCtorEq,Nat.reduceAdd,Nat.reduceMul,Nat.reduceSub,Int.reduceLT,Int.reduceLE,Int.reduceToNat,Int.reduceAdd,Int.reduceSub,Int.reduceMul,ne_eq,decide_true,decide_false,tf8, hei, hw1]
      simp only [envInt_int]; omega
    · exact hold_intro ⟨⟨by simp -dsimp only [↓RE,RU,RL,if_true,if_false,↓reduceIte,Nat.reduceEqDiff,reduceCtorEq,decide_true,decide_false, he0], by simp -dsimp only [↓RE,RU,RL,if_true,if_false,↓reduceIte,Nat.reduceEqDiff,reduceCtorEq,decide_true,decide_false, he3]⟩, hg⟩
  · clear he0
    rintro e w' ⟨⟨he0, he3⟩, hg⟩
    rw [c_seq]
    simp -dsimp only [↓RE,RU,RL,if_true,if_false,forall_const,implies_true,Nat.reduceLeDiff,Nat.reduceLT,pureOp,binPure,intBin,strBin,eqPure,isConstO,unPure,sliceLo,sliceHi,slicePure,slice3Pure,lenPure,capPure,minPure,maxPure,buildP,resK,endV,yieldE,↓reduceIte,Nat.reduceEqDiff,reduceCtorEq,Nat.reduceAdd,Nat.reduceMul,Nat.reduceSub,Int.reduceLT,Int.reduceLE,Int.reduceToNat,Int.reduceAdd,Int.reduceSub,Int.reduceMul,ne_eq,decide_true,decide_false,tf8, he0, he3]
    refine fork_no ?_
    simp -dsimp only [↓RE,RU,RL,if_true,if_false,forall_const,implies_true,Nat.reduceLeDiff,Nat.reduceLT,pureOp,binPure,intBin,strBin,eqPure,isConstO,unPure,sliceLo,sliceHi,slicePure,slice3Pure,lenPure,capPure,minPure,maxPure,buildP,resK,endV,yieldE,↓reduceIte,Nat.reduceEqDiff,reduceCtorEq,Nat.reduceAdd,Nat.reduceMul,Nat.reduceSub,Int.reduceLT,Int.reduceLE,Int.reduceToNat,Int.reduceAdd,Int.reduceSub,Int.reduceMul,ne_eq,decide_true,decide_false,tf8, he0, he3]
    refine named_ok (hR.grow hg) (fun o h => (ho o h).grow hg) (by omega) (fun w6 At ct ts hT hTl g6 hTf => ?_)
    simp -dsimp only [↓RE,RU,RL,if_true,if_false,forall_const,implies_true,Nat.reduceLeDiff,Nat.reduceLT,pureOp,binPure,intBin,strBin,eqPure,isConstO,unPure,sliceLo,sliceHi,slicePure,slice3Pure,lenPure,capPure,minPure,maxPure,buildP,resK,endV,yieldE,↓reduceIte,Nat.reduceEqDiff,reduceCtorEq,Nat.reduceAdd,Nat.reduceMul,Nat.reduceSub,Int.reduceLT,Int.reduceLE,Int.reduceToNat,Int.reduceAdd,Int.reduceSub,Int.reduceMul,ne_eq,decide_true,decide_false,tf8, he3]
    refine alike_no hT.rd (by omega) (fun w7 g7 => ?_)
    try simp -dsimp only [↓RE,↓c_seq,RU,RL,if_true,if_false,forall_const,implies_true,Nat.reduceLeDiff,Nat.reduceLT,pureOp,binPure,intBin,strBin,eqPure,isConstO,unPure,sliceLo,sliceHi,slicePure,slice3Pure,lenPure,capPure,minPure,maxPure,buildP,resK,endV,yieldE,↓reduceIte,Nat.reduceEqDiff,reduceCtorEq,Nat.reduceAdd,Nat.reduceMul,Nat.reduceSub,Int.reduceLT,Int.reduceLE,Int.reduceToNat,Int.reduceAdd,Int.reduceSub,Int.reduceMul,ne_eq,decide_true,decide_false,tf8, eq_self]
    exact h w7 ((hg.trans g6).trans g7)

end Go.Proofs.Ytcnebgokbjpjnaa
