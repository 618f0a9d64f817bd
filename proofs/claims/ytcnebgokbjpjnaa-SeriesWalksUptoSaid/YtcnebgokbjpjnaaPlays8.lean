/- The laws SeriesPlays, SeriesSeldom: their walks. -/
import Derived.Test.YtcnebgokbjpjnaaNamed8
import Derived.Test.YtcnebgokbjpjnaaOpenS
set_option linter.unusedVariables false
set_option linter.unusedSimpArgs false
set_option maxRecDepth 100000
namespace Go.Proofs.Ytcnebgokbjpjnaa
open Go

def tRun (ops : List StepV) : List Smp := ops.foldl tStep []
theorem StepV.Ok.grow {w w' : World} {o : StepV} (h : o.Ok w) (k : Grow w w') : o.Ok w' := ⟨h.t0, h.u0, h.v0, h.rd.grow k, h.smp⟩
theorem len_stot : ∀ ops : List StepV, ops.length ≤ stot ops
  | [] => Nat.le_refl _
  | o :: ops => by have := len_stot ops; simp only [stot, List.length_cons]; omega
theorem stot_app : ∀ a b : List StepV, stot (a ++ b) = stot a + stot b
  | [], b => by simp [stot]
  | o :: a, b => by have := stot_app a b; simp only [stot, List.cons_append]; omega
theorem stot_take {ops : List StepV} {i : Nat} (h : i < ops.length) : stot (ops.take (i + 1)) = stot (ops.take i) + (1 + (ops.getD i step0).m) := by
  rw [take_snoc step0 h, stot_app]; simp [stot]
theorem stot_le (ops : List StepV) (i : Nat) : stot (ops.take i) ≤ stot ops := by
  have := stot_app (ops.take i) (ops.drop i)
  rw [List.take_append_drop] at this
  omega
theorem tstep_len {l : List Smp} (hr : Rise l) (o : StepV) (hm : o.l.length = o.m) : (tStep l o).length ≤ l.length + 1 + o.m := by
  unfold tStep
  split
  · have := put_len_le o.t o.v hr; omega
  split
  · have : (sCut l o.t).length ≤ l.length := List.length_filter_le _ _; omega
  split
  · have : (sDel l o.t o.u).length ≤ l.length := List.length_filter_le _ _; omega
  split
  · have := sload_len o.l hr; omega
  · omega
theorem seldom_walk {w : World} {A : Option Addr} {n c : Nat} {ops : List StepV} (hR : Rd w A n 6 (ops.flatMap StepV.cells)) (ho : ∀ o ∈ ops, o.Ok w) (hn : stot ops ≤ 1048576) {R : VWK}
    (h : ∀ w', Grow w w' → R (.bool true) w') : CallsV Try.prog 6 [.slice A n c] w R := by
  have hl := hR.steps_len
  have hnl : n ≤ 1048576 := by have := len_stot ops; omega
  refine calls_of_wpC mixed Try.func6 rfl (by kernel_rfl) ?_
  intro e he
  have he0 := he 0
  simp only [List.getD_cons_zero, List.getD_cons_succ] at he0
  clear he
  rw [c_seq]
  simp -dsimp only [↓RE,RU,RL,if_true,if_false,forall_const,implies_true,Nat.reduceLeDiff,Nat.reduceLT,pureOp,binPure,intBin,strBin,eqPure,isConstO,unPure,sliceLo,sliceHi,slicePure,slice3Pure,lenPure,capPure,minPure,maxPure,buildP,resK,endV,yieldE,↓reduceIte,Nat.reduceEqDiff,reduceCtorEq,Nat.reduceAdd,Nat.reduceMul,Nat.reduceSub,Int.reduceLT,Int.reduceLE,Int.reduceToNat,Int.reduceAdd,Int.reduceSub,Int.reduceMul,ne_eq,decide_true,decide_false,tf6, he0]
  rw [c_seq, c_seq]
  simp -dsimp only [↓RE,RU,RL,if_true,if_false,forall_const,implies_true,Nat.reduceLeDiff,Nat.reduceLT,pureOp,binPure,intBin,strBin,eqPure,isConstO,unPure,sliceLo,sliceHi,slicePure,slice3Pure,lenPure,capPure,minPure,maxPure,buildP,resK,endV,yieldE,↓reduceIte,Nat.reduceEqDiff,reduceCtorEq,Nat.reduceAdd,Nat.reduceMul,Nat.reduceSub,Int.reduceLT,Int.reduceLE,Int.reduceToNat,Int.reduceAdd,Int.reduceSub,Int.reduceMul,ne_eq,decide_true,decide_false,tf6, he0]
  refine live_ok (fun w1 g1 => ?_)
  simp -dsimp only [↓RE,RU,RL,if_true,if_false,forall_const,implies_true,Nat.reduceLeDiff,Nat.reduceLT,pureOp,binPure,intBin,strBin,eqPure,isConstO,unPure,sliceLo,sliceHi,slicePure,slice3Pure,lenPure,capPure,minPure,maxPure,buildP,resK,endV,yieldE,↓reduceIte,Nat.reduceEqDiff,reduceCtorEq,Nat.reduceAdd,Nat.reduceMul,Nat.reduceSub,Int.reduceLT,Int.reduceLE,Int.reduceToNat,Int.reduceAdd,Int.reduceSub,Int.reduceMul,ne_eq,decide_true,decide_false,tf6, he0]
  rw [c_seq]
  simp -dsimp only [↓RE,RU,RL,if_true,if_false,forall_const,implies_true,Nat.reduceLeDiff,Nat.reduceLT,pureOp,binPure,intBin,strBin,eqPure,isConstO,unPure,sliceLo,sliceHi,slicePure,slice3Pure,lenPure,capPure,minPure,maxPure,buildP,resK,endV,yieldE,↓reduceIte,Nat.reduceEqDiff,reduceCtorEq,Nat.reduceAdd,Nat.reduceMul,Nat.reduceSub,Int.reduceLT,Int.reduceLE,Int.reduceToNat,Int.reduceAdd,Int.reduceSub,Int.reduceMul,ne_eq,decide_true,decide_false,tf6, he0]
  refine snew_ok (fun w2 hS2 g2 => ?_)
  simp -dsimp only [↓RE,RU,RL,if_true,if_false,forall_const,implies_true,Nat.reduceLeDiff,Nat.reduceLT,pureOp,binPure,intBin,strBin,eqPure,isConstO,unPure,sliceLo,sliceHi,slicePure,slice3Pure,lenPure,capPure,minPure,maxPure,buildP,resK,endV,yieldE,↓reduceIte,Nat.reduceEqDiff,reduceCtorEq,Nat.reduceAdd,Nat.reduceMul,Nat.reduceSub,Int.reduceLT,Int.reduceLE,Int.reduceToNat,Int.reduceAdd,Int.reduceSub,Int.reduceMul,ne_eq,decide_true,decide_false,tf6, he0]
  rw [c_seq]
  simp -dsimp only [↓RE,RU,RL,if_true,if_false,forall_const,implies_true,Nat.reduceLeDiff,Nat.reduceLT,pureOp,binPure,intBin,strBin,eqPure,isConstO,unPure,sliceLo,sliceHi,slicePure,slice3Pure,lenPure,capPure,minPure,maxPure,buildP,resK,endV,yieldE,↓reduceIte,Nat.reduceEqDiff,reduceCtorEq,Nat.reduceAdd,Nat.reduceMul,Nat.reduceSub,Int.reduceLT,Int.reduceLE,Int.reduceToNat,Int.reduceAdd,Int.reduceSub,Int.reduceMul,ne_eq,decide_true,decide_false,tf6, he0]
  refine rnew_ok (fun w3 hS3 g3 => ?_)
  have hs1 := g1.size
  have hs2 := g2.size
  have hP3 : Pr w3 w1.heap.size (.slice none 0 0) [] w2.heap.size (.slice none 0 0) [] := ⟨hS2.grow g3, hS3, fun q hq => (fpV_none _ hq).elim⟩
  have g03 := (g1.trans g2).trans g3
  have hP4 := hP3
  have g04 := g03
  have w4e : w3 = w3 := rfl
  simp -dsimp only [↓RE,RU,RL,if_true,if_false,forall_const,implies_true,Nat.reduceLeDiff,Nat.reduceLT,pureOp,binPure,intBin,strBin,eqPure,isConstO,unPure,sliceLo,sliceHi,slicePure,slice3Pure,lenPure,capPure,minPure,maxPure,buildP,resK,endV,yieldE,↓reduceIte,Nat.reduceEqDiff,reduceCtorEq,Nat.reduceAdd,Nat.reduceMul,Nat.reduceSub,Int.reduceLT,Int.reduceLE,Int.reduceToNat,Int.reduceAdd,Int.reduceSub,Int.reduceMul,ne_eq,decide_true,decide_false,tf6, he0]
  refine c_seq_cut (fun e' w' => (e' 0 = .slice A n c ∧ e' 3 = .pointer (some ⟨w1.heap.size, 0, none⟩) ∧ e' 4 = .pointer (some ⟨w2.heap.size, 0, none⟩)) ∧ ∃ (v v' : Value), Pr w' w1.heap.size v (tRun ops) w2.heap.size v' (tRun ops) ∧ (tRun ops).length ≤ stot ops ∧ Grow w w') ?_ ?_
  · rw [c_seq]
    simp -dsimp only [↓RE,RU,RL,if_true,if_false,forall_const,implies_true,Nat.reduceLeDiff,Nat.reduceLT,pureOp,binPure,intBin,strBin,eqPure,isConstO,unPure,sliceLo,sliceHi,slicePure,slice3Pure,lenPure,capPure,minPure,maxPure,buildP,resK,endV,yieldE,↓reduceIte,Nat.reduceEqDiff,reduceCtorEq,Nat.reduceAdd,Nat.reduceMul,Nat.reduceSub,Int.reduceLT,Int.reduceLE,Int.reduceToNat,Int.reduceAdd,Int.reduceSub,Int.reduceMul,ne_eq,decide_true,decide_false,tf6, he0]
    refine wpLoop_intro (fun e' w' => (e' 0 = .slice A n c ∧ e' 3 = .pointer (some ⟨w1.heap.size, 0, none⟩) ∧ e' 4 = .pointer (some ⟨w2.heap.size, 0, none⟩)) ∧ ∃ (i : Nat) (v v' : Value), i ≤ n ∧ e' 5 = .int .i64 i ∧ Pr w' w1.heap.size v (tRun (ops.take i)) w2.heap.size v' (tRun (ops.take i)) ∧ (tRun (ops.take i)).length ≤ stot (ops.take i) ∧ (∀ q, fpV v q → w1.heap.size ≤ q) ∧ (∀ q, fpV v' q → w1.heap.size ≤ q) ∧ Grow w w')
      (fun e' _ => n - (envInt (e' 5)).toNat) ⟨⟨?_, ?_, ?_⟩, 0, _, _, Nat.zero_le _, ?_, hP4, Nat.le_refl _, fun q hq => (fpV_none _ hq).elim, fun q hq => (fpV_none _ hq).elim, g04⟩ ?_
    · simp -dsimp only [↓RE,RU,RL,if_true,if_false,↓reduceIte,Nat.reduceEqDiff,reduceCtorEq,decide_true,decide_false, he0]
    · simp -dsimp only [↓RE,RU,RL,if_true,if_false,↓reduceIte,Nat.reduceEqDiff,reduceCtorEq,decide_true,decide_false, he0]
    · simp -dsimp only [↓RE,RU,RL,if_true,if_false,↓reduceIte,Nat.reduceEqDiff,reduceCtorEq,decide_true,decide_false, he0]
    · simp -dsimp only [↓RE,RU,RL,if_true,if_false,↓reduceIte,Nat.reduceEqDiff,reduceCtorEq,decide_true,decide_false, he0, Int.cast_ofNat_Int]
    clear he0
    rintro e' w' ⟨⟨he0, he3, he4⟩, i, v, v', hi, hei, hP, hPl, hf1, hf2, hg⟩
    rw [c_seq, c_seq]
    simp -dsimp only [↓RE,RU,RL,if_true,if_false,forall_const,implies_true,Nat.reduceLeDiff,Nat.reduceLT,pureOp,binPure,intBin,strBin,eqPure,isConstO,unPure,sliceLo,sliceHi,slicePure,slice3Pure,lenPure,capPure,minPure,maxPure,buildP,resK,endV,yieldE,↓reduceIte,Nat.reduceEqDiff,reduceCtorEq,Nat.reduceAdd,Nat.reduceMul,Nat.reduceSub,Int.reduceLT,Int.reduceLE,Int.reduceToNat,Int.reduceAdd,Int.reduceSub,Int.reduceMul,ne_eq,decide_true,decide_false,tf6, he0, hei]
    refine ⟨fun hlt => ?_, fun hge => ?_⟩
    · have hin : i < n := by omega
      obtain ⟨ad, rfl⟩ := hR.some (by omega)
      have hoi : (ops.getD i step0).Ok w := by rw [stepD_lt (by omega)]; exact ho _ (List.getElem_mem _)
      obtain ⟨_, _, _, _, _, hss⟩ := (hR.grow hg).stp' hin
      have hw1 : IntKind.i64.wrap ((i : Int) + 1) = ((i + 1 : Nat) : Int) := by rw [wrap_i64_in (by omega) (by omega)]; omega
      have hst := stot_take (ops := ops) (i := i) (by omega)
      have hst2 := stot_le ops (i + 1)
      have htr : tRun (ops.take (i + 1)) = tStep (tRun (ops.take i)) (ops.getD i step0) := by rw [take_snoc step0 (by omega), tRun, List.foldl_append]; rfl
      have hX := hoi.rd.grow hg
      have hsl := tstep_len hP.s.rise (ops.getD i step0) hX.flat3
      rw [← htr] at hsl
      have hap : 0 < (ops.getD i step0).m → ∀ q, fpA (ops.getD i step0).A q → ¬ Fp w1.heap.size v w2.heap.size v' q := fun h0 q hq e => by
        have := hoi.rd.lt h0 (by omega) q hq
        rcases e with (e | e) | (e | e)
        · omega
        · have := hf1 q e; omega
        · omega
        · have := hf2 q e; omega
      generalize ops.getD i step0 = o at hoi hss hst hX hsl hap htr
      rw [c_seq]
      simp -dsimp only [↓RE,RU,RL,if_true,if_false,forall_const,implies_true,Nat.reduceLeDiff,Nat.reduceLT,pureOp,binPure,intBin,strBin,eqPure,isConstO,unPure,sliceLo,sliceHi,slicePure,slice3Pure,lenPure,capPure,minPure,maxPure,buildP,resK,endV,yieldE,↓reduceIte,Nat.reduceEqDiff,reduceCtorEq,Nat.reduceAdd,Nat.reduceMul,Nat.reduceSub,Int.reduceLT,Int.reduceLE,Int.reduceToNat,Int.reduceAdd,Int.reduceSub,Int.reduceMul,ne_eq,decide_true,decide_false,tf6, he0]
      rw [c_seq]
      simp -dsimp only [↓RE,RU,RL,if_true,if_false,forall_const,implies_true,Nat.reduceLeDiff,Nat.reduceLT,pureOp,binPure,intBin,strBin,eqPure,isConstO,unPure,sliceLo,sliceHi,slicePure,slice3Pure,lenPure,capPure,minPure,maxPure,buildP,resK,endV,yieldE,↓reduceIte,Nat.reduceEqDiff,reduceCtorEq,Nat.reduceAdd,Nat.reduceMul,Nat.reduceSub,Int.reduceLT,Int.reduceLE,Int.reduceToNat,Int.reduceAdd,Int.reduceSub,Int.reduceMul,ne_eq,decide_true,decide_false,tf6, he0, he3, he4, hei]
      refine ⟨by omega, hss ?_⟩
      simp -dsimp only [↓RE,RU,RL,if_true,if_false,forall_const,implies_true,Nat.reduceLeDiff,Nat.reduceLT,pureOp,binPure,intBin,strBin,eqPure,isConstO,unPure,sliceLo,sliceHi,slicePure,slice3Pure,lenPure,capPure,minPure,maxPure,buildP,resK,endV,yieldE,↓reduceIte,Nat.reduceEqDiff,reduceCtorEq,Nat.reduceAdd,Nat.reduceMul,Nat.reduceSub,Int.reduceLT,Int.reduceLE,Int.reduceToNat,Int.reduceAdd,Int.reduceSub,Int.reduceMul,ne_eq,decide_true,decide_false,tf6, he0, he3, he4]
      refine step_ok hP hX hap (by omega) (fun w5 v5 v6 hP5 k5 f5 f6 => ?_)
      have hsg := hg.size
      have hs5 : w1.heap.size ≤ w'.heap.size := by have := hP.s.b.lt; omega
      have hg5 : Grow w w5 := hg.above k5 (fun q hq e => by
        rcases e with (e | e) | (e | e)
        · omega
        · have := hf1 q e; omega
        · omega
        · have := hf2 q e; omega)
      rw [← htr] at hP5
      have hf5 : ∀ q, fpV v5 q → w1.heap.size ≤ q := fun q hq => (f5 q hq).elim (hf1 q) (fun e => by omega)
      have hf6 : ∀ q, fpV v6 q → w1.heap.size ≤ q := fun q hq => (f6 q hq).elim (hf2 q) (fun e => by omega)
      simp -dsimp only [↓RE,RU,RL,if_true,if_false,forall_const,implies_true,Nat.reduceLeDiff,Nat.reduceLT,pureOp,binPure,intBin,strBin,eqPure,isConstO,unPure,sliceLo,sliceHi,slicePure,slice3Pure,lenPure,capPure,minPure,maxPure,buildP,resK,endV,yieldE,↓reduceIte,Nat.reduceEqDiff,reduceCtorEq,Nat.reduceAdd,Nat.reduceMul,Nat.reduceSub,Int.reduceLT,Int.reduceLE,Int.reduceToNat,Int.reduceAdd,Int.reduceSub,Int.reduceMul,ne_eq,decide_true,decide_false,tf6, hei, hw1]
      refine hold_intro ⟨⟨⟨by simp -dsimp only [↓RE,RU,RL,if_true,if_false,↓reduceIte,Nat.reduceEqDiff,reduceCtorEq,decide_true,decide_false, he0], by simp -dsimp only [↓RE,RU,RL,if_true,if_false,↓reduceIte,Nat.reduceEqDiff,reduceCtorEq,decide_true,decide_false, he3], by simp -dsimp only [↓RE,RU,RL,if_true,if_false,↓reduceIte,Nat.reduceEqDiff,reduceCtorEq,decide_true,decide_false, he4]⟩, i + 1, v5, v6, by omega, by simp -dsimp only [↓RE,RU,RL,if_true,if_false,↓reduceIte,Nat.reduceEqDiff,reduceCtorEq,decide_true,decide_false, hei, hw1], hP5, by omega, hf5, hf6, hg5⟩, ?_⟩
      simp -dsimp only [↓RE,↓c_seq,RU,RL,if_true,if_false,forall_const,implies_true,Nat.reduceLeDiff,Nat.reduceLT,pureOp,binPure,intBin,strBin,eqPure,isConstO,unPure,sliceLo,sliceHi,slicePure,slice3Pure,lenPure,capPure,minPure,maxPure,buildP,resK,endV,yieldE,↓reduceIte,Nat.reduceEqDiff,reduceCtorEq,Nat.reduceAdd,Nat.reduceMul,Nat.reduceSub,Int.reduceLT,Int.reduceLE,Int.reduceToNat,Int.reduceAdd,Int.reduceSub,Int.reduceMul,ne_eq,decide_true,decide_false,tf6, hei, hw1]
      simp only [envInt_int]; omega
    · obtain rfl : i = n := by omega
      rw [← hl, List.take_length] at hP hPl
      exact hold_intro ⟨⟨by simp -dsimp only [↓RE,RU,RL,if_true,if_false,↓reduceIte,Nat.reduceEqDiff,reduceCtorEq,decide_true,decide_false, he0], by simp -dsimp only [↓RE,RU,RL,if_true,if_false,↓reduceIte,Nat.reduceEqDiff,reduceCtorEq,decide_true,decide_false, he3], by simp -dsimp only [↓RE,RU,RL,if_true,if_false,↓reduceIte,Nat.reduceEqDiff,reduceCtorEq,decide_true,decide_false, he4]⟩, v, v', hP, hPl, hg⟩
  · clear he0
    rintro e w' ⟨⟨he0, he3, he4⟩, v, v', hP, hPl, hg⟩
    rw [c_seq]
    simp -dsimp only [↓RE,RU,RL,if_true,if_false,forall_const,implies_true,Nat.reduceLeDiff,Nat.reduceLT,pureOp,binPure,intBin,strBin,eqPure,isConstO,unPure,sliceLo,sliceHi,slicePure,slice3Pure,lenPure,capPure,minPure,maxPure,buildP,resK,endV,yieldE,↓reduceIte,Nat.reduceEqDiff,reduceCtorEq,Nat.reduceAdd,Nat.reduceMul,Nat.reduceSub,Int.reduceLT,Int.reduceLE,Int.reduceToNat,Int.reduceAdd,Int.reduceSub,Int.reduceMul,ne_eq,decide_true,decide_false,tf6, he0, he3, he4]
    refine named_ok (hR.grow hg) (fun o h => (ho o h).grow hg) (by omega) (fun w6 At ct ts hT hTl g6 hTf => ?_)
    simp -dsimp only [↓RE,RU,RL,if_true,if_false,forall_const,implies_true,Nat.reduceLeDiff,Nat.reduceLT,pureOp,binPure,intBin,strBin,eqPure,isConstO,unPure,sliceLo,sliceHi,slicePure,slice3Pure,lenPure,capPure,minPure,maxPure,buildP,resK,endV,yieldE,↓reduceIte,Nat.reduceEqDiff,reduceCtorEq,Nat.reduceAdd,Nat.reduceMul,Nat.reduceSub,Int.reduceLT,Int.reduceLE,Int.reduceToNat,Int.reduceAdd,Int.reduceSub,Int.reduceMul,ne_eq,decide_true,decide_false,tf6, he3, he4]
    refine alike_ok (hP.grow g6) hT.rd (by omega) (by omega) (fun w7 g7 => ?_)
    try simp -dsimp only [↓RE,↓c_seq,RU,RL,if_true,if_false,forall_const,implies_true,Nat.reduceLeDiff,Nat.reduceLT,pureOp,binPure,intBin,strBin,eqPure,isConstO,unPure,sliceLo,sliceHi,slicePure,slice3Pure,lenPure,capPure,minPure,maxPure,buildP,resK,endV,yieldE,↓reduceIte,Nat.reduceEqDiff,reduceCtorEq,Nat.reduceAdd,Nat.reduceMul,Nat.reduceSub,Int.reduceLT,Int.reduceLE,Int.reduceToNat,Int.reduceAdd,Int.reduceSub,Int.reduceMul,ne_eq,decide_true,decide_false,tf6, eq_self]
    exact h w7 ((hg.trans g6).trans g7)
theorem plays_walk {w : World} {A : Option Addr} {n c : Nat} {ops : List StepV} (hR : Rd w A n 6 (ops.flatMap StepV.cells)) (ho : ∀ o ∈ ops, o.Ok w) (hn : stot ops ≤ 1048576) {R : VWK}
    (h : ∀ w', Grow w w' → R (.bool true) w') : CallsV Try.prog 5 [.slice A n c] w R := by
  have hl := hR.steps_len
  have hnl : n ≤ 1048576 := by have := len_stot ops; omega
  refine calls_of_wpC mixed Try.func5 rfl (by kernel_rfl) ?_
  intro e he
  have he0 := he 0
  simp only [List.getD_cons_zero, List.getD_cons_succ] at he0
  clear he
  rw [c_seq]
  simp -dsimp only [↓RE,RU,RL,if_true,if_false,forall_const,implies_true,Nat.reduceLeDiff,Nat.reduceLT,pureOp,binPure,intBin,strBin,eqPure,isConstO,unPure,sliceLo,sliceHi,slicePure,slice3Pure,lenPure,capPure,minPure,maxPure,buildP,resK,endV,yieldE,↓reduceIte,Nat.reduceEqDiff,reduceCtorEq,Nat.reduceAdd,Nat.reduceMul,Nat.reduceSub,Int.reduceLT,Int.reduceLE,Int.reduceToNat,Int.reduceAdd,Int.reduceSub,Int.reduceMul,ne_eq,decide_true,decide_false,tf5, he0]
  rw [c_seq, c_seq]
  simp -dsimp only [↓RE,RU,RL,if_true,if_false,forall_const,implies_true,Nat.reduceLeDiff,Nat.reduceLT,pureOp,binPure,intBin,strBin,eqPure,isConstO,unPure,sliceLo,sliceHi,slicePure,slice3Pure,lenPure,capPure,minPure,maxPure,buildP,resK,endV,yieldE,↓reduceIte,Nat.reduceEqDiff,reduceCtorEq,Nat.reduceAdd,Nat.reduceMul,Nat.reduceSub,Int.reduceLT,Int.reduceLE,Int.reduceToNat,Int.reduceAdd,Int.reduceSub,Int.reduceMul,ne_eq,decide_true,decide_false,tf5, he0]
  refine live_ok (fun w1 g1 => ?_)
  simp -dsimp only [↓RE,RU,RL,if_true,if_false,forall_const,implies_true,Nat.reduceLeDiff,Nat.reduceLT,pureOp,binPure,intBin,strBin,eqPure,isConstO,unPure,sliceLo,sliceHi,slicePure,slice3Pure,lenPure,capPure,minPure,maxPure,buildP,resK,endV,yieldE,↓reduceIte,Nat.reduceEqDiff,reduceCtorEq,Nat.reduceAdd,Nat.reduceMul,Nat.reduceSub,Int.reduceLT,Int.reduceLE,Int.reduceToNat,Int.reduceAdd,Int.reduceSub,Int.reduceMul,ne_eq,decide_true,decide_false,tf5, he0]
  rw [c_seq]
  simp -dsimp only [↓RE,RU,RL,if_true,if_false,forall_const,implies_true,Nat.reduceLeDiff,Nat.reduceLT,pureOp,binPure,intBin,strBin,eqPure,isConstO,unPure,sliceLo,sliceHi,slicePure,slice3Pure,lenPure,capPure,minPure,maxPure,buildP,resK,endV,yieldE,↓reduceIte,Nat.reduceEqDiff,reduceCtorEq,Nat.reduceAdd,Nat.reduceMul,Nat.reduceSub,Int.reduceLT,Int.reduceLE,Int.reduceToNat,Int.reduceAdd,Int.reduceSub,Int.reduceMul,ne_eq,decide_true,decide_false,tf5, he0]
  refine snew_ok (fun w2 hS2 g2 => ?_)
  simp -dsimp only [↓RE,RU,RL,if_true,if_false,forall_const,implies_true,Nat.reduceLeDiff,Nat.reduceLT,pureOp,binPure,intBin,strBin,eqPure,isConstO,unPure,sliceLo,sliceHi,slicePure,slice3Pure,lenPure,capPure,minPure,maxPure,buildP,resK,endV,yieldE,↓reduceIte,Nat.reduceEqDiff,reduceCtorEq,Nat.reduceAdd,Nat.reduceMul,Nat.reduceSub,Int.reduceLT,Int.reduceLE,Int.reduceToNat,Int.reduceAdd,Int.reduceSub,Int.reduceMul,ne_eq,decide_true,decide_false,tf5, he0]
  rw [c_seq]
  simp -dsimp only [↓RE,RU,RL,if_true,if_false,forall_const,implies_true,Nat.reduceLeDiff,Nat.reduceLT,pureOp,binPure,intBin,strBin,eqPure,isConstO,unPure,sliceLo,sliceHi,slicePure,slice3Pure,lenPure,capPure,minPure,maxPure,buildP,resK,endV,yieldE,↓reduceIte,Nat.reduceEqDiff,reduceCtorEq,Nat.reduceAdd,Nat.reduceMul,Nat.reduceSub,Int.reduceLT,Int.reduceLE,Int.reduceToNat,Int.reduceAdd,Int.reduceSub,Int.reduceMul,ne_eq,decide_true,decide_false,tf5, he0]
  refine rnew_ok (fun w3 hS3 g3 => ?_)
  have hs1 := g1.size
  have hs2 := g2.size
  have hP3 : Pr w3 w1.heap.size (.slice none 0 0) [] w2.heap.size (.slice none 0 0) [] := ⟨hS2.grow g3, hS3, fun q hq => (fpV_none _ hq).elim⟩
  have g03 := (g1.trans g2).trans g3
  simp -dsimp only [↓RE,RU,RL,if_true,if_false,forall_const,implies_true,Nat.reduceLeDiff,Nat.reduceLT,pureOp,binPure,intBin,strBin,eqPure,isConstO,unPure,sliceLo,sliceHi,slicePure,slice3Pure,lenPure,capPure,minPure,maxPure,buildP,resK,endV,yieldE,↓reduceIte,Nat.reduceEqDiff,reduceCtorEq,Nat.reduceAdd,Nat.reduceMul,Nat.reduceSub,Int.reduceLT,Int.reduceLE,Int.reduceToNat,Int.reduceAdd,Int.reduceSub,Int.reduceMul,ne_eq,decide_true,decide_false,tf5, he0]
  rw [c_seq]
  simp -dsimp only [↓RE,RU,RL,if_true,if_false,forall_const,implies_true,Nat.reduceLeDiff,Nat.reduceLT,pureOp,binPure,intBin,strBin,eqPure,isConstO,unPure,sliceLo,sliceHi,slicePure,slice3Pure,lenPure,capPure,minPure,maxPure,buildP,resK,endV,yieldE,↓reduceIte,Nat.reduceEqDiff,reduceCtorEq,Nat.reduceAdd,Nat.reduceMul,Nat.reduceSub,Int.reduceLT,Int.reduceLE,Int.reduceToNat,Int.reduceAdd,Int.reduceSub,Int.reduceMul,ne_eq,decide_true,decide_false,tf5, he0]
  refine named_ok (hR.grow g03) (fun o h => (ho o h).grow g03) (by omega) (fun w4 At ct ts hT hTl g4 hTf => ?_)
  have hP4 := hP3.grow g4
  have g04 := g03.trans g4
  simp -dsimp only [↓RE,RU,RL,if_true,if_false,forall_const,implies_true,Nat.reduceLeDiff,Nat.reduceLT,pureOp,binPure,intBin,strBin,eqPure,isConstO,unPure,sliceLo,sliceHi,slicePure,slice3Pure,lenPure,capPure,minPure,maxPure,buildP,resK,endV,yieldE,↓reduceIte,Nat.reduceEqDiff,reduceCtorEq,Nat.reduceAdd,Nat.reduceMul,Nat.reduceSub,Int.reduceLT,Int.reduceLE,Int.reduceToNat,Int.reduceAdd,Int.reduceSub,Int.reduceMul,ne_eq,decide_true,decide_false,tf5, he0]
  refine c_seq_cut (fun e' w' => Grow w w') ?_ ?_
  · rw [c_seq]
    simp -dsimp only [↓RE,RU,RL,if_true,if_false,forall_const,implies_true,Nat.reduceLeDiff,Nat.reduceLT,pureOp,binPure,intBin,strBin,eqPure,isConstO,unPure,sliceLo,sliceHi,slicePure,slice3Pure,lenPure,capPure,minPure,maxPure,buildP,resK,endV,yieldE,↓reduceIte,Nat.reduceEqDiff,reduceCtorEq,Nat.reduceAdd,Nat.reduceMul,Nat.reduceSub,Int.reduceLT,Int.reduceLE,Int.reduceToNat,Int.reduceAdd,Int.reduceSub,Int.reduceMul,ne_eq,decide_true,decide_false,tf5, he0]
    refine wpLoop_intro (fun e' w' => (e' 0 = .slice A n c ∧ e' 3 = .pointer (some ⟨w1.heap.size, 0, none⟩) ∧ e' 4 = .pointer (some ⟨w2.heap.size, 0, none⟩)) ∧ e' 5 = .slice At ts.length ct ∧ ∃ (i : Nat) (v v' : Value), i ≤ n ∧ e' 6 = .int .i64 i ∧ Pr w' w1.heap.size v (tRun (ops.take i)) w2.heap.size v' (tRun (ops.take i)) ∧ (tRun (ops.take i)).length ≤ stot (ops.take i) ∧ (∀ q, fpV v q → w1.heap.size ≤ q) ∧ (∀ q, fpV v' q → w1.heap.size ≤ q) ∧ IRow w' (.slice At ts.length ct) ts ∧ Grow w w')
      (fun e' _ => n - (envInt (e' 6)).toNat) ⟨⟨?_, ?_, ?_⟩, ?_, 0, _, _, Nat.zero_le _, ?_, hP4, Nat.le_refl _, fun q hq => (fpV_none _ hq).elim, fun q hq => (fpV_none _ hq).elim, hT, g04⟩ ?_
    · simp -dsimp only [↓RE,RU,RL,if_true,if_false,↓reduceIte,Nat.reduceEqDiff,reduceCtorEq,decide_true,decide_false, he0]
    · simp -dsimp only [↓RE,RU,RL,if_true,if_false,↓reduceIte,Nat.reduceEqDiff,reduceCtorEq,decide_true,decide_false, he0]
    · simp -dsimp only [↓RE,RU,RL,if_true,if_false,↓reduceIte,Nat.reduceEqDiff,reduceCtorEq,decide_true,decide_false, he0]
    · simp -dsimp only [↓RE,RU,RL,if_true,if_false,↓reduceIte,Nat.reduceEqDiff,reduceCtorEq,decide_true,decide_false, he0]
    · simp -dsimp only [↓RE,RU,RL,if_true,if_false,↓reduceIte,Nat.reduceEqDiff,reduceCtorEq,decide_true,decide_false, he0, Int.cast_ofNat_Int]
    clear he0
    rintro e' w' ⟨⟨he0, he3, he4⟩, he5, i, v, v', hi, hei, hP, hPl, hf1, hf2, hT, hg⟩
    rw [c_seq, c_seq]
    simp -dsimp only [↓RE,RU,RL,if_true,if_false,forall_const,implies_true,Nat.reduceLeDiff,Nat.reduceLT,pureOp,binPure,intBin,strBin,eqPure,isConstO,unPure,sliceLo,sliceHi,slicePure,slice3Pure,lenPure,capPure,minPure,maxPure,buildP,resK,endV,yieldE,↓reduceIte,Nat.reduceEqDiff,reduceCtorEq,Nat.reduceAdd,Nat.reduceMul,Nat.reduceSub,Int.reduceLT,Int.reduceLE,Int.reduceToNat,Int.reduceAdd,Int.reduceSub,Int.reduceMul,ne_eq,decide_true,decide_false,tf5, he0, hei]
    refine ⟨fun hlt => ?_, fun hge => ?_⟩
    · have hin : i < n := by omega
      obtain ⟨ad, rfl⟩ := hR.some (by omega)
      have hoi : (ops.getD i step0).Ok w := by rw [stepD_lt (by omega)]; exact ho _ (List.getElem_mem _)
      obtain ⟨_, _, _, _, _, hss⟩ := (hR.grow hg).stp' hin
      have hw1 : IntKind.i64.wrap ((i : Int) + 1) = ((i + 1 : Nat) : Int) := by rw [wrap_i64_in (by omega) (by omega)]; omega
      have hst := stot_take (ops := ops) (i := i) (by omega)
      have hst2 := stot_le ops (i + 1)
      have htr : tRun (ops.take (i + 1)) = tStep (tRun (ops.take i)) (ops.getD i step0) := by rw [take_snoc step0 (by omega), tRun, List.foldl_append]; rfl
      have hX := hoi.rd.grow hg
      have hsl := tstep_len hP.s.rise (ops.getD i step0) hX.flat3
      rw [← htr] at hsl
      have hap : 0 < (ops.getD i step0).m → ∀ q, fpA (ops.getD i step0).A q → ¬ Fp w1.heap.size v w2.heap.size v' q := fun h0 q hq e => by
        have := hoi.rd.lt h0 (by omega) q hq
        rcases e with (e | e) | (e | e)
        · omega
        · have := hf1 q e; omega
        · omega
        · have := hf2 q e; omega
      generalize ops.getD i step0 = o at hoi hss hst hX hsl hap htr
      rw [c_seq]
      simp -dsimp only [↓RE,RU,RL,if_true,if_false,forall_const,implies_true,Nat.reduceLeDiff,Nat.reduceLT,pureOp,binPure,intBin,strBin,eqPure,isConstO,unPure,sliceLo,sliceHi,slicePure,slice3Pure,lenPure,capPure,minPure,maxPure,buildP,resK,endV,yieldE,↓reduceIte,Nat.reduceEqDiff,reduceCtorEq,Nat.reduceAdd,Nat.reduceMul,Nat.reduceSub,Int.reduceLT,Int.reduceLE,Int.reduceToNat,Int.reduceAdd,Int.reduceSub,Int.reduceMul,ne_eq,decide_true,decide_false,tf5, he0]
      rw [c_seq]
      simp -dsimp only [↓RE,RU,RL,if_true,if_false,forall_const,implies_true,Nat.reduceLeDiff,Nat.reduceLT,pureOp,binPure,intBin,strBin,eqPure,isConstO,unPure,sliceLo,sliceHi,slicePure,slice3Pure,lenPure,capPure,minPure,maxPure,buildP,resK,endV,yieldE,↓reduceIte,Nat.reduceEqDiff,reduceCtorEq,Nat.reduceAdd,Nat.reduceMul,Nat.reduceSub,Int.reduceLT,Int.reduceLE,Int.reduceToNat,Int.reduceAdd,Int.reduceSub,Int.reduceMul,ne_eq,decide_true,decide_false,tf5, he0, he3, he4, hei]
      refine ⟨by omega, hss ?_⟩
      simp -dsimp only [↓RE,RU,RL,if_true,if_false,forall_const,implies_true,Nat.reduceLeDiff,Nat.reduceLT,pureOp,binPure,intBin,strBin,eqPure,isConstO,unPure,sliceLo,sliceHi,slicePure,slice3Pure,lenPure,capPure,minPure,maxPure,buildP,resK,endV,yieldE,↓reduceIte,Nat.reduceEqDiff,reduceCtorEq,Nat.reduceAdd,Nat.reduceMul,Nat.reduceSub,Int.reduceLT,Int.reduceLE,Int.reduceToNat,Int.reduceAdd,Int.reduceSub,Int.reduceMul,ne_eq,decide_true,decide_false,tf5, he0, he3, he4]
      refine step_ok hP hX hap (by omega) (fun w5 v5 v6 hP5 k5 f5 f6 => ?_)
      have hsg := hg.size
      have hs5 : w1.heap.size ≤ w'.heap.size := by have := hP.s.b.lt; omega
      have hg5 : Grow w w5 := hg.above k5 (fun q hq e => by
        rcases e with (e | e) | (e | e)
        · omega
        · have := hf1 q e; omega
        · omega
        · have := hf2 q e; omega)
      rw [← htr] at hP5
      have hf5 : ∀ q, fpV v5 q → w1.heap.size ≤ q := fun q hq => (f5 q hq).elim (hf1 q) (fun e => by omega)
      have hf6 : ∀ q, fpV v6 q → w1.heap.size ≤ q := fun q hq => (f6 q hq).elim (hf2 q) (fun e => by omega)
      have hT5 := hT.keep k5 (fun q hq e => by
        rcases e with (e | e) | (e | e)
        · exact hT.blk_ne hP.s.b (by decide) (e ▸ hq)
        · exact hT.ne hP.s.row (by decide) q hq e
        · exact hT.blk_ne hP.r.b (by decide) (e ▸ hq)
        · exact hT.ne hP.r.row (by decide) q hq e)
      simp -dsimp only [↓RE,RU,RL,if_true,if_false,forall_const,implies_true,Nat.reduceLeDiff,Nat.reduceLT,pureOp,binPure,intBin,strBin,eqPure,isConstO,unPure,sliceLo,sliceHi,slicePure,slice3Pure,lenPure,capPure,minPure,maxPure,buildP,resK,endV,yieldE,↓reduceIte,Nat.reduceEqDiff,reduceCtorEq,Nat.reduceAdd,Nat.reduceMul,Nat.reduceSub,Int.reduceLT,Int.reduceLE,Int.reduceToNat,Int.reduceAdd,Int.reduceSub,Int.reduceMul,ne_eq,decide_true,decide_false,tf5, he3, he4, he5]
      refine alike_ok hP5 hT5.rd (by omega) (by omega) (fun w6 g6 => ?_)
      have hT6 := hT5.grow g6
      have hP6 := hP5.grow g6
      have hg6 := hg5.trans g6
      simp -dsimp only [↓RE,RU,RL,if_true,if_false,forall_const,implies_true,Nat.reduceLeDiff,Nat.reduceLT,pureOp,binPure,intBin,strBin,eqPure,isConstO,unPure,sliceLo,sliceHi,slicePure,slice3Pure,lenPure,capPure,minPure,maxPure,buildP,resK,endV,yieldE,↓reduceIte,Nat.reduceEqDiff,reduceCtorEq,Nat.reduceAdd,Nat.reduceMul,Nat.reduceSub,Int.reduceLT,Int.reduceLE,Int.reduceToNat,Int.reduceAdd,Int.reduceSub,Int.reduceMul,ne_eq,decide_true,decide_false,tf5, hei, hw1]
      refine hold_intro ⟨⟨⟨by simp -dsimp only [↓RE,RU,RL,if_true,if_false,↓reduceIte,Nat.reduceEqDiff,reduceCtorEq,decide_true,decide_false, he0], by simp -dsimp only [↓RE,RU,RL,if_true,if_false,↓reduceIte,Nat.reduceEqDiff,reduceCtorEq,decide_true,decide_false, he3], by simp -dsimp only [↓RE,RU,RL,if_true,if_false,↓reduceIte,Nat.reduceEqDiff,reduceCtorEq,decide_true,decide_false, he4]⟩, by simp -dsimp only [↓RE,RU,RL,if_true,if_false,↓reduceIte,Nat.reduceEqDiff,reduceCtorEq,decide_true,decide_false, he5], i + 1, v5, v6, by omega, by simp -dsimp only [↓RE,RU,RL,if_true,if_false,↓reduceIte,Nat.reduceEqDiff,reduceCtorEq,decide_true,decide_false, hei, hw1], hP6, by omega, hf5, hf6, hT6, hg6⟩, ?_⟩
      simp -dsimp only [↓RE,↓c_seq,RU,RL,if_true,if_false,forall_const,implies_true,Nat.reduceLeDiff,Nat.reduceLT,pureOp,binPure,intBin,strBin,eqPure,isConstO,unPure,sliceLo,sliceHi,slicePure,slice3Pure,lenPure,capPure,minPure,maxPure,buildP,resK,endV,yieldE,↓reduceIte,Nat.reduceEqDiff,reduceCtorEq,Nat.reduceAdd,Nat.reduceMul,Nat.reduceSub,Int.reduceLT,Int.reduceLE,Int.reduceToNat,Int.reduceAdd,Int.reduceSub,Int.reduceMul,ne_eq,decide_true,decide_false,tf5, hei, hw1]
      simp only [envInt_int]; omega
    · exact hold_intro hg
  · clear he0
    rintro e w' hg
    try simp -dsimp only [↓RE,↓c_seq,RU,RL,if_true,if_false,forall_const,implies_true,Nat.reduceLeDiff,Nat.reduceLT,pureOp,binPure,intBin,strBin,eqPure,isConstO,unPure,sliceLo,sliceHi,slicePure,slice3Pure,lenPure,capPure,minPure,maxPure,buildP,resK,endV,yieldE,↓reduceIte,Nat.reduceEqDiff,reduceCtorEq,Nat.reduceAdd,Nat.reduceMul,Nat.reduceSub,Int.reduceLT,Int.reduceLE,Int.reduceToNat,Int.reduceAdd,Int.reduceSub,Int.reduceMul,ne_eq,decide_true,decide_false,tf5, eq_self]
    exact h w' hg

end Go.Proofs.Ytcnebgokbjpjnaa
