/- What the block laws ask whatever is asked: 'live' is true. -/
import Derived.Test.YtmgiichlccdcfaaTimes
import Derived.Test.YtmgiichlccdcfaaVals
set_option linter.unusedVariables false
set_option linter.unusedSimpArgs false
set_option maxRecDepth 100000
namespace Go.Proofs.Ytmgiichlccdcfaa
open Go

theorem tW_live : (tW [0, 10, 21] 3).1 = [3, 0, 10, 160, 0] := by
  have h0 : tW [0, 10, 21] 2 = ([3, 0, 10], 0) := by
    show ((uvar 3 ++ uvar (foldI 0).toNat) ++ uvar (((10 : Int) - 0) % 18446744073709551616).toNat, 0) = _
    rw [show (foldI 0).toNat = 0 by decide, show (((10 : Int) - 0) % 18446744073709551616).toNat = 10 by decide, uvar_lt (by omega), uvar_lt (by omega), uvar_lt (by omega)]
    rfl
  have hd : tD [0, 10, 21] 2 = 1 := by decide
  show (dput (tD [0, 10, 21] 2) (tW [0, 10, 21] 2)).1 = _
  rw [h0, hd]
  decide
theorem vS_live : (vS [(0, 1)] 1).q.1 = [1, 129, 128] := by
  have h0 : vS [(0, 1)] 0 = ⟨([1], 0), (0, 0), 0⟩ := by
    show VS.mk (uvar 1, 0) (0, 0) 0 = _
    rw [uvar_lt (by omega)]; rfl
  show (vput (vS [(0, 1)] 0) (0, 1)).1 = _
  rw [h0]
  decide

theorem Rd.of_blk {w : World} {g n size : Nat} {t : TypeId} {cs : List Value} (h : Blk w g t cs) (hl : cs.length = n * size) : Rd w (some ⟨g, 0, none⟩) n size cs :=
  ⟨hl, fun _ => ⟨_, rfl, fun j u hu => by rw [add_lit', Nat.zero_add, h.cell]; exact hu⟩⟩

theorem live9_ok {w : World} {R : VWK} (h : ∀ w', Grow w w' → R (.bool true) w') : CallsV Try.prog 8 [] w R := by
  have hB0 := Blk.new' w 2 #[.int .i64 0, .int .i64 10, .int .i64 21]
  have g0 := Grow.alloc w (.cells #[.int .i64 0, .int .i64 10, .int .i64 21] 2)
  have hR0 : Rd (w.alloc (.cells #[.int .i64 0, .int .i64 10, .int .i64 21] 2)) (some ⟨w.heap.size, 0, none⟩) 3 1 (([0, 10, 21] : List Int).map (Value.int .i64)) := Rd.of_cells _ _ _ _ _ hB0 rfl
  have he1 : tErr [0, 10, 21] = none := tErr_rise (by decide) (fun i hi h0 => by
    have hi : i < 3 := hi
    rcases (show i = 1 ∨ i = 2 by omega) with rfl | rfl <;> decide)
  have he2 : vErr [(0, 1)] = none := vErr_right (by decide) (fun i hi => by
    have hi : i < 1 := hi
    obtain rfl : i = 0 := by omega
    exact .inl rfl)
  have hv0 : ∀ v ∈ ([(0, 1)] : List (Int × Int)), VOk v := by
    intro v hv
    have hv : v = (0, 1) := by simpa using hv
    subst hv
    simp [VOk]
  refine calls_of_wpC mixed Try.func8 rfl (by kernel_rfl) ?_
  intro e he
  clear he
  try simp -dsimp only [↓RE,↓c_seq,RU,RL,if_true,if_false,forall_const,implies_true,Nat.reduceLeDiff,Nat.reduceLT,pureOp,binPure,intBin,strBin,eqPure,isConstO,unPure,sliceLo,sliceHi,slicePure,lenPure,minPure,maxPure,buildP,resK,endV,yieldE,↓reduceIte,Nat.reduceEqDiff,reduceCtorEq,Nat.reduceAdd,Nat.reduceMul,Nat.reduceSub,Int.reduceLT,Int.reduceLE,Int.reduceToNat,Int.reduceAdd,Int.reduceSub,Int.reduceMul,ne_eq,decide_true,decide_false,tf8]
  refine times_ok hR0 (by decide) (by omega) (fun er w' hq => by rw [he1] at hq; cases hq) (fun _ w1 A1 c1 hO1 g1 _ => ?_)
  rw [tW_live] at hO1
  rw [tW_live]
  try simp -dsimp only [↓RE,↓c_seq,RU,RL,if_true,if_false,forall_const,implies_true,Nat.reduceLeDiff,Nat.reduceLT,pureOp,binPure,intBin,strBin,eqPure,isConstO,unPure,sliceLo,sliceHi,slicePure,lenPure,minPure,maxPure,buildP,resK,endV,yieldE,↓reduceIte,Nat.reduceEqDiff,reduceCtorEq,Nat.reduceAdd,Nat.reduceMul,Nat.reduceSub,Int.reduceLT,Int.reduceLE,Int.reduceToNat,Int.reduceAdd,Int.reduceSub,Int.reduceMul,ne_eq,decide_true,decide_false,tf8]
  have hB2 := Blk.new' w1 26 #[.int .u8 0, .int .i64 1]
  have g2 := Grow.alloc w1 (.cells #[.int .u8 0, .int .i64 1] 26)
  have hR2 : Rd (w1.alloc (.cells #[.int .u8 0, .int .i64 1] 26)) (some ⟨w1.heap.size, 0, none⟩) 1 2 (([(0, 1)] : List (Int × Int)).flatMap vcells) := Rd.of_blk hB2 rfl
  refine values_ok hR2 hv0 (by omega) (fun er w' hq => by rw [he2] at hq; cases hq) (fun _ w3 A3 c3 hO3 g3 _ => ?_)
  rw [vS_live] at hO3
  rw [vS_live]
  try simp -dsimp only [↓RE,↓c_seq,RU,RL,if_true,if_false,forall_const,implies_true,Nat.reduceLeDiff,Nat.reduceLT,pureOp,binPure,intBin,strBin,eqPure,isConstO,unPure,sliceLo,sliceHi,slicePure,lenPure,minPure,maxPure,buildP,resK,endV,yieldE,↓reduceIte,Nat.reduceEqDiff,reduceCtorEq,Nat.reduceAdd,Nat.reduceMul,Nat.reduceSub,Int.reduceLT,Int.reduceLE,Int.reduceToNat,Int.reduceAdd,Int.reduceSub,Int.reduceMul,ne_eq,decide_true,decide_false,tf8]
  refine same_ok (((Rd.of_own hO1).grow (g2.trans g3)).grow (Grow.alloc w3 _)) (rd_new1 w3 _ [3, 0, 10, 160, 0] 5 rfl) (by simp) (by omega) (fun w4 g4 => ?_)
  try simp -dsimp only [↓RE,↓c_seq,RU,RL,if_true,if_false,forall_const,implies_true,Nat.reduceLeDiff,Nat.reduceLT,pureOp,binPure,intBin,strBin,eqPure,isConstO,unPure,sliceLo,sliceHi,slicePure,lenPure,minPure,maxPure,buildP,resK,endV,yieldE,↓reduceIte,Nat.reduceEqDiff,reduceCtorEq,Nat.reduceAdd,Nat.reduceMul,Nat.reduceSub,Int.reduceLT,Int.reduceLE,Int.reduceToNat,Int.reduceAdd,Int.reduceSub,Int.reduceMul,ne_eq,decide_true,decide_false,tf8, eq_self]
  refine same_ok ((((Rd.of_own hO3).grow (Grow.alloc w3 _)).grow g4).grow (Grow.alloc w4 _)) (rd_new1 w4 _ [1, 129, 128] 3 rfl) (by simp) (by omega) (fun w5 g5 => ?_)
  try simp -dsimp only [↓RE,↓c_seq,RU,RL,if_true,if_false,forall_const,implies_true,Nat.reduceLeDiff,Nat.reduceLT,pureOp,binPure,intBin,strBin,eqPure,isConstO,unPure,sliceLo,sliceHi,slicePure,lenPure,minPure,maxPure,buildP,resK,endV,yieldE,↓reduceIte,Nat.reduceEqDiff,reduceCtorEq,Nat.reduceAdd,Nat.reduceMul,Nat.reduceSub,Int.reduceLT,Int.reduceLE,Int.reduceToNat,Int.reduceAdd,Int.reduceSub,Int.reduceMul,ne_eq,decide_true,decide_false,tf8, eq_self]
  exact h w5 (((((((g0.trans g1).trans g2).trans g3).trans (Grow.alloc w3 _)).trans g4).trans (Grow.alloc w4 _)).trans g5)

end Go.Proofs.Ytmgiichlccdcfaa
