/- The program's series: Put, Cut, Delete, Range. -/
import Derived.Test.YtcnebgokbjpjnaaGreatSop
import Derived.Test.YtcnebgokbjpjnaaGreatDrawF
set_option linter.unusedVariables false
set_option linter.unusedSimpArgs false
set_option maxRecDepth 100000
namespace Go.Proofs.YtcnebgokbjpjnaaGreat
open Go

theorem sput_ok {w : World} {g : Nat} {v : Value} {l : List Smp} (hS : SerAt w g v l) (hn : l.length < 5864062014634) {t k x : Int} {R : VWK}
    (h : ∀ w' v', SerAt w' g v' (sPut l t (k, x)) → Keep (fun i => i = g ∨ fpV v i) w w' → (∀ i, fpV v' i → fpV v i ∨ w.heap.size ≤ i) → R (.tuple #[cV (sOld l t), .bool (sHas l t)]) w') :
    CallsV Tryz.prog 18 [.pointer (some ⟨g, 0, none⟩), .int .i64 t, .agg #[.int .u8 k, .int .i64 x]] w R := by
  obtain ⟨A, c, rfl, hnc, hA⟩ := hS.row.form
  have hp := hS.cell
  have hb1 := Blk.new' w 61 #[.int .u8 k, .int .i64 x]
  have g1 := Grow.alloc w (.cells #[.int .u8 k, .int .i64 x] 61)
  have hsz1 : (w.alloc (.cells #[.int .u8 k, .int .i64 x] 61)).heap.size = w.heap.size + 1 := by simp
  generalize hw1 : w.alloc (.cells #[.int .u8 k, .int .i64 x] 61) = w1 at hb1 g1 hsz1
  have hb2 := Blk.new' w1 61 #[.int .u8 0, .int .i64 0]
  have g2 := Grow.alloc w1 (.cells #[.int .u8 0, .int .i64 0] 61)
  have hS2 := hS.grow (g1.trans g2)
  have hp2 := hS2.cell
  refine calls_of_wpC mixed Tryz.func18 rfl (by kernel_rfl) ?_
  intro e he
  have he0 := he 0
  have he1 := he 1
  have he2 := he 2
  simp only [List.getD_cons_zero, List.getD_cons_succ] at he0 he1 he2
  clear he
  try simp -dsimp only [↓RE,↓c_seq,RU,RL,if_true,if_false,forall_const,implies_true,Nat.reduceLeDiff,Nat.reduceLT,pureOp,binPure,intBin,strBin,eqPure,isConstO,unPure,sliceLo,sliceHi,slicePure,slice3Pure,lenPure,capPure,minPure,maxPure,buildP,resK,endV,yieldE,↓reduceIte,Nat.reduceEqDiff,reduceCtorEq,Nat.reduceAdd,Nat.reduceMul,Nat.reduceSub,Int.reduceLT,Int.reduceLE,Int.reduceToNat,Int.reduceAdd,Int.reduceSub,Int.reduceMul,ne_eq,decide_true,decide_false,tf18, he0, he1, he2, hw1]
  refine find_ok hp2 hS2.row.rd (by omega) hS.rise (fun w3 i g3 hst => ?_)
  refine os_gen (fun e' => e' 0 = .pointer (some ⟨g, 0, none⟩) ∧ e' 1 = .int .i64 t ∧ e' 5 = .pointer (some ⟨w.heap.size, 0, none⟩) ∧ e' 6 = .pointer (some ⟨w1.heap.size, 0, none⟩) ∧ e' 19 = .tuple #[.int .i64 (i : Nat), .bool (isAt l t i)]) ⟨?_, ?_, ?_, ?_, ?_⟩ ?_
  · simp -dsimp only [↓RE,RU,RL,if_true,if_false,↓reduceIte,Nat.reduceEqDiff,reduceCtorEq,decide_true,decide_false, he0]
  · simp -dsimp only [↓RE,RU,RL,if_true,if_false,↓reduceIte,Nat.reduceEqDiff,reduceCtorEq,decide_true,decide_false, he1]
  · simp -dsimp only [↓RE,RU,RL,if_true,if_false,↓reduceIte,Nat.reduceEqDiff,reduceCtorEq,decide_true,decide_false, he0]
  · simp -dsimp only [↓RE,RU,RL,if_true,if_false,↓reduceIte,Nat.reduceEqDiff,reduceCtorEq,decide_true,decide_false, he0]
  · simp -dsimp only [↓RE,RU,RL,if_true,if_false,↓reduceIte,Nat.reduceEqDiff,reduceCtorEq,decide_true,decide_false, he0]
  clear he0 he1 he2 e
  rintro e ⟨he0, he1, he5, he6, he19⟩
  have g03 : Grow w w3 := (g1.trans g2).trans g3
  have hS3 := hS2.grow g3
  have hb13 := (hb1.grow g2).grow g3
  have hb23 := hb2.grow g3
  have hlo := hst.get hS.rise
  have hput := hst.put hS.rise (k, x)
  have hs2 : w1.heap.size + 1 ≤ w3.heap.size := by have := g2.size; have := g3.size; have := hb23.lt; omega
  have hgl := hS.b.lt
  have hrl := hS.row.lt
  cases hat : isAt l t i with
  | true =>
    obtain ⟨hil, hti, _, _⟩ := hst.hit hS.rise hat
    rw [hat, if_pos rfl] at hlo hput
    have e1 : sOld l t = (l.getD i (0, 0, 0)).2 := by rw [sOld, hlo]; rfl
    have e2 : sHas l t = true := by rw [sHas, hlo]; rfl
    rw [e1, e2] at h
    obtain ⟨hB3, hL3, hr⟩ := hS3
    rcases hL3.2 with ⟨h0, _⟩ | ⟨gr, cc, cur, hve, hg, hnc3, hcm, hcc, hct⟩
    · exfalso; injection h0 with _ h0; omega
    injection hve with hA3 _ hcc3
    subst hA3 hcc3
    have hp3 : w3.cell? ⟨g, 0, none⟩ = some (.slice (some ⟨gr, 0, none⟩) l.length c) := (hB3.cell 0).trans rfl
    obtain ⟨ad, hAd, hca, hcv, hcs⟩ := hL3.rd.smp (k := i) hil
    injection hAd with hAd
    subst hAd
    simp only [add_lit', Nat.zero_add] at hcv
    have hgrl := hrl gr ((fpV_some _ _ _ _).2 rfl)
    have hrb : gr ≠ g := fun he => hS.ne ((fpV_some _ _ _ _).2 he.symm)
    simp -dsimp only [↓RE,RU,RL,if_true,if_false,forall_const,implies_true,Nat.reduceLeDiff,Nat.reduceLT,pureOp,binPure,intBin,strBin,eqPure,isConstO,unPure,sliceLo,sliceHi,slicePure,slice3Pure,lenPure,capPure,minPure,maxPure,buildP,resK,endV,yieldE,↓reduceIte,Nat.reduceEqDiff,reduceCtorEq,Nat.reduceAdd,Nat.reduceMul,Nat.reduceSub,Int.reduceLT,Int.reduceLE,Int.reduceToNat,Int.reduceAdd,Int.reduceSub,Int.reduceMul,ne_eq,decide_true,decide_false,tf18, he0, he1, he19]
    rw [c_seq, c_seq]
    simp -dsimp only [↓RE,RU,RL,if_true,if_false,forall_const,implies_true,Nat.reduceLeDiff,Nat.reduceLT,pureOp,binPure,intBin,strBin,eqPure,isConstO,unPure,sliceLo,sliceHi,slicePure,slice3Pure,lenPure,capPure,minPure,maxPure,buildP,resK,endV,yieldE,↓reduceIte,Nat.reduceEqDiff,reduceCtorEq,Nat.reduceAdd,Nat.reduceMul,Nat.reduceSub,Int.reduceLT,Int.reduceLE,Int.reduceToNat,Int.reduceAdd,Int.reduceSub,Int.reduceMul,ne_eq,decide_true,decide_false,tf18, hat]
    rw [c_seq]
    simp -dsimp only [↓RE,RU,RL,if_true,if_false,forall_const,implies_true,Nat.reduceLeDiff,Nat.reduceLT,pureOp,binPure,intBin,strBin,eqPure,isConstO,unPure,sliceLo,sliceHi,slicePure,slice3Pure,lenPure,capPure,minPure,maxPure,buildP,resK,endV,yieldE,↓reduceIte,Nat.reduceEqDiff,reduceCtorEq,Nat.reduceAdd,Nat.reduceMul,Nat.reduceSub,Int.reduceLT,Int.reduceLE,Int.reduceToNat,Int.reduceAdd,Int.reduceSub,Int.reduceMul,ne_eq,decide_true,decide_false,tf18, he0, hp3, hat]
    refine ⟨by omega, hcv ?_⟩
    have hb4 := Blk.new' w3 61 #[.int .u8 0, .int .i64 0]
    have g4 := Grow.alloc w3 (.cells #[.int .u8 0, .int .i64 0] 61)
    simp -dsimp only [↓RE,RU,RL,if_true,if_false,forall_const,implies_true,Nat.reduceLeDiff,Nat.reduceLT,pureOp,binPure,intBin,strBin,eqPure,isConstO,unPure,sliceLo,sliceHi,slicePure,slice3Pure,lenPure,capPure,minPure,maxPure,buildP,resK,endV,yieldE,↓reduceIte,Nat.reduceEqDiff,reduceCtorEq,Nat.reduceAdd,Nat.reduceMul,Nat.reduceSub,Int.reduceLT,Int.reduceLE,Int.reduceToNat,Int.reduceAdd,Int.reduceSub,Int.reduceMul,ne_eq,decide_true,decide_false,tf18, he0, hp3, hat]
    refine blk_st2 hb4 rfl rfl (fun w5 hb5 k5 => ?_)
    have g5 : Grow w3 w5 := g4.above k5 (fun q hq e => by omega)
    have hp5 : w5.drew.cell? ⟨g, 0, none⟩ = some (.slice (some ⟨gr, 0, none⟩) l.length c) := ((hB3.grow g5).drew.cell 0).trans rfl
    have hb15 := hb13.grow g5
    have hg5 := hg.grow g5
    refine os_gen (fun e' => e' 0 = .pointer (some ⟨g, 0, none⟩) ∧ e' 1 = .int .i64 t ∧ e' 5 = .pointer (some ⟨w.heap.size, 0, none⟩) ∧ e' 6 = .pointer (some ⟨w1.heap.size, 0, none⟩) ∧ e' 8 = .int .i64 (i : Nat) ∧ e' 10 = .pointer (some ⟨w3.heap.size, 0, none⟩)) ⟨?_, ?_, ?_, ?_, ?_, ?_⟩ ?_
    · simp -dsimp only [↓RE,RU,RL,if_true,if_false,↓reduceIte,Nat.reduceEqDiff,reduceCtorEq,decide_true,decide_false, he0]
    · simp -dsimp only [↓RE,RU,RL,if_true,if_false,↓reduceIte,Nat.reduceEqDiff,reduceCtorEq,decide_true,decide_false, he1]
    · simp -dsimp only [↓RE,RU,RL,if_true,if_false,↓reduceIte,Nat.reduceEqDiff,reduceCtorEq,decide_true,decide_false, he5]
    · simp -dsimp only [↓RE,RU,RL,if_true,if_false,↓reduceIte,Nat.reduceEqDiff,reduceCtorEq,decide_true,decide_false, he6]
    · simp -dsimp only [↓RE,RU,RL,if_true,if_false,↓reduceIte,Nat.reduceEqDiff,reduceCtorEq,decide_true,decide_false, he19]
    · simp -dsimp only [↓RE,RU,RL,if_true,if_false,↓reduceIte,Nat.reduceEqDiff,reduceCtorEq,decide_true,decide_false, he19]
    clear he0 he1 he5 he6 he19 e
    rintro e ⟨he0, he1, he5, he6, he8, he10⟩
    simp -dsimp only [↓RE,RU,RL,if_true,if_false,forall_const,implies_true,Nat.reduceLeDiff,Nat.reduceLT,pureOp,binPure,intBin,strBin,eqPure,isConstO,unPure,sliceLo,sliceHi,slicePure,slice3Pure,lenPure,capPure,minPure,maxPure,buildP,resK,endV,yieldE,↓reduceIte,Nat.reduceEqDiff,reduceCtorEq,Nat.reduceAdd,Nat.reduceMul,Nat.reduceSub,Int.reduceLT,Int.reduceLE,Int.reduceToNat,Int.reduceAdd,Int.reduceSub,Int.reduceMul,ne_eq,decide_true,decide_false,tf18, he0]
    rw [c_seq]
    simp -dsimp only [↓RE,RU,RL,if_true,if_false,forall_const,implies_true,Nat.reduceLeDiff,Nat.reduceLT,pureOp,binPure,intBin,strBin,eqPure,isConstO,unPure,sliceLo,sliceHi,slicePure,slice3Pure,lenPure,capPure,minPure,maxPure,buildP,resK,endV,yieldE,↓reduceIte,Nat.reduceEqDiff,reduceCtorEq,Nat.reduceAdd,Nat.reduceMul,Nat.reduceSub,Int.reduceLT,Int.reduceLE,Int.reduceToNat,Int.reduceAdd,Int.reduceSub,Int.reduceMul,ne_eq,decide_true,decide_false,tf18, he0]
    refine wpDraw_tail mixed 7 (by kernel_rfl) ?_
    simp -dsimp only [↓RE,RU,RL,if_true,if_false,forall_const,implies_true,Nat.reduceLeDiff,Nat.reduceLT,pureOp,binPure,intBin,strBin,eqPure,isConstO,unPure,sliceLo,sliceHi,slicePure,slice3Pure,lenPure,capPure,minPure,maxPure,buildP,resK,endV,yieldE,↓reduceIte,Nat.reduceEqDiff,reduceCtorEq,Nat.reduceAdd,Nat.reduceMul,Nat.reduceSub,Int.reduceLT,Int.reduceLE,Int.reduceToNat,Int.reduceAdd,Int.reduceSub,Int.reduceMul,ne_eq,decide_true,decide_false,tf18, he0, he1, he5, he8, hp5]
    refine blk_agg2 hb15.drew ?_
    simp -dsimp only [↓RE,RU,RL,if_true,if_false,forall_const,implies_true,Nat.reduceLeDiff,Nat.reduceLT,pureOp,binPure,intBin,strBin,eqPure,isConstO,unPure,sliceLo,sliceHi,slicePure,slice3Pure,lenPure,capPure,minPure,maxPure,buildP,resK,endV,yieldE,↓reduceIte,Nat.reduceEqDiff,reduceCtorEq,Nat.reduceAdd,Nat.reduceMul,Nat.reduceSub,Int.reduceLT,Int.reduceLE,Int.reduceToNat,Int.reduceAdd,Int.reduceSub,Int.reduceMul,ne_eq,decide_true,decide_false,tf18, he0, he1, he5, he8, hp5, add_lit', Nat.zero_add]
    have hg5d : Blk w5.drew gr 89 cur := hg5.drew
    refine ⟨by omega, ?_⟩
    refine hg5d.stAgg (by simp; omega) (by simp [Value.oneCell']) (fun w6 hb6 k6 => ?_)
    have k36 : Keep (fun q => q = gr) w3 w6 := (g5.trans (Grow.drew w5)).then k6
    have hb56 : Blk w6 w3.heap.size 61 [.int .u8 (l.getD i (0, 0, 0)).2.1, .int .i64 (l.getD i (0, 0, 0)).2.2] := hb5.drew.keep k6 (by have := hg.lt; omega)
    have hb26 := hb23.keep k36 (by have := hg.lt; omega)
    simp -dsimp only [↓RE,RU,RL,if_true,if_false,forall_const,implies_true,Nat.reduceLeDiff,Nat.reduceLT,pureOp,binPure,intBin,strBin,eqPure,isConstO,unPure,sliceLo,sliceHi,slicePure,slice3Pure,lenPure,capPure,minPure,maxPure,buildP,resK,endV,yieldE,↓reduceIte,Nat.reduceEqDiff,reduceCtorEq,Nat.reduceAdd,Nat.reduceMul,Nat.reduceSub,Int.reduceLT,Int.reduceLE,Int.reduceToNat,Int.reduceAdd,Int.reduceSub,Int.reduceMul,ne_eq,decide_true,decide_false,tf18, he0]
    rw [c_seq]
    simp -dsimp only [↓RE,RU,RL,if_true,if_false,forall_const,implies_true,Nat.reduceLeDiff,Nat.reduceLT,pureOp,binPure,intBin,strBin,eqPure,isConstO,unPure,sliceLo,sliceHi,slicePure,slice3Pure,lenPure,capPure,minPure,maxPure,buildP,resK,endV,yieldE,↓reduceIte,Nat.reduceEqDiff,reduceCtorEq,Nat.reduceAdd,Nat.reduceMul,Nat.reduceSub,Int.reduceLT,Int.reduceLE,Int.reduceToNat,Int.reduceAdd,Int.reduceSub,Int.reduceMul,ne_eq,decide_true,decide_false,tf18, he10, he6]
    refine blk_agg2 hb56 ?_
    simp -dsimp only [↓RE,RU,RL,if_true,if_false,forall_const,implies_true,Nat.reduceLeDiff,Nat.reduceLT,pureOp,binPure,intBin,strBin,eqPure,isConstO,unPure,sliceLo,sliceHi,slicePure,slice3Pure,lenPure,capPure,minPure,maxPure,buildP,resK,endV,yieldE,↓reduceIte,Nat.reduceEqDiff,reduceCtorEq,Nat.reduceAdd,Nat.reduceMul,Nat.reduceSub,Int.reduceLT,Int.reduceLE,Int.reduceToNat,Int.reduceAdd,Int.reduceSub,Int.reduceMul,ne_eq,decide_true,decide_false,tf18, he10, he6]
    refine blk_st2 hb26 rfl rfl (fun w7 hb7 k7 => ?_)
    simp -dsimp only [↓RE,RU,RL,if_true,if_false,forall_const,implies_true,Nat.reduceLeDiff,Nat.reduceLT,pureOp,binPure,intBin,strBin,eqPure,isConstO,unPure,sliceLo,sliceHi,slicePure,slice3Pure,lenPure,capPure,minPure,maxPure,buildP,resK,endV,yieldE,↓reduceIte,Nat.reduceEqDiff,reduceCtorEq,Nat.reduceAdd,Nat.reduceMul,Nat.reduceSub,Int.reduceLT,Int.reduceLE,Int.reduceToNat,Int.reduceAdd,Int.reduceSub,Int.reduceMul,ne_eq,decide_true,decide_false,tf18, he6]
    refine blk_agg2 hb7 ?_
    simp -dsimp only [↓RE,RU,RL,if_true,if_false,forall_const,implies_true,Nat.reduceLeDiff,Nat.reduceLT,pureOp,binPure,intBin,strBin,eqPure,isConstO,unPure,sliceLo,sliceHi,slicePure,slice3Pure,lenPure,capPure,minPure,maxPure,buildP,resK,endV,yieldE,↓reduceIte,Nat.reduceEqDiff,reduceCtorEq,Nat.reduceAdd,Nat.reduceMul,Nat.reduceSub,Int.reduceLT,Int.reduceLE,Int.reduceToNat,Int.reduceAdd,Int.reduceSub,Int.reduceMul,ne_eq,decide_true,decide_false,tf18, he6]
    have k37 : Keep (fun q => q = gr ∨ q = w1.heap.size) w3 w7 := k36.trans k7 (fun _ _ h => .inl h) (fun _ _ h => .inr h)
    have k07 : Keep (fun q => q = g ∨ fpV (.slice (some ⟨gr, 0, none⟩) l.length c) q) w w7 := g03.above' k37 (fun q hq e => by
      rcases e with e | e
      · exact .inr ((fpV_some _ _ _ _).2 e)
      · omega)
    have hnl : (l.take i ++ (t, (k, x)) :: l.drop (i + 1)).length = l.length := by rw [List.length_append, List.length_cons, List.length_take, List.length_drop]; omega
    refine h w7 (.slice (some ⟨gr, 0, none⟩) l.length c) ⟨hB3.keep k37 (by omega), ?_, hS.rise.put _ _⟩ k07 (fun q hq => .inl hq)
    rw [hput]
    refine ⟨by rw [flat_length], .inr ⟨gr, c, _, by rw [hnl], hb6.keep k7 (by omega), by omega, hcm, ?_, set_cells hil hct (by omega) hti⟩⟩
    simp only [List.length_append, List.length_take, List.length_drop, List.length_cons, List.length_nil]; omega
  | false =>
    rw [hat, if_neg (by simp)] at hlo
    rw [hat, if_neg (by simp)] at hput
    have e1 : sOld l t = (0, 0) := by rw [sOld, hlo]; rfl
    have e2 : sHas l t = false := by rw [sHas, hlo]; rfl
    rw [e1, e2] at h
    have hp3 := hS3.cell
    simp -dsimp only [↓RE,RU,RL,if_true,if_false,forall_const,implies_true,Nat.reduceLeDiff,Nat.reduceLT,pureOp,binPure,intBin,strBin,eqPure,isConstO,unPure,sliceLo,sliceHi,slicePure,slice3Pure,lenPure,capPure,minPure,maxPure,buildP,resK,endV,yieldE,↓reduceIte,Nat.reduceEqDiff,reduceCtorEq,Nat.reduceAdd,Nat.reduceMul,Nat.reduceSub,Int.reduceLT,Int.reduceLE,Int.reduceToNat,Int.reduceAdd,Int.reduceSub,Int.reduceMul,ne_eq,decide_true,decide_false,tf18, he0, he1, he19]
    rw [c_seq, c_seq]
    simp -dsimp only [↓RE,RU,RL,if_true,if_false,forall_const,implies_true,Nat.reduceLeDiff,Nat.reduceLT,pureOp,binPure,intBin,strBin,eqPure,isConstO,unPure,sliceLo,sliceHi,slicePure,slice3Pure,lenPure,capPure,minPure,maxPure,buildP,resK,endV,yieldE,↓reduceIte,Nat.reduceEqDiff,reduceCtorEq,Nat.reduceAdd,Nat.reduceMul,Nat.reduceSub,Int.reduceLT,Int.reduceLE,Int.reduceToNat,Int.reduceAdd,Int.reduceSub,Int.reduceMul,ne_eq,decide_true,decide_false,tf18, hat]
    rw [c_seq]
    simp -dsimp only [↓RE,RU,RL,if_true,if_false,forall_const,implies_true,Nat.reduceLeDiff,Nat.reduceLT,pureOp,binPure,intBin,strBin,eqPure,isConstO,unPure,sliceLo,sliceHi,slicePure,slice3Pure,lenPure,capPure,minPure,maxPure,buildP,resK,endV,yieldE,↓reduceIte,Nat.reduceEqDiff,reduceCtorEq,Nat.reduceAdd,Nat.reduceMul,Nat.reduceSub,Int.reduceLT,Int.reduceLE,Int.reduceToNat,Int.reduceAdd,Int.reduceSub,Int.reduceMul,ne_eq,decide_true,decide_false,tf18, hat]
    have hS3b := hS3.b
    refine wpDraw_fin (fun w' => w'.cell? ⟨g, 0, none⟩ = some (.slice A l.length c) ∧ Blk w' w.heap.size 61 [.int .u8 k, .int .i64 x]) [(0, true), (1, true), (2, true), (3, true), (4, true), (5, true), (6, true), (7, true), (8, true), (9, true), (10, false), (11, false), (12, true), (13, true), (14, true)] 15 (by kernel_rfl) ⟨hp3, hb13⟩ ?_
    simp only [planL, List.getElem?_toArray, List.getElem?_cons_zero, List.getElem?_cons_succ, Option.toList_some, List.map_cons, List.map_nil, List.cons_append, List.nil_append]
    simp -dsimp only [↓RE,RU,RL,if_true,if_false,forall_const,implies_true,Nat.reduceLeDiff,Nat.reduceLT,pureOp,binPure,intBin,strBin,eqPure,isConstO,unPure,sliceLo,sliceHi,slicePure,slice3Pure,lenPure,capPure,minPure,maxPure,buildP,resK,endV,yieldE,↓reduceIte,Nat.reduceEqDiff,reduceCtorEq,Nat.reduceAdd,Nat.reduceMul,Nat.reduceSub,Int.reduceLT,Int.reduceLE,Int.reduceToNat,Int.reduceAdd,Int.reduceSub,Int.reduceMul,ne_eq,decide_true,decide_false,tf18, he0]
    refine ⟨_, fun w' hw => hw.1, ?_⟩
    simp -dsimp only [↓RE,RU,RL,if_true,if_false,forall_const,implies_true,Nat.reduceLeDiff,Nat.reduceLT,pureOp,binPure,intBin,strBin,eqPure,isConstO,unPure,sliceLo,sliceHi,slicePure,slice3Pure,lenPure,capPure,minPure,maxPure,buildP,resK,endV,yieldE,↓reduceIte,Nat.reduceEqDiff,reduceCtorEq,Nat.reduceAdd,Nat.reduceMul,Nat.reduceSub,Int.reduceLT,Int.reduceLE,Int.reduceToNat,Int.reduceAdd,Int.reduceSub,Int.reduceMul,ne_eq,decide_true,decide_false,tf18, he0, he1, he5, he19]
    refine ⟨[.int .u8 k, .int .i64 x], rfl, fun w' hw j u hu => by rw [add_lit', Nat.zero_add, hw.2.cell]; exact hu, ?_⟩
    simp -dsimp only [↓RE,RU,RL,if_true,if_false,forall_const,implies_true,Nat.reduceLeDiff,Nat.reduceLT,pureOp,binPure,intBin,strBin,eqPure,isConstO,unPure,sliceLo,sliceHi,slicePure,slice3Pure,lenPure,capPure,minPure,maxPure,buildP,resK,endV,yieldE,↓reduceIte,Nat.reduceEqDiff,reduceCtorEq,Nat.reduceAdd,Nat.reduceMul,Nat.reduceSub,Int.reduceLT,Int.reduceLE,Int.reduceToNat,Int.reduceAdd,Int.reduceSub,Int.reduceMul,ne_eq,decide_true,decide_false,tf18, he0, he1, he5, he19]
    have hbx := Blk.new' w3.drew 89 #[.int .i64 t, .int .u8 k, .int .i64 x]
    have gx : Grow w3 (w3.drew.alloc (.cells #[.int .i64 t, .int .u8 k, .int .i64 x] 89)) := (Grow.drew w3).trans (Grow.alloc _ _)
    generalize hwx : w3.drew.alloc (.cells #[.int .i64 t, .int .u8 k, .int .i64 x] 89) = wx at hbx gx ⊢
    have hSx := hS3.grow gx
    have hb1x := hb13.grow gx
    have hb2x := hb23.grow gx
    have hdz : w3.drew.heap.size = w3.heap.size := rfl
    have hlow : ∀ q, fpV (.slice A l.length c) q → q < w.heap.size := hrl
    refine ⟨⟨hSx.cell, hb1x⟩, ?_⟩
    refine insert_ok hSx.row hst.le hn (x := (t, (k, x))) hbx (fun hq => by have := hlow _ hq; have := g03.size; omega) (fun w6 v6 hL6 hK6 hF6 => ?_)
    have hB6 : Blk w6 g 82 [.slice A l.length c] := hSx.b.keep hK6 hSx.ne
    have hb16 := hb1x.keep hK6 (fun hq => by have := hlow _ hq; omega)
    have hb26 := hb2x.keep hK6 (fun hq => by have := hlow _ hq; have := g1.size; omega)
    have hv6 : ¬ fpV v6 g := fun hq => by
      rcases hF6 _ hq with hq | hq
      · exact hSx.ne hq
      · have := gx.size; have := g03.size; omega
    have hf6 : ∃ A6 n6 c6, v6 = .slice A6 n6 c6 := by obtain ⟨A6, c6, h6, _⟩ := hL6.form; exact ⟨A6, _, c6, h6⟩
    obtain ⟨A6, n6, c6, rfl⟩ := hf6
    refine os_gen (fun e' => e' 42 = .pointer (some ⟨g, 0, none⟩) ∧ e' 6 = .pointer (some ⟨w1.heap.size, 0, none⟩) ∧ e' 53 = .slice A6 n6 c6) ⟨?_, ?_, ?_⟩ ?_
    · simp -dsimp only [↓RE,RU,RL,if_true,if_false,↓reduceIte,Nat.reduceEqDiff,reduceCtorEq,decide_true,decide_false, he0]
    · simp -dsimp only [↓RE,RU,RL,if_true,if_false,↓reduceIte,Nat.reduceEqDiff,reduceCtorEq,decide_true,decide_false, he6]
    · simp -dsimp only [↓RE,RU,RL,if_true,if_false,↓reduceIte,Nat.reduceEqDiff,reduceCtorEq,decide_true,decide_false, he0]
    clear he0 he1 he5 he6 he19 e
    rintro e ⟨he42, he6, he53⟩
    simp -dsimp only [↓RE,RU,RL,if_true,if_false,forall_const,implies_true,Nat.reduceLeDiff,Nat.reduceLT,pureOp,binPure,intBin,strBin,eqPure,isConstO,unPure,sliceLo,sliceHi,slicePure,slice3Pure,lenPure,capPure,minPure,maxPure,buildP,resK,endV,yieldE,↓reduceIte,Nat.reduceEqDiff,reduceCtorEq,Nat.reduceAdd,Nat.reduceMul,Nat.reduceSub,Int.reduceLT,Int.reduceLE,Int.reduceToNat,Int.reduceAdd,Int.reduceSub,Int.reduceMul,ne_eq,decide_true,decide_false,tf18, he42]
    refine ⟨⟨(hB6.cell 0).trans rfl, hb16⟩, ?_⟩
    simp -dsimp only [↓RE,RU,RL,if_true,if_false,forall_const,implies_true,Nat.reduceLeDiff,Nat.reduceLT,pureOp,binPure,intBin,strBin,eqPure,isConstO,unPure,sliceLo,sliceHi,slicePure,slice3Pure,lenPure,capPure,minPure,maxPure,buildP,resK,endV,yieldE,↓reduceIte,Nat.reduceEqDiff,reduceCtorEq,Nat.reduceAdd,Nat.reduceMul,Nat.reduceSub,Int.reduceLT,Int.reduceLE,Int.reduceToNat,Int.reduceAdd,Int.reduceSub,Int.reduceMul,ne_eq,decide_true,decide_false,tf18, he42, he53]
    refine hB6.st (i := 0) (by simp) ?_
    have hB7 := hB6.set 0 (.slice A6 n6 c6)
    have k7 := Keep.set1 w6 g 0 (.slice A6 n6 c6)
    have hb27 := hb26.keep k7 (by omega)
    simp -dsimp only [↓RE,RU,RL,if_true,if_false,forall_const,implies_true,Nat.reduceLeDiff,Nat.reduceLT,pureOp,binPure,intBin,strBin,eqPure,isConstO,unPure,sliceLo,sliceHi,slicePure,slice3Pure,lenPure,capPure,minPure,maxPure,buildP,resK,endV,yieldE,↓reduceIte,Nat.reduceEqDiff,reduceCtorEq,Nat.reduceAdd,Nat.reduceMul,Nat.reduceSub,Int.reduceLT,Int.reduceLE,Int.reduceToNat,Int.reduceAdd,Int.reduceSub,Int.reduceMul,ne_eq,decide_true,decide_false,tf18, he6]
    rw [c_seq]
    simp -dsimp only [↓RE,RU,RL,if_true,if_false,forall_const,implies_true,Nat.reduceLeDiff,Nat.reduceLT,pureOp,binPure,intBin,strBin,eqPure,isConstO,unPure,sliceLo,sliceHi,slicePure,slice3Pure,lenPure,capPure,minPure,maxPure,buildP,resK,endV,yieldE,↓reduceIte,Nat.reduceEqDiff,reduceCtorEq,Nat.reduceAdd,Nat.reduceMul,Nat.reduceSub,Int.reduceLT,Int.reduceLE,Int.reduceToNat,Int.reduceAdd,Int.reduceSub,Int.reduceMul,ne_eq,decide_true,decide_false,tf18, he6]
    refine blk_st2 hb27 rfl rfl (fun w8 hb8 k8 => ?_)
    simp -dsimp only [↓RE,RU,RL,if_true,if_false,forall_const,implies_true,Nat.reduceLeDiff,Nat.reduceLT,pureOp,binPure,intBin,strBin,eqPure,isConstO,unPure,sliceLo,sliceHi,slicePure,slice3Pure,lenPure,capPure,minPure,maxPure,buildP,resK,endV,yieldE,↓reduceIte,Nat.reduceEqDiff,reduceCtorEq,Nat.reduceAdd,Nat.reduceMul,Nat.reduceSub,Int.reduceLT,Int.reduceLE,Int.reduceToNat,Int.reduceAdd,Int.reduceSub,Int.reduceMul,ne_eq,decide_true,decide_false,tf18, he6]
    refine blk_agg2 hb8 ?_
    simp -dsimp only [↓RE,RU,RL,if_true,if_false,forall_const,implies_true,Nat.reduceLeDiff,Nat.reduceLT,pureOp,binPure,intBin,strBin,eqPure,isConstO,unPure,sliceLo,sliceHi,slicePure,slice3Pure,lenPure,capPure,minPure,maxPure,buildP,resK,endV,yieldE,↓reduceIte,Nat.reduceEqDiff,reduceCtorEq,Nat.reduceAdd,Nat.reduceMul,Nat.reduceSub,Int.reduceLT,Int.reduceLE,Int.reduceToNat,Int.reduceAdd,Int.reduceSub,Int.reduceMul,ne_eq,decide_true,decide_false,tf18, he6]
    have k38 : Keep (fun q => (fpV (.slice A l.length c) q ∨ q = g) ∨ q = w1.heap.size) w3 w8 := (gx.then (hK6.trans k7 (fun _ _ h => .inl h) (fun _ _ h => .inr h))).trans k8 (fun _ _ h => .inl h) (fun _ _ h => .inr h)
    have k08 : Keep (fun q => q = g ∨ fpV (.slice A l.length c) q) w w8 := g03.above' k38 (fun q hq e => by
      rcases e with (e | e) | e
      · exact .inr e
      · exact .inl e
      · omega)
    have hF6' : ∀ q, fpV (.slice A6 n6 c6) q → fpV (.slice A l.length c) q ∨ w.heap.size + 2 ≤ q := fun q hq => (hF6 q hq).imp id (fun h => by have := gx.size; omega)
    have hsz2 : w1.heap.size = w.heap.size + 1 := hsz1
    refine h w8 (.slice A6 n6 c6) ⟨hB7.keep k8 (by omega), ?_, hS.rise.put _ _⟩ k08 (fun q hq => (hF6' q hq).imp id (fun h => by omega))
    rw [hput]
    exact (hL6.keep k7 (fun q hq e => hv6 (e ▸ hq))).keep k8 (fun q hq e => by
      rcases hF6' q hq with h1 | h1
      · have := hlow _ h1; omega
      · omega)

end Go.Proofs.YtcnebgokbjpjnaaGreat
