/- The program's series: Cut, Delete, Range. -/
import Derived.Test.YtcnebgokbjpjnaaGreatSput
set_option linter.unusedVariables false
set_option linter.unusedSimpArgs false
set_option maxRecDepth 100000
namespace Go.Proofs.YtcnebgokbjpjnaaGreat
open Go

theorem cut_ok {w : World} {g : Nat} {v : Value} {l : List Smp} (hS : SerAt w g v l) (hn : l.length < 5864062014634) {t : Int} {R : VWK}
    (h : ∀ w' v', SerAt w' g v' (sCut l t) → Keep (fun i => i = g ∨ fpV v i) w w' → (∀ i, fpV v' i → fpV v i) → R (.tuple #[cV (sOld l t), .bool (sHas l t)]) w') :
    CallsV Tryz.prog 32 [.pointer (some ⟨g, 0, none⟩), .int .i64 t] w R := by
  obtain ⟨A, c, rfl, hnc, hA⟩ := hS.row.form
  have hp := hS.cell
  have hb1 := Blk.new' w 61 #[.int .u8 0, .int .i64 0]
  have g1 := Grow.alloc w (.cells #[.int .u8 0, .int .i64 0] 61)
  have hS1 := hS.grow g1
  have hp1 := hS1.cell
  refine calls_of_wpC mixed Tryz.func32 rfl (by kernel_rfl) ?_
  intro e he
  have he0 := he 0
  have he1 := he 1
  simp only [List.getD_cons_zero, List.getD_cons_succ] at he0 he1
  clear he
  try simp -dsimp only [↓RE,↓c_seq,RU,RL,if_true,if_false,forall_const,implies_true,Nat.reduceLeDiff,Nat.reduceLT,pureOp,binPure,intBin,strBin,eqPure,isConstO,unPure,sliceLo,sliceHi,slicePure,slice3Pure,lenPure,capPure,minPure,maxPure,buildP,resK,endV,yieldE,↓reduceIte,Nat.reduceEqDiff,reduceCtorEq,Nat.reduceAdd,Nat.reduceMul,Nat.reduceSub,Int.reduceLT,Int.reduceLE,Int.reduceToNat,Int.reduceAdd,Int.reduceSub,Int.reduceMul,ne_eq,decide_true,decide_false,tf32, he0, he1]
  refine find_ok hp1 hS1.row.rd (by omega) hS.rise (fun w2 i g2 hst => ?_)
  refine os_gen (fun e' => e' 0 = .pointer (some ⟨g, 0, none⟩) ∧ e' 4 = .pointer (some ⟨w.heap.size, 0, none⟩) ∧ e' 17 = .tuple #[.int .i64 (i : Nat), .bool (isAt l t i)]) ⟨?_, ?_, ?_⟩ ?_
  · simp -dsimp only [↓RE,RU,RL,if_true,if_false,↓reduceIte,Nat.reduceEqDiff,reduceCtorEq,decide_true,decide_false, he0]
  · simp -dsimp only [↓RE,RU,RL,if_true,if_false,↓reduceIte,Nat.reduceEqDiff,reduceCtorEq,decide_true,decide_false, he0]
  · simp -dsimp only [↓RE,RU,RL,if_true,if_false,↓reduceIte,Nat.reduceEqDiff,reduceCtorEq,decide_true,decide_false, he0]
  clear he0 he1 e
  rintro e ⟨he0, he4, he17⟩
  have g02 : Grow w w2 := g1.trans g2
  have hS2 := hS1.grow g2
  have hb2 := hb1.grow g2
  have hlo := hst.get hS.rise
  have hcut := hst.cut hS.rise
  have hgl := hS.b.lt
  have hrl := hS.row.lt
  cases hat : isAt l t i with
  | false =>
    rw [hat, if_neg (by simp)] at hlo
    rw [hat, if_neg (by simp)] at hcut
    have e1 : sOld l t = (0, 0) := by rw [sOld, hlo]; rfl
    have e2 : sHas l t = false := by rw [sHas, hlo]; rfl
    rw [e1, e2, hcut] at h
    simp -dsimp only [↓RE,RU,RL,if_true,if_false,forall_const,implies_true,Nat.reduceLeDiff,Nat.reduceLT,pureOp,binPure,intBin,strBin,eqPure,isConstO,unPure,sliceLo,sliceHi,slicePure,slice3Pure,lenPure,capPure,minPure,maxPure,buildP,resK,endV,yieldE,↓reduceIte,Nat.reduceEqDiff,reduceCtorEq,Nat.reduceAdd,Nat.reduceMul,Nat.reduceSub,Int.reduceLT,Int.reduceLE,Int.reduceToNat,Int.reduceAdd,Int.reduceSub,Int.reduceMul,ne_eq,decide_true,decide_false,tf32, he0, he17]
    rw [c_seq, c_seq]
    simp -dsimp only [↓RE,RU,RL,if_true,if_false,forall_const,implies_true,Nat.reduceLeDiff,Nat.reduceLT,pureOp,binPure,intBin,strBin,eqPure,isConstO,unPure,sliceLo,sliceHi,slicePure,slice3Pure,lenPure,capPure,minPure,maxPure,buildP,resK,endV,yieldE,↓reduceIte,Nat.reduceEqDiff,reduceCtorEq,Nat.reduceAdd,Nat.reduceMul,Nat.reduceSub,Int.reduceLT,Int.reduceLE,Int.reduceToNat,Int.reduceAdd,Int.reduceSub,Int.reduceMul,ne_eq,decide_true,decide_false,tf32, hat]
    rw [c_seq]
    simp -dsimp only [↓RE,RU,RL,if_true,if_false,forall_const,implies_true,Nat.reduceLeDiff,Nat.reduceLT,pureOp,binPure,intBin,strBin,eqPure,isConstO,unPure,sliceLo,sliceHi,slicePure,slice3Pure,lenPure,capPure,minPure,maxPure,buildP,resK,endV,yieldE,↓reduceIte,Nat.reduceEqDiff,reduceCtorEq,Nat.reduceAdd,Nat.reduceMul,Nat.reduceSub,Int.reduceLT,Int.reduceLE,Int.reduceToNat,Int.reduceAdd,Int.reduceSub,Int.reduceMul,ne_eq,decide_true,decide_false,tf32, he4]
    refine blk_st2 hb2 rfl rfl (fun w3 hb3 k3 => ?_)
    simp -dsimp only [↓RE,RU,RL,if_true,if_false,forall_const,implies_true,Nat.reduceLeDiff,Nat.reduceLT,pureOp,binPure,intBin,strBin,eqPure,isConstO,unPure,sliceLo,sliceHi,slicePure,slice3Pure,lenPure,capPure,minPure,maxPure,buildP,resK,endV,yieldE,↓reduceIte,Nat.reduceEqDiff,reduceCtorEq,Nat.reduceAdd,Nat.reduceMul,Nat.reduceSub,Int.reduceLT,Int.reduceLE,Int.reduceToNat,Int.reduceAdd,Int.reduceSub,Int.reduceMul,ne_eq,decide_true,decide_false,tf32, he4]
    refine blk_agg2 hb3 ?_
    simp -dsimp only [↓RE,RU,RL,if_true,if_false,forall_const,implies_true,Nat.reduceLeDiff,Nat.reduceLT,pureOp,binPure,intBin,strBin,eqPure,isConstO,unPure,sliceLo,sliceHi,slicePure,slice3Pure,lenPure,capPure,minPure,maxPure,buildP,resK,endV,yieldE,↓reduceIte,Nat.reduceEqDiff,reduceCtorEq,Nat.reduceAdd,Nat.reduceMul,Nat.reduceSub,Int.reduceLT,Int.reduceLE,Int.reduceToNat,Int.reduceAdd,Int.reduceSub,Int.reduceMul,ne_eq,decide_true,decide_false,tf32, he4]
    have k03 : Grow w w3 := Keep.above g02 k3 (fun k hk e => by omega)
    exact h w3 _ (hS.grow k03) (k03.mono (fun _ _ h => h.elim)) (fun _ hq => hq)
  | true =>
    obtain ⟨hil, hti, _, _⟩ := hst.hit hS.rise hat
    rw [hat, if_pos rfl] at hlo hcut
    have e1 : sOld l t = (l.getD i (0, 0, 0)).2 := by rw [sOld, hlo]; rfl
    have e2 : sHas l t = true := by rw [sHas, hlo]; rfl
    rw [e1, e2] at h
    have hp2 := hS2.cell
    obtain ⟨ad, hAd, hca, hcv, hcs⟩ := hS2.row.rd.smp (k := i) hil
    subst hAd
    have hw1 : IntKind.i64.wrap ((i : Int) + 1) = ((i + 1 : Nat) : Int) := by rw [wrap_i64_in (by omega) (by omega)]; omega
    have hb4 := Blk.new' w2 61 #[.int .u8 0, .int .i64 0]
    have g4 := Grow.alloc w2 (.cells #[.int .u8 0, .int .i64 0] 61)
    simp -dsimp only [↓RE,RU,RL,if_true,if_false,forall_const,implies_true,Nat.reduceLeDiff,Nat.reduceLT,pureOp,binPure,intBin,strBin,eqPure,isConstO,unPure,sliceLo,sliceHi,slicePure,slice3Pure,lenPure,capPure,minPure,maxPure,buildP,resK,endV,yieldE,↓reduceIte,Nat.reduceEqDiff,reduceCtorEq,Nat.reduceAdd,Nat.reduceMul,Nat.reduceSub,Int.reduceLT,Int.reduceLE,Int.reduceToNat,Int.reduceAdd,Int.reduceSub,Int.reduceMul,ne_eq,decide_true,decide_false,tf32, he0, he17]
    rw [c_seq, c_seq]
    simp -dsimp only [↓RE,RU,RL,if_true,if_false,forall_const,implies_true,Nat.reduceLeDiff,Nat.reduceLT,pureOp,binPure,intBin,strBin,eqPure,isConstO,unPure,sliceLo,sliceHi,slicePure,slice3Pure,lenPure,capPure,minPure,maxPure,buildP,resK,endV,yieldE,↓reduceIte,Nat.reduceEqDiff,reduceCtorEq,Nat.reduceAdd,Nat.reduceMul,Nat.reduceSub,Int.reduceLT,Int.reduceLE,Int.reduceToNat,Int.reduceAdd,Int.reduceSub,Int.reduceMul,ne_eq,decide_true,decide_false,tf32, hat]
    rw [c_seq]
    simp -dsimp only [↓RE,RU,RL,if_true,if_false,forall_const,implies_true,Nat.reduceLeDiff,Nat.reduceLT,pureOp,binPure,intBin,strBin,eqPure,isConstO,unPure,sliceLo,sliceHi,slicePure,slice3Pure,lenPure,capPure,minPure,maxPure,buildP,resK,endV,yieldE,↓reduceIte,Nat.reduceEqDiff,reduceCtorEq,Nat.reduceAdd,Nat.reduceMul,Nat.reduceSub,Int.reduceLT,Int.reduceLE,Int.reduceToNat,Int.reduceAdd,Int.reduceSub,Int.reduceMul,ne_eq,decide_true,decide_false,tf32, he0, hp2, hat]
    refine ⟨by omega, hcv ?_⟩
    simp -dsimp only [↓RE,RU,RL,if_true,if_false,forall_const,implies_true,Nat.reduceLeDiff,Nat.reduceLT,pureOp,binPure,intBin,strBin,eqPure,isConstO,unPure,sliceLo,sliceHi,slicePure,slice3Pure,lenPure,capPure,minPure,maxPure,buildP,resK,endV,yieldE,↓reduceIte,Nat.reduceEqDiff,reduceCtorEq,Nat.reduceAdd,Nat.reduceMul,Nat.reduceSub,Int.reduceLT,Int.reduceLE,Int.reduceToNat,Int.reduceAdd,Int.reduceSub,Int.reduceMul,ne_eq,decide_true,decide_false,tf32, he0, hp2, hat]
    refine blk_st2 hb4 rfl rfl (fun w5 hb5 k5 => ?_)
    have g5 : Grow w2 w5 := g4.above k5 (fun q hq e => by omega)
    have g05 := g02.trans g5
    have hS5 := hS2.grow g5
    have hp5 := hS5.cell
    have hb25 := hb2.grow g5
    refine os_gen (fun e' => e' 0 = .pointer (some ⟨g, 0, none⟩) ∧ e' 4 = .pointer (some ⟨w.heap.size, 0, none⟩) ∧ e' 6 = .int .i64 (i : Nat) ∧ e' 8 = .pointer (some ⟨w2.heap.size, 0, none⟩)) ⟨?_, ?_, ?_, ?_⟩ ?_
    · simp -dsimp only [↓RE,RU,RL,if_true,if_false,↓reduceIte,Nat.reduceEqDiff,reduceCtorEq,decide_true,decide_false, he0]
    · simp -dsimp only [↓RE,RU,RL,if_true,if_false,↓reduceIte,Nat.reduceEqDiff,reduceCtorEq,decide_true,decide_false, he4]
    · simp -dsimp only [↓RE,RU,RL,if_true,if_false,↓reduceIte,Nat.reduceEqDiff,reduceCtorEq,decide_true,decide_false, he17]
    · simp -dsimp only [↓RE,RU,RL,if_true,if_false,↓reduceIte,Nat.reduceEqDiff,reduceCtorEq,decide_true,decide_false, he17]
    clear he0 he4 he17 e
    rintro e ⟨he0, he4, he6, he8⟩
    have hsz2 : w.heap.size < w2.heap.size := hb2.lt
    have hlow : ∀ q, fpV (.slice (some ad) l.length c) q → q < w.heap.size := hrl
    simp -dsimp only [↓RE,RU,RL,if_true,if_false,forall_const,implies_true,Nat.reduceLeDiff,Nat.reduceLT,pureOp,binPure,intBin,strBin,eqPure,isConstO,unPure,sliceLo,sliceHi,slicePure,slice3Pure,lenPure,capPure,minPure,maxPure,buildP,resK,endV,yieldE,↓reduceIte,Nat.reduceEqDiff,reduceCtorEq,Nat.reduceAdd,Nat.reduceMul,Nat.reduceSub,Int.reduceLT,Int.reduceLE,Int.reduceToNat,Int.reduceAdd,Int.reduceSub,Int.reduceMul,ne_eq,decide_true,decide_false,tf32, he0]
    rw [c_seq]
    simp -dsimp only [↓RE,RU,RL,if_true,if_false,forall_const,implies_true,Nat.reduceLeDiff,Nat.reduceLT,pureOp,binPure,intBin,strBin,eqPure,isConstO,unPure,sliceLo,sliceHi,slicePure,slice3Pure,lenPure,capPure,minPure,maxPure,buildP,resK,endV,yieldE,↓reduceIte,Nat.reduceEqDiff,reduceCtorEq,Nat.reduceAdd,Nat.reduceMul,Nat.reduceSub,Int.reduceLT,Int.reduceLE,Int.reduceToNat,Int.reduceAdd,Int.reduceSub,Int.reduceMul,ne_eq,decide_true,decide_false,tf32, he0, he6, hp5, hw1]
    refine sdel_ok hS5.row hil hn (fun w6 v6 hL6 hK6 hF6 => ?_)
    have hB6 : Blk w6 g 82 [.slice (some ad) l.length c] := hS5.b.keep hK6 hS5.ne
    have hb26 := hb25.keep hK6 (fun hq => by have := hlow _ hq; omega)
    have hb56 := hb5.keep hK6 (fun hq => by have := hlow _ hq; omega)
    have hf6 : ∃ A6 n6 c6, v6 = .slice A6 n6 c6 := by obtain ⟨A6, c6, h6, _⟩ := hL6.form; exact ⟨A6, _, c6, h6⟩
    obtain ⟨A6, n6, c6, rfl⟩ := hf6
    refine os_gen (fun e' => e' 32 = .pointer (some ⟨g, 0, none⟩) ∧ e' 4 = .pointer (some ⟨w.heap.size, 0, none⟩) ∧ e' 8 = .pointer (some ⟨w2.heap.size, 0, none⟩) ∧ e' 41 = .slice A6 n6 c6) ⟨?_, ?_, ?_, ?_⟩ ?_
    · simp -dsimp only [↓RE,RU,RL,if_true,if_false,↓reduceIte,Nat.reduceEqDiff,reduceCtorEq,decide_true,decide_false, he0]
    · simp -dsimp only [↓RE,RU,RL,if_true,if_false,↓reduceIte,Nat.reduceEqDiff,reduceCtorEq,decide_true,decide_false, he4]
    · simp -dsimp only [↓RE,RU,RL,if_true,if_false,↓reduceIte,Nat.reduceEqDiff,reduceCtorEq,decide_true,decide_false, he8]
    · simp -dsimp only [↓RE,RU,RL,if_true,if_false,↓reduceIte,Nat.reduceEqDiff,reduceCtorEq,decide_true,decide_false, he0]
    clear he0 he4 he6 he8 e
    rintro e ⟨he32, he4, he8, he41⟩
    simp -dsimp only [↓RE,RU,RL,if_true,if_false,forall_const,implies_true,Nat.reduceLeDiff,Nat.reduceLT,pureOp,binPure,intBin,strBin,eqPure,isConstO,unPure,sliceLo,sliceHi,slicePure,slice3Pure,lenPure,capPure,minPure,maxPure,buildP,resK,endV,yieldE,↓reduceIte,Nat.reduceEqDiff,reduceCtorEq,Nat.reduceAdd,Nat.reduceMul,Nat.reduceSub,Int.reduceLT,Int.reduceLE,Int.reduceToNat,Int.reduceAdd,Int.reduceSub,Int.reduceMul,ne_eq,decide_true,decide_false,tf32, he32, he41]
    refine hB6.st (i := 0) (by simp) ?_
    have hB7 := hB6.set 0 (.slice A6 n6 c6)
    have k7 := Keep.set1 w6 g 0 (.slice A6 n6 c6)
    have hb27 := hb26.keep k7 (by omega)
    have hb57 := hb56.keep k7 (by omega)
    simp -dsimp only [↓RE,RU,RL,if_true,if_false,forall_const,implies_true,Nat.reduceLeDiff,Nat.reduceLT,pureOp,binPure,intBin,strBin,eqPure,isConstO,unPure,sliceLo,sliceHi,slicePure,slice3Pure,lenPure,capPure,minPure,maxPure,buildP,resK,endV,yieldE,↓reduceIte,Nat.reduceEqDiff,reduceCtorEq,Nat.reduceAdd,Nat.reduceMul,Nat.reduceSub,Int.reduceLT,Int.reduceLE,Int.reduceToNat,Int.reduceAdd,Int.reduceSub,Int.reduceMul,ne_eq,decide_true,decide_false,tf32, he32]
    rw [c_seq]
    simp -dsimp only [↓RE,RU,RL,if_true,if_false,forall_const,implies_true,Nat.reduceLeDiff,Nat.reduceLT,pureOp,binPure,intBin,strBin,eqPure,isConstO,unPure,sliceLo,sliceHi,slicePure,slice3Pure,lenPure,capPure,minPure,maxPure,buildP,resK,endV,yieldE,↓reduceIte,Nat.reduceEqDiff,reduceCtorEq,Nat.reduceAdd,Nat.reduceMul,Nat.reduceSub,Int.reduceLT,Int.reduceLE,Int.reduceToNat,Int.reduceAdd,Int.reduceSub,Int.reduceMul,ne_eq,decide_true,decide_false,tf32, he8, he4]
    refine blk_agg2 hb57 ?_
    simp -dsimp only [↓RE,RU,RL,if_true,if_false,forall_const,implies_true,Nat.reduceLeDiff,Nat.reduceLT,pureOp,binPure,intBin,strBin,eqPure,isConstO,unPure,sliceLo,sliceHi,slicePure,slice3Pure,lenPure,capPure,minPure,maxPure,buildP,resK,endV,yieldE,↓reduceIte,Nat.reduceEqDiff,reduceCtorEq,Nat.reduceAdd,Nat.reduceMul,Nat.reduceSub,Int.reduceLT,Int.reduceLE,Int.reduceToNat,Int.reduceAdd,Int.reduceSub,Int.reduceMul,ne_eq,decide_true,decide_false,tf32, he8, he4]
    refine blk_st2 hb27 rfl rfl (fun w8 hb8 k8 => ?_)
    simp -dsimp only [↓RE,RU,RL,if_true,if_false,forall_const,implies_true,Nat.reduceLeDiff,Nat.reduceLT,pureOp,binPure,intBin,strBin,eqPure,isConstO,unPure,sliceLo,sliceHi,slicePure,slice3Pure,lenPure,capPure,minPure,maxPure,buildP,resK,endV,yieldE,↓reduceIte,Nat.reduceEqDiff,reduceCtorEq,Nat.reduceAdd,Nat.reduceMul,Nat.reduceSub,Int.reduceLT,Int.reduceLE,Int.reduceToNat,Int.reduceAdd,Int.reduceSub,Int.reduceMul,ne_eq,decide_true,decide_false,tf32, he4]
    refine blk_agg2 hb8 ?_
    simp -dsimp only [↓RE,RU,RL,if_true,if_false,forall_const,implies_true,Nat.reduceLeDiff,Nat.reduceLT,pureOp,binPure,intBin,strBin,eqPure,isConstO,unPure,sliceLo,sliceHi,slicePure,slice3Pure,lenPure,capPure,minPure,maxPure,buildP,resK,endV,yieldE,↓reduceIte,Nat.reduceEqDiff,reduceCtorEq,Nat.reduceAdd,Nat.reduceMul,Nat.reduceSub,Int.reduceLT,Int.reduceLE,Int.reduceToNat,Int.reduceAdd,Int.reduceSub,Int.reduceMul,ne_eq,decide_true,decide_false,tf32, he4]
    have k58 : Keep (fun q => (fpV (.slice (some ad) l.length c) q ∨ q = g) ∨ q = w.heap.size) w5 w8 := (hK6.trans k7 (fun _ _ h => .inl h) (fun _ _ h => .inr h)).trans k8 (fun _ _ h => .inl h) (fun _ _ h => .inr h)
    have k08 : Keep (fun q => q = g ∨ fpV (.slice (some ad) l.length c) q) w w8 := g05.above' k58 (fun q hq e => by
      rcases e with (e | e) | e
      · exact .inr e
      · exact .inl e
      · omega)
    refine h w8 (.slice A6 n6 c6) ⟨hB7.keep k8 (by omega), ?_, hS.rise.cut _⟩ k08 hF6
    rw [hcut]
    exact (hL6.keep k7 (fun q hq e => hS5.ne (hF6 _ (e ▸ hq)))).keep k8 (fun q hq e => by have := hlow _ (hF6 q hq); omega)

end Go.Proofs.YtcnebgokbjpjnaaGreat
