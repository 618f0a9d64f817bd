/- errors.as, errors.As, weirboth.Same, weirboth.Is: their contracts at the program's errors. -/
import Derived.Test.YtljgnocpijniiaaGreatDoorAs
import Derived.Test.YtljgnocpijniiaaGreatDoorBadV
set_option linter.unusedVariables false
set_option linter.unusedSimpArgs false
set_option maxRecDepth 100000
namespace Go.Proofs.YtljgnocpijniiaaGreatDoor
open Go Go.Extern

/-- what a call may turn besides: only the target; there what was found. -/
theorem as2_ok (g : Eg) (x : Er) {w : World} {t b : Nat} {cs : List Value} (hB : Blk w t g.t cs) (hl : cs.length = g.n) (hv : w.cell? ⟨b, 0, none⟩ = some (.pointer (some ⟨t, 0, none⟩))) {R : VWK}
    (h : ∀ w', Keep (fun k => k = t) w w' → Blk w' t g.t (((x.find g).map Er.cells).getD cs) → R (.bool (x.find g).isSome) w') :
    CallsV Tryz.prog 101 [x.v, .iface g.p (.pointer (some ⟨t, 0, none⟩)), .agg #[hd g.p, .pointer (some ⟨b, 0, none⟩), .int .u64 150], rty g.t] w R := by
  refine calls_of_wpC mixed Tryz.func101 rfl (by kernel_rfl) ?_
  intro e he
  have he0 := he 0
  have he1 := he 1
  have he2 := he 2
  have he3 := he 3
  simp only [List.getD_cons_zero, List.getD_cons_succ] at he0 he1 he2 he3
  clear he
  simp -dsimp only [↓RE,↓c_seq,RU,RL,forall_const,implies_true,Nat.reduceLeDiff,Nat.reduceLT,pureOp,binPure,intBin,strBin,eqPure,isConstO,lenPure,resK,endV,yieldE,↓reduceIte,Nat.reduceEqDiff,reduceCtorEq,Nat.reduceAdd,Nat.reduceMul,Int.reduceLT,Int.reduceLE,Int.reduceToNat,Int.reduceAdd,decide_true,decide_false,tf101, he0, he1, he2, he3]
  have hX := Blk.new' w 137 #[hd g.p, .pointer (some ⟨b, 0, none⟩), .int .u64 150]
  have gX := Grow.alloc w (.cells #[hd g.p, .pointer (some ⟨b, 0, none⟩), .int .u64 150] 137)
  refine wpLoop_intro (fun e' w' => ∃ y : Er, y.find g = x.find g ∧ e' 0 = y.v ∧ e' 1 = .iface g.p (.pointer (some ⟨t, 0, none⟩)) ∧ e' 3 = rty g.t ∧ e' 6 = .pointer (some ⟨w.heap.size, 0, none⟩) ∧
      (Grow w w') ∧ Blk w' w.heap.size 137 [hd g.p, .pointer (some ⟨b, 0, none⟩), .int .u64 150])
    (fun e' _ => SizeOf.sizeOf (e' 0)) ⟨x, rfl, ?_, ?_, ?_, ?_, gX, hX⟩ ?_
  · simp -dsimp only [↓RE,↓c_seq,RU,RL,forall_const,implies_true,Nat.reduceLeDiff,Nat.reduceLT,pureOp,binPure,intBin,strBin,eqPure,isConstO,lenPure,resK,endV,yieldE,↓reduceIte,Nat.reduceEqDiff,reduceCtorEq,Nat.reduceAdd,Nat.reduceMul,Int.reduceLT,Int.reduceLE,Int.reduceToNat,Int.reduceAdd,decide_true,decide_false,tf101, he0]
  · simp -dsimp only [↓RE,↓c_seq,RU,RL,forall_const,implies_true,Nat.reduceLeDiff,Nat.reduceLT,pureOp,binPure,intBin,strBin,eqPure,isConstO,lenPure,resK,endV,yieldE,↓reduceIte,Nat.reduceEqDiff,reduceCtorEq,Nat.reduceAdd,Nat.reduceMul,Int.reduceLT,Int.reduceLE,Int.reduceToNat,Int.reduceAdd,decide_true,decide_false,tf101, he1]
  · simp -dsimp only [↓RE,↓c_seq,RU,RL,forall_const,implies_true,Nat.reduceLeDiff,Nat.reduceLT,pureOp,binPure,intBin,strBin,eqPure,isConstO,lenPure,resK,endV,yieldE,↓reduceIte,Nat.reduceEqDiff,reduceCtorEq,Nat.reduceAdd,Nat.reduceMul,Int.reduceLT,Int.reduceLE,Int.reduceToNat,Int.reduceAdd,decide_true,decide_false,tf101, he3]
  · simp -dsimp only [↓RE,↓c_seq,RU,RL,forall_const,implies_true,Nat.reduceLeDiff,Nat.reduceLT,pureOp,binPure,intBin,strBin,eqPure,isConstO,lenPure,resK,endV,yieldE,↓reduceIte,Nat.reduceEqDiff,reduceCtorEq,Nat.reduceAdd,Nat.reduceMul,Int.reduceLT,Int.reduceLE,Int.reduceToNat,Int.reduceAdd,decide_true,decide_false,tf101, he3]
  rintro e' w' ⟨y, hy, h0, h1, h3, h6, hg, hX⟩
  have hB' := hB.grow hg
  simp -dsimp only [↓RE,↓c_seq,RU,RL,forall_const,implies_true,Nat.reduceLeDiff,Nat.reduceLT,pureOp,binPure,intBin,strBin,eqPure,isConstO,lenPure,resK,endV,yieldE,↓reduceIte,Nat.reduceEqDiff,reduceCtorEq,Nat.reduceAdd,Nat.reduceMul,Int.reduceLT,Int.reduceLE,Int.reduceToNat,Int.reduceAdd,decide_true,decide_false,tf101, h0, h1, h3, h6]
  refine extK_of q_typeOf (x_typeOf y.tg y.d w') ?_
  simp -dsimp only [↓RE,↓c_seq,RU,RL,forall_const,implies_true,Nat.reduceLeDiff,Nat.reduceLT,pureOp,binPure,intBin,strBin,eqPure,isConstO,lenPure,resK,endV,yieldE,↓reduceIte,Nat.reduceEqDiff,reduceCtorEq,Nat.reduceAdd,Nat.reduceMul,Int.reduceLT,Int.reduceLE,Int.reduceToNat,Int.reduceAdd,decide_true,decide_false,tf101, h0, h1, h3, h6]
  refine invK_ext (x_mAssign _ _) c_assign (extK_of q_assign (x_assign y.tg g w') ?_)
  by_cases heq : y.tg = g
  · subst heq
    rw [Eg.same_iff.2 rfl]
    simp -dsimp only [↓RE,↓c_seq,RU,RL,forall_const,implies_true,Nat.reduceLeDiff,Nat.reduceLT,pureOp,binPure,intBin,strBin,eqPure,isConstO,lenPure,resK,endV,yieldE,↓reduceIte,Nat.reduceEqDiff,reduceCtorEq,Nat.reduceAdd,Nat.reduceMul,Int.reduceLT,Int.reduceLE,Int.reduceToNat,Int.reduceAdd,decide_true,decide_false,tf101, h0, h1, h3, h6]
    refine hX.aggK (by simp) ?_
    simp -dsimp only [↓RE,↓c_seq,RU,RL,forall_const,implies_true,Nat.reduceLeDiff,Nat.reduceLT,pureOp,binPure,intBin,strBin,eqPure,isConstO,lenPure,resK,endV,yieldE,↓reduceIte,Nat.reduceEqDiff,reduceCtorEq,Nat.reduceAdd,Nat.reduceMul,Int.reduceLT,Int.reduceLE,Int.reduceToNat,Int.reduceAdd,decide_true,decide_false,tf101, h0, h1, h3, h6]
    refine extK_of q_elemV (x_elemV y.tg (hg.cell hv (fun h => h))) ?_
    simp -dsimp only [↓RE,↓c_seq,RU,RL,forall_const,implies_true,Nat.reduceLeDiff,Nat.reduceLT,pureOp,binPure,intBin,strBin,eqPure,isConstO,lenPure,resK,endV,yieldE,↓reduceIte,Nat.reduceEqDiff,reduceCtorEq,Nat.reduceAdd,Nat.reduceMul,Int.reduceLT,Int.reduceLE,Int.reduceToNat,Int.reduceAdd,decide_true,decide_false,tf101, h0, h1, h3, h6]
    refine extK_of q_valueOf (x_valueOf y w') ?_
    simp -dsimp only [↓RE,↓c_seq,RU,RL,forall_const,implies_true,Nat.reduceLeDiff,Nat.reduceLT,pureOp,binPure,intBin,strBin,eqPure,isConstO,lenPure,resK,endV,yieldE,↓reduceIte,Nat.reduceEqDiff,reduceCtorEq,Nat.reduceAdd,Nat.reduceMul,Int.reduceLT,Int.reduceLE,Int.reduceToNat,Int.reduceAdd,decide_true,decide_false,tf101, h0, h1, h3, h6]
    have hV := Blk.new w' y.tg.t y.cells
    have g1 := Grow.alloc w' (.cells y.cells.toArray y.tg.t)
    obtain ⟨w2, hr2, hB2, k2⟩ := x_set hV (hB'.grow g1) hl
    refine extK_of q_set hr2 ?_
    simp -dsimp only [↓RE,↓c_seq,RU,RL,forall_const,implies_true,Nat.reduceLeDiff,Nat.reduceLT,pureOp,binPure,intBin,strBin,eqPure,isConstO,lenPure,resK,endV,yieldE,↓reduceIte,Nat.reduceEqDiff,reduceCtorEq,Nat.reduceAdd,Nat.reduceMul,Int.reduceLT,Int.reduceLE,Int.reduceToNat,Int.reduceAdd,decide_true,decide_false,tf101, h0, h1, h3, h6]
    have hf : x.find y.tg = some y := by rw [← hy]; exact y.find_hit
    have := h w2 ((hg.trans g1).then k2) (by rw [hf]; exact hB2)
    rw [hf] at this
    exact this
  · have hs : y.tg.same g = false := by
      cases hsg : y.tg.same g with
      | false => rfl
      | true => exact absurd (Eg.same_iff.1 hsg) heq
    rw [hs]
    have hmiss := Er.find_miss heq
    simp -dsimp only [↓RE,↓c_seq,RU,RL,forall_const,implies_true,Nat.reduceLeDiff,Nat.reduceLT,pureOp,binPure,intBin,strBin,eqPure,isConstO,lenPure,resK,endV,yieldE,↓reduceIte,Nat.reduceEqDiff,reduceCtorEq,Nat.reduceAdd,Nat.reduceMul,Int.reduceLT,Int.reduceLE,Int.reduceToNat,Int.reduceAdd,decide_true,decide_false,tf101, h0, h1, h3, h6]
    refine genK_as rfl (by simp -dsimp only [↓RE,↓c_seq,RU,RL,forall_const,implies_true,Nat.reduceLeDiff,Nat.reduceLT,pureOp,binPure,intBin,strBin,eqPure,isConstO,lenPure,resK,endV,yieldE,↓reduceIte,Nat.reduceEqDiff,reduceCtorEq,Nat.reduceAdd,Nat.reduceMul,Int.reduceLT,Int.reduceLE,Int.reduceToNat,Int.reduceAdd,decide_true,decide_false,tf101, h0]) (as_noAs y _ w') ?_
    simp -dsimp only [↓RE,↓c_seq,RU,RL,forall_const,implies_true,Nat.reduceLeDiff,Nat.reduceLT,pureOp,binPure,intBin,strBin,eqPure,isConstO,lenPure,resK,endV,yieldE,↓reduceIte,Nat.reduceEqDiff,reduceCtorEq,Nat.reduceAdd,Nat.reduceMul,Int.reduceLT,Int.reduceLE,Int.reduceToNat,Int.reduceAdd,decide_true,decide_false,tf101, h0, h1, h3, h6, undef]
    cases y with
    | no c =>
      refine genK_as rfl (by simp -dsimp only [↓RE,↓c_seq,RU,RL,forall_const,implies_true,Nat.reduceLeDiff,Nat.reduceLT,pureOp,binPure,intBin,strBin,eqPure,isConstO,lenPure,resK,endV,yieldE,↓reduceIte,Nat.reduceEqDiff,reduceCtorEq,Nat.reduceAdd,Nat.reduceMul,Int.reduceLT,Int.reduceLE,Int.reduceToNat,Int.reduceAdd,decide_true,decide_false,tf101, h0]) (as_unNo c _ w') ?_
      simp -dsimp only [↓RE,↓c_seq,RU,RL,forall_const,implies_true,Nat.reduceLeDiff,Nat.reduceLT,pureOp,binPure,intBin,strBin,eqPure,isConstO,lenPure,resK,endV,yieldE,↓reduceIte,Nat.reduceEqDiff,reduceCtorEq,Nat.reduceAdd,Nat.reduceMul,Int.reduceLT,Int.reduceLE,Int.reduceToNat,Int.reduceAdd,decide_true,decide_false,tf101, h0, h1, h3, h6, undef]
      refine genK_as rfl (by simp -dsimp only [↓RE,↓c_seq,RU,RL,forall_const,implies_true,Nat.reduceLeDiff,Nat.reduceLT,pureOp,binPure,intBin,strBin,eqPure,isConstO,lenPure,resK,endV,yieldE,↓reduceIte,Nat.reduceEqDiff,reduceCtorEq,Nat.reduceAdd,Nat.reduceMul,Int.reduceLT,Int.reduceLE,Int.reduceToNat,Int.reduceAdd,decide_true,decide_false,tf101, h0]) (as_unsNo c _ w') ?_
      simp -dsimp only [↓RE,↓c_seq,RU,RL,forall_const,implies_true,Nat.reduceLeDiff,Nat.reduceLT,pureOp,binPure,intBin,strBin,eqPure,isConstO,lenPure,resK,endV,yieldE,↓reduceIte,Nat.reduceEqDiff,reduceCtorEq,Nat.reduceAdd,Nat.reduceMul,Int.reduceLT,Int.reduceLE,Int.reduceToNat,Int.reduceAdd,decide_true,decide_false,tf101, h0, h1, h3, h6, undef]
      have hf : x.find g = none := by rw [← hy, hmiss]; rfl
      have := h w' (hg.then (Keep.refl _ _)) (by rw [hf]; exact hB')
      rw [hf] at this
      exact this
    | pl p c =>
      refine genK_as rfl (by simp -dsimp only [↓RE,↓c_seq,RU,RL,forall_const,implies_true,Nat.reduceLeDiff,Nat.reduceLT,pureOp,binPure,intBin,strBin,eqPure,isConstO,lenPure,resK,endV,yieldE,↓reduceIte,Nat.reduceEqDiff,reduceCtorEq,Nat.reduceAdd,Nat.reduceMul,Int.reduceLT,Int.reduceLE,Int.reduceToNat,Int.reduceAdd,decide_true,decide_false,tf101, h0]) (as_unAt p c _ w') ?_
      simp -dsimp only [↓RE,↓c_seq,RU,RL,forall_const,implies_true,Nat.reduceLeDiff,Nat.reduceLT,pureOp,binPure,intBin,strBin,eqPure,isConstO,lenPure,resK,endV,yieldE,↓reduceIte,Nat.reduceEqDiff,reduceCtorEq,Nat.reduceAdd,Nat.reduceMul,Int.reduceLT,Int.reduceLE,Int.reduceToNat,Int.reduceAdd,decide_true,decide_false,tf101, h0, h1, h3, h6, undef, Er.v]
      refine invK_func (x_mUnwrapAt _ _) c_unAt (unwrapAt_ok (fun w2 g2 => ?_))
      simp -dsimp only [↓RE,↓c_seq,RU,RL,forall_const,implies_true,Nat.reduceLeDiff,Nat.reduceLT,pureOp,binPure,intBin,strBin,eqPure,isConstO,lenPure,resK,endV,yieldE,↓reduceIte,Nat.reduceEqDiff,reduceCtorEq,Nat.reduceAdd,Nat.reduceMul,Int.reduceLT,Int.reduceLE,Int.reduceToNat,Int.reduceAdd,decide_true,decide_false,tf101, h0, h1, h3, h6, undef, Er.v]
      refine hold_intro ⟨⟨Er.no c, ?_, ?_, ?_, ?_, ?_, hg.trans g2, hX.grow g2⟩, ?_⟩
      · rw [← hy, hmiss]; rfl
      · simp -dsimp only [↓RE,↓c_seq,RU,RL,forall_const,implies_true,Nat.reduceLeDiff,Nat.reduceLT,pureOp,binPure,intBin,strBin,eqPure,isConstO,lenPure,resK,endV,yieldE,↓reduceIte,Nat.reduceEqDiff,reduceCtorEq,Nat.reduceAdd,Nat.reduceMul,Int.reduceLT,Int.reduceLE,Int.reduceToNat,Int.reduceAdd,decide_true,decide_false,tf101, h0, Er.v]
      · simp -dsimp only [↓RE,↓c_seq,RU,RL,forall_const,implies_true,Nat.reduceLeDiff,Nat.reduceLT,pureOp,binPure,intBin,strBin,eqPure,isConstO,lenPure,resK,endV,yieldE,↓reduceIte,Nat.reduceEqDiff,reduceCtorEq,Nat.reduceAdd,Nat.reduceMul,Int.reduceLT,Int.reduceLE,Int.reduceToNat,Int.reduceAdd,decide_true,decide_false,tf101, h1]
      · simp -dsimp only [↓RE,↓c_seq,RU,RL,forall_const,implies_true,Nat.reduceLeDiff,Nat.reduceLT,pureOp,binPure,intBin,strBin,eqPure,isConstO,lenPure,resK,endV,yieldE,↓reduceIte,Nat.reduceEqDiff,reduceCtorEq,Nat.reduceAdd,Nat.reduceMul,Int.reduceLT,Int.reduceLE,Int.reduceToNat,Int.reduceAdd,decide_true,decide_false,tf101, h3]
      · simp -dsimp only [↓RE,↓c_seq,RU,RL,forall_const,implies_true,Nat.reduceLeDiff,Nat.reduceLT,pureOp,binPure,intBin,strBin,eqPure,isConstO,lenPure,resK,endV,yieldE,↓reduceIte,Nat.reduceEqDiff,reduceCtorEq,Nat.reduceAdd,Nat.reduceMul,Int.reduceLT,Int.reduceLE,Int.reduceToNat,Int.reduceAdd,decide_true,decide_false,tf101, h6]
      · simp -dsimp only [↓RE,↓c_seq,RU,RL,forall_const,implies_true,Nat.reduceLeDiff,Nat.reduceLT,pureOp,binPure,intBin,strBin,eqPure,isConstO,lenPure,resK,endV,yieldE,↓reduceIte,Nat.reduceEqDiff,reduceCtorEq,Nat.reduceAdd,Nat.reduceMul,Int.reduceLT,Int.reduceLE,Int.reduceToNat,Int.reduceAdd,decide_true,decide_false,tf101, h0, Er.v]
        simp [Er.v, Er.d, Er.tg, Eg.t]
        omega
    | ins i z =>
      refine genK_as rfl (by simp -dsimp only [↓RE,↓c_seq,RU,RL,forall_const,implies_true,Nat.reduceLeDiff,Nat.reduceLT,pureOp,binPure,intBin,strBin,eqPure,isConstO,lenPure,resK,endV,yieldE,↓reduceIte,Nat.reduceEqDiff,reduceCtorEq,Nat.reduceAdd,Nat.reduceMul,Int.reduceLT,Int.reduceLE,Int.reduceToNat,Int.reduceAdd,decide_true,decide_false,tf101, h0]) (as_unIn i z _ w') ?_
      simp -dsimp only [↓RE,↓c_seq,RU,RL,forall_const,implies_true,Nat.reduceLeDiff,Nat.reduceLT,pureOp,binPure,intBin,strBin,eqPure,isConstO,lenPure,resK,endV,yieldE,↓reduceIte,Nat.reduceEqDiff,reduceCtorEq,Nat.reduceAdd,Nat.reduceMul,Int.reduceLT,Int.reduceLE,Int.reduceToNat,Int.reduceAdd,decide_true,decide_false,tf101, h0, h1, h3, h6, undef, Er.v]
      refine invK_func (x_mUnwrapIn _ _) c_unIn (unwrapIn_ok (fun w2 g2 => ?_))
      simp -dsimp only [↓RE,↓c_seq,RU,RL,forall_const,implies_true,Nat.reduceLeDiff,Nat.reduceLT,pureOp,binPure,intBin,strBin,eqPure,isConstO,lenPure,resK,endV,yieldE,↓reduceIte,Nat.reduceEqDiff,reduceCtorEq,Nat.reduceAdd,Nat.reduceMul,Int.reduceLT,Int.reduceLE,Int.reduceToNat,Int.reduceAdd,decide_true,decide_false,tf101, h0, h1, h3, h6, undef, Er.v]
      refine hold_intro ⟨⟨z, ?_, ?_, ?_, ?_, ?_, hg.trans g2, hX.grow g2⟩, ?_⟩
      · rw [← hy, hmiss]; rfl
      · simp -dsimp only [↓RE,↓c_seq,RU,RL,forall_const,implies_true,Nat.reduceLeDiff,Nat.reduceLT,pureOp,binPure,intBin,strBin,eqPure,isConstO,lenPure,resK,endV,yieldE,↓reduceIte,Nat.reduceEqDiff,reduceCtorEq,Nat.reduceAdd,Nat.reduceMul,Int.reduceLT,Int.reduceLE,Int.reduceToNat,Int.reduceAdd,decide_true,decide_false,tf101, h0, Er.v]
      · simp -dsimp only [↓RE,↓c_seq,RU,RL,forall_const,implies_true,Nat.reduceLeDiff,Nat.reduceLT,pureOp,binPure,intBin,strBin,eqPure,isConstO,lenPure,resK,endV,yieldE,↓reduceIte,Nat.reduceEqDiff,reduceCtorEq,Nat.reduceAdd,Nat.reduceMul,Int.reduceLT,Int.reduceLE,Int.reduceToNat,Int.reduceAdd,decide_true,decide_false,tf101, h1]
      · simp -dsimp only [↓RE,↓c_seq,RU,RL,forall_const,implies_true,Nat.reduceLeDiff,Nat.reduceLT,pureOp,binPure,intBin,strBin,eqPure,isConstO,lenPure,resK,endV,yieldE,↓reduceIte,Nat.reduceEqDiff,reduceCtorEq,Nat.reduceAdd,Nat.reduceMul,Int.reduceLT,Int.reduceLE,Int.reduceToNat,Int.reduceAdd,decide_true,decide_false,tf101, h3]
      · simp -dsimp only [↓RE,↓c_seq,RU,RL,forall_const,implies_true,Nat.reduceLeDiff,Nat.reduceLT,pureOp,binPure,intBin,strBin,eqPure,isConstO,lenPure,resK,endV,yieldE,↓reduceIte,Nat.reduceEqDiff,reduceCtorEq,Nat.reduceAdd,Nat.reduceMul,Int.reduceLT,Int.reduceLE,Int.reduceToNat,Int.reduceAdd,decide_true,decide_false,tf101, h6]
      · simp -dsimp only [↓RE,↓c_seq,RU,RL,forall_const,implies_true,Nat.reduceLeDiff,Nat.reduceLT,pureOp,binPure,intBin,strBin,eqPure,isConstO,lenPure,resK,endV,yieldE,↓reduceIte,Nat.reduceEqDiff,reduceCtorEq,Nat.reduceAdd,Nat.reduceMul,Int.reduceLT,Int.reduceLE,Int.reduceToNat,Int.reduceAdd,decide_true,decide_false,tf101, h0, Er.v]
        simp [Er.v, Er.d, Er.tg]
        omega

/-- the library's variable as the program's start lays it. -/
def Lay (w : World) : Prop := w.cell? ⟨0, 0, none⟩ = some (rty 29)
theorem Lay.keep {F : Nat → Prop} {w w' : World} (h : Lay w) (hk : Keep F w w') (hF : ¬ F 0) : Lay w' := hk.cell h hF
theorem Lay.grow {w w' : World} (h : Lay w) (hk : Grow w w') : Lay w' := h.keep hk (fun h => h)
theorem Lay.lt {w : World} (h : Lay w) : 0 < w.heap.size := World.block_lt_of_cell? w _ h

theorem as_ok (g : Eg) (x : Er) {w : World} {t : Nat} {cs : List Value} (hL : Lay w) (hB : Blk w t g.t cs) (hl : cs.length = g.n) {R : VWK}
    (h : ∀ w', Keep (fun k => k = t) w w' → Blk w' t g.t (((x.find g).map Er.cells).getD cs) → R (.bool (x.find g).isSome) w') :
    CallsV Tryz.prog 39 [x.v, .iface g.p (.pointer (some ⟨t, 0, none⟩))] w R := by
  refine calls_of_wpC mixed Tryz.func39 rfl (by kernel_rfl) ?_
  intro e he
  have he0 := he 0
  have he1 := he 1
  simp only [List.getD_cons_zero, List.getD_cons_succ] at he0 he1
  clear he
  simp -dsimp only [↓RE,↓c_seq,RU,RL,forall_const,implies_true,Nat.reduceLeDiff,Nat.reduceLT,pureOp,binPure,intBin,strBin,eqPure,isConstO,unPure,resK,endV,yieldE,↓reduceIte,Nat.reduceEqDiff,reduceCtorEq,Nat.reduceAdd,Nat.reduceMul,Int.reduceLT,Int.reduceLE,Int.reduceToNat,Int.reduceAdd,ne_eq,decide_true,decide_false,tf39, he0, he1, Er.v]
  refine extK_of q_valueOf (x_valueOfP g ⟨t, 0, none⟩ w) ?_
  have hA := Blk.new' w g.p #[.pointer (some ⟨t, 0, none⟩)]
  have g1 := Grow.alloc w (.cells #[.pointer (some ⟨t, 0, none⟩)] g.p)
  simp -dsimp only [↓RE,↓c_seq,RU,RL,forall_const,implies_true,Nat.reduceLeDiff,Nat.reduceLT,pureOp,binPure,intBin,strBin,eqPure,isConstO,unPure,resK,endV,yieldE,↓reduceIte,Nat.reduceEqDiff,reduceCtorEq,Nat.reduceAdd,Nat.reduceMul,Int.reduceLT,Int.reduceLE,Int.reduceToNat,Int.reduceAdd,ne_eq,decide_true,decide_false,tf39, he0, he1]
  have hz := Blk.new' (w.alloc (.cells #[.pointer (some ⟨t, 0, none⟩)] g.p)) 137 #[.pointer none, .pointer none, .int .u64 0]
  have g2 := Grow.alloc (w.alloc (.cells #[.pointer (some ⟨t, 0, none⟩)] g.p)) (.cells #[.pointer none, .pointer none, .int .u64 0] 137)
  refine hz.stAgg (by simp) (by simp [Value.oneCell']) (fun w2 hB2 hK2 => ?_)
  have hB2 : Blk w2 (w.alloc (.cells #[.pointer (some ⟨t, 0, none⟩)] g.p)).heap.size 137 [hd g.p, .pointer (some ⟨w.heap.size, 0, none⟩), .int .u64 150] := by simpa using hB2
  have gg : Grow w w2 := (g1.trans g2).above hK2 (fun i hi e => by have := g1.size; omega)
  have hA2 := (hA.grow g2).keep hK2 (by simp)
  simp -dsimp only [↓RE,↓c_seq,RU,RL,forall_const,implies_true,Nat.reduceLeDiff,Nat.reduceLT,pureOp,binPure,intBin,strBin,eqPure,isConstO,unPure,resK,endV,yieldE,↓reduceIte,Nat.reduceEqDiff,reduceCtorEq,Nat.reduceAdd,Nat.reduceMul,Int.reduceLT,Int.reduceLE,Int.reduceToNat,Int.reduceAdd,ne_eq,decide_true,decide_false,tf39, he0, he1]
  refine hB2.aggK (by simp) ?_
  simp -dsimp only [↓RE,↓c_seq,RU,RL,forall_const,implies_true,Nat.reduceLeDiff,Nat.reduceLT,pureOp,binPure,intBin,strBin,eqPure,isConstO,unPure,resK,endV,yieldE,↓reduceIte,Nat.reduceEqDiff,reduceCtorEq,Nat.reduceAdd,Nat.reduceMul,Int.reduceLT,Int.reduceLE,Int.reduceToNat,Int.reduceAdd,ne_eq,decide_true,decide_false,tf39, he0, he1]
  refine extK_of q_type (x_typeP g ⟨w.heap.size, 0, none⟩ w2) ?_
  simp -dsimp only [↓RE,↓c_seq,RU,RL,forall_const,implies_true,Nat.reduceLeDiff,Nat.reduceLT,pureOp,binPure,intBin,strBin,eqPure,isConstO,unPure,resK,endV,yieldE,↓reduceIte,Nat.reduceEqDiff,reduceCtorEq,Nat.reduceAdd,Nat.reduceMul,Int.reduceLT,Int.reduceLE,Int.reduceToNat,Int.reduceAdd,ne_eq,decide_true,decide_false,tf39, he0, he1]
  refine invK_ext (x_mKind _ _) c_kind (extK_of q_kind (x_kindP g w2) ?_)
  simp -dsimp only [↓RE,↓c_seq,RU,RL,forall_const,implies_true,Nat.reduceLeDiff,Nat.reduceLT,pureOp,binPure,intBin,strBin,eqPure,isConstO,unPure,resK,endV,yieldE,↓reduceIte,Nat.reduceEqDiff,reduceCtorEq,Nat.reduceAdd,Nat.reduceMul,Int.reduceLT,Int.reduceLE,Int.reduceToNat,Int.reduceAdd,ne_eq,decide_true,decide_false,tf39, he0, he1]
  refine hB2.aggK (by simp) ?_
  simp -dsimp only [↓RE,↓c_seq,RU,RL,forall_const,implies_true,Nat.reduceLeDiff,Nat.reduceLT,pureOp,binPure,intBin,strBin,eqPure,isConstO,unPure,resK,endV,yieldE,↓reduceIte,Nat.reduceEqDiff,reduceCtorEq,Nat.reduceAdd,Nat.reduceMul,Int.reduceLT,Int.reduceLE,Int.reduceToNat,Int.reduceAdd,ne_eq,decide_true,decide_false,tf39, he0, he1]
  refine extK_of q_isNil (x_isNil g (p := ⟨t, 0, none⟩) (hA2.cell 0)) ?_
  simp -dsimp only [↓RE,↓c_seq,RU,RL,forall_const,implies_true,Nat.reduceLeDiff,Nat.reduceLT,pureOp,binPure,intBin,strBin,eqPure,isConstO,unPure,resK,endV,yieldE,↓reduceIte,Nat.reduceEqDiff,reduceCtorEq,Nat.reduceAdd,Nat.reduceMul,Int.reduceLT,Int.reduceLE,Int.reduceToNat,Int.reduceAdd,ne_eq,decide_true,decide_false,tf39, he0, he1]
  refine invK_ext (x_mElem _ _) c_elem (extK_of q_elem (x_elemP g w2) ?_)
  simp -dsimp only [↓RE,↓c_seq,RU,RL,forall_const,implies_true,Nat.reduceLeDiff,Nat.reduceLT,pureOp,binPure,intBin,strBin,eqPure,isConstO,unPure,resK,endV,yieldE,↓reduceIte,Nat.reduceEqDiff,reduceCtorEq,Nat.reduceAdd,Nat.reduceMul,Int.reduceLT,Int.reduceLE,Int.reduceToNat,Int.reduceAdd,ne_eq,decide_true,decide_false,tf39, he0, he1]
  refine invK_ext (x_mKind _ _) c_kind (extK_of q_kind (x_kindT g w2) ?_)
  have hk20 : g.k ≠ 20 := by cases g <;> decide
  have hk20' : decide (g.k = 20) = false := by simp [hk20]
  have hLc : w2.cell? ⟨0, 0, none⟩ = some (rty 29) := hL.grow gg
  simp -dsimp only [↓RE,↓c_seq,RU,RL,forall_const,implies_true,Nat.reduceLeDiff,Nat.reduceLT,pureOp,binPure,intBin,strBin,eqPure,isConstO,unPure,resK,endV,yieldE,↓reduceIte,Nat.reduceEqDiff,reduceCtorEq,Nat.reduceAdd,Nat.reduceMul,Int.reduceLT,Int.reduceLE,Int.reduceToNat,Int.reduceAdd,ne_eq,decide_true,decide_false,tf39, he0, he1, hk20', hLc]
  refine invK_ext (x_mImpl _ _) c_impl (extK_of q_impl (x_implT g w2) ?_)
  simp -dsimp only [↓RE,↓c_seq,RU,RL,forall_const,implies_true,Nat.reduceLeDiff,Nat.reduceLT,pureOp,binPure,intBin,strBin,eqPure,isConstO,unPure,resK,endV,yieldE,↓reduceIte,Nat.reduceEqDiff,reduceCtorEq,Nat.reduceAdd,Nat.reduceMul,Int.reduceLT,Int.reduceLE,Int.reduceToNat,Int.reduceAdd,ne_eq,decide_true,decide_false,tf39, he0, he1]
  refine hB2.aggK (by simp) ?_
  simp -dsimp only [↓RE,↓c_seq,RU,RL,forall_const,implies_true,Nat.reduceLeDiff,Nat.reduceLT,pureOp,binPure,intBin,strBin,eqPure,isConstO,unPure,resK,endV,yieldE,↓reduceIte,Nat.reduceEqDiff,reduceCtorEq,Nat.reduceAdd,Nat.reduceMul,Int.reduceLT,Int.reduceLE,Int.reduceToNat,Int.reduceAdd,ne_eq,decide_true,decide_false,tf39, he0, he1]
  refine as2_ok g x (hB.grow gg) hl (hA2.cell 0) (fun w3 k3 hB3 => ?_)
  simp -dsimp only [↓RE,↓c_seq,RU,RL,forall_const,implies_true,Nat.reduceLeDiff,Nat.reduceLT,pureOp,binPure,intBin,strBin,eqPure,isConstO,unPure,resK,endV,yieldE,↓reduceIte,Nat.reduceEqDiff,reduceCtorEq,Nat.reduceAdd,Nat.reduceMul,Int.reduceLT,Int.reduceLE,Int.reduceToNat,Int.reduceAdd,ne_eq,decide_true,decide_false,tf39, he0, he1]
  exact h w3 (gg.then k3) hB3

/-! ### the document's errors, and when an error is one -/

theorem szA (w : World) (o : Obj) : (w.alloc o).heap.size = w.heap.size + 1 := by simp

def Er.code : Er → Int
  | .no e => e
  | .pl _ e => e
  | .ins _ x => x.code
def Er.place : Er → Option Int
  | .no _ => Option.none
  | .pl p _ => some p
  | .ins _ x => x.place
def Er.index : Er → Option Int
  | .ins i _ => some i
  | _ => Option.none
theorem Er.find_no : ∀ x : Er, (x.find .no).map Er.cells = some [.int .i64 x.code]
  | .no e => rfl
  | .pl p e => rfl
  | .ins i x => Er.find_no x
theorem Er.find_at : ∀ x : Er, (x.find .pl).isSome = x.place.isSome ∧ ((x.find .pl).map Er.cells).getD [.int .i64 0, .nilIface] = [.int .i64 (x.place.getD 0), (((x.find .pl).map Er.cells).getD [.int .i64 0, .nilIface]).getD 1 .nilIface]
  | .no e => ⟨rfl, rfl⟩
  | .pl p e => ⟨rfl, rfl⟩
  | .ins i x => Er.find_at x
theorem Er.find_ins (x : Er) : (x.find .ins).isSome = x.index.isSome ∧ ((x.find .ins).map Er.cells).getD [.int .i64 0, .nilIface] = [.int .i64 (x.index.getD 0), (((x.find .ins).map Er.cells).getD [.int .i64 0, .nilIface]).getD 1 .nilIface] := by
  cases x <;> exact ⟨rfl, rfl⟩
def errOf : Option Er → Value
  | Option.none => .nilIface
  | some x => x.v
/-- the document's word for an error. -/
def Er.bad (x : Er) : BadV := ⟨x.code, x.place.getD 0, x.index.getD 0, x.place.isSome, x.index.isSome⟩
def badOf : Option Er → BadV
  | Option.none => BadV.none
  | some x => x.bad

theorem same_err {w : World} (hL : Lay w) {x : Option Er} (hc : ∀ y, x = some y → y.code ≠ 0) {R : VWK} (h : ∀ w', Grow w w' → R (.bool true) w') :
    CallsV Tryz.prog 14 [errOf x, (badOf x).v] w R := by
  refine calls_of_wpC mixed Tryz.func14 rfl (by kernel_rfl) ?_
  intro e he
  have he0 := he 0
  have he1 := he 1
  simp only [List.getD_cons_zero, List.getD_cons_succ] at he0 he1
  clear he
  cases x with
  | none =>
    simp -dsimp only [↓RE,↓c_seq,RU,RL,forall_const,implies_true,Nat.reduceLeDiff,Nat.reduceLT,pureOp,binPure,intBin,strBin,eqPure,isConstO,unPure,resK,endV,yieldE,↓reduceIte,Nat.reduceEqDiff,reduceCtorEq,Nat.reduceAdd,Nat.reduceMul,Int.reduceLT,Int.reduceLE,Int.reduceToNat,Int.reduceAdd,ne_eq,decide_true,decide_false,tf14, he0, he1, errOf, badOf, BadV.v, BadV.cells, BadV.none]
    have hB := Blk.new' w 33 #[.int .i64 0, .int .i64 0, .int .i64 0, .bool false, .bool false]
    have g1 := Grow.alloc w (.cells #[.int .i64 0, .int .i64 0, .int .i64 0, .bool false, .bool false] 33)
    simp -dsimp only [↓RE,↓c_seq,RU,RL,forall_const,implies_true,Nat.reduceLeDiff,Nat.reduceLT,pureOp,binPure,intBin,strBin,eqPure,isConstO,unPure,resK,endV,yieldE,↓reduceIte,Nat.reduceEqDiff,reduceCtorEq,Nat.reduceAdd,Nat.reduceMul,Int.reduceLT,Int.reduceLE,Int.reduceToNat,Int.reduceAdd,ne_eq,decide_true,decide_false,tf14, he0, he1, errOf, hB.cell]
    exact h _ g1
  | some x =>
    have hc := hc x rfl
    simp -dsimp only [↓RE,↓c_seq,RU,RL,forall_const,implies_true,Nat.reduceLeDiff,Nat.reduceLT,pureOp,binPure,intBin,strBin,eqPure,isConstO,unPure,resK,endV,yieldE,↓reduceIte,Nat.reduceEqDiff,reduceCtorEq,Nat.reduceAdd,Nat.reduceMul,Int.reduceLT,Int.reduceLE,Int.reduceToNat,Int.reduceAdd,ne_eq,decide_true,decide_false,tf14, he0, he1, errOf, badOf, Er.bad, BadV.v, BadV.cells]
    have hB := Blk.new' w 33 #[.int .i64 x.code, .int .i64 (x.place.getD 0), .int .i64 (x.index.getD 0), .bool x.place.isSome, .bool x.index.isSome]
    have g1 := Grow.alloc w (.cells #[.int .i64 x.code, .int .i64 (x.place.getD 0), .int .i64 (x.index.getD 0), .bool x.place.isSome, .bool x.index.isSome] 33)
    have hcd : decide (x.code = 0) = false := by simp [hc]
    simp -dsimp only [↓RE,↓c_seq,RU,RL,forall_const,implies_true,Nat.reduceLeDiff,Nat.reduceLT,pureOp,binPure,intBin,strBin,eqPure,isConstO,unPure,resK,endV,yieldE,↓reduceIte,Nat.reduceEqDiff,reduceCtorEq,Nat.reduceAdd,Nat.reduceMul,Int.reduceLT,Int.reduceLE,Int.reduceToNat,Int.reduceAdd,ne_eq,decide_true,decide_false,tf14, he0, he1, errOf, hB.cell, hcd, Er.v, szA]
    have hB1 := hB.alloc (.cells #[.int .i64 0] 31)
    have h5 := Blk.new' (w.alloc (.cells #[.int .i64 x.code, .int .i64 (x.place.getD 0), .int .i64 (x.index.getD 0), .bool x.place.isSome, .bool x.index.isSome] 33)) 31 #[.int .i64 0]
    have g2 := g1.trans (Grow.alloc _ (.cells #[.int .i64 0] 31))
    have hB2 := hB1.alloc (.cells #[.int .i64 0, .nilIface] 101)
    have h5 := h5.alloc (.cells #[.int .i64 0, .nilIface] 101)
    have h6 := Blk.new' ((w.alloc (.cells #[.int .i64 x.code, .int .i64 (x.place.getD 0), .int .i64 (x.index.getD 0), .bool x.place.isSome, .bool x.index.isSome] 33)).alloc (.cells #[.int .i64 0] 31)) 101 #[.int .i64 0, .nilIface]
    have g3 := g2.trans (Grow.alloc _ (.cells #[.int .i64 0, .nilIface] 101))
    have hB3 := hB2.alloc (.cells #[.int .i64 0, .nilIface] 103)
    have h5 := h5.alloc (.cells #[.int .i64 0, .nilIface] 103)
    have h6 := h6.alloc (.cells #[.int .i64 0, .nilIface] 103)
    have h7 := Blk.new' (((w.alloc (.cells #[.int .i64 x.code, .int .i64 (x.place.getD 0), .int .i64 (x.index.getD 0), .bool x.place.isSome, .bool x.index.isSome] 33)).alloc (.cells #[.int .i64 0] 31)).alloc (.cells #[.int .i64 0, .nilIface] 101)) 103 #[.int .i64 0, .nilIface]
    have g4 := g3.trans (Grow.alloc _ (.cells #[.int .i64 0, .nilIface] 103))
    simp only [szA] at h5 h6 h7
    clear g1 g2 g3 hB hB1 hB2
    generalize (((w.alloc (.cells #[.int .i64 x.code, .int .i64 (x.place.getD 0), .int .i64 (x.index.getD 0), .bool x.place.isSome, .bool x.index.isSome] 33)).alloc (.cells #[.int .i64 0] 31)).alloc (.cells #[.int .i64 0, .nilIface] 101)).alloc (.cells #[.int .i64 0, .nilIface] 103) = w4 at *
    refine as_ok .no x (hL.grow g4) h5 rfl (fun w5 k5 hB5 => ?_)
    have hB6 := hB3.keep k5 (by omega)
    have h6 := h6.keep k5 (by omega)
    have h7 := h7.keep k5 (by omega)
    have g5 : Grow w w5 := g4.above k5 (fun i hi e => by omega)
    rw [Er.find_no] at hB5
    have hs : (x.find .no).isSome = true := by
      have := Er.find_no x
      cases hf : x.find .no with
      | none => rw [hf] at this; cases this
      | some y => rfl
    rw [hs]
    simp only [Option.getD_some] at hB5
    simp -dsimp only [↓RE,↓c_seq,RU,RL,forall_const,implies_true,Nat.reduceLeDiff,Nat.reduceLT,pureOp,binPure,intBin,strBin,eqPure,isConstO,unPure,resK,endV,yieldE,↓reduceIte,Nat.reduceEqDiff,reduceCtorEq,Nat.reduceAdd,Nat.reduceMul,Int.reduceLT,Int.reduceLE,Int.reduceToNat,Int.reduceAdd,ne_eq,decide_true,decide_false,tf14, he0, he1, hB5.cell, hB6.cell, szA]
    refine wpDraw_by (fun w0 => Blk w0 w.heap.size 33 [.int .i64 x.code, .int .i64 (x.place.getD 0), .int .i64 (x.index.getD 0), .bool x.place.isSome, .bool x.index.isSome]) [(0, true), (1, true), (3, true), (4, true), (2, false), (5, true), (6, true), (7, true), (8, true), (10, true), (11, true), (9, false), (12, true), (13, true)] (by kernel_rfl) hB6.drew ?_
    simp only [planL, List.getElem?_toArray, List.getElem?_cons_zero, List.getElem?_cons_succ, Option.toList_some, List.map_cons, List.map_nil, List.cons_append, List.nil_append]
    simp -dsimp only [↓RE,↓c_seq,RU,RL,forall_const,implies_true,Nat.reduceLeDiff,Nat.reduceLT,pureOp,binPure,intBin,strBin,eqPure,isConstO,unPure,resK,endV,yieldE,↓reduceIte,Nat.reduceEqDiff,reduceCtorEq,Nat.reduceAdd,Nat.reduceMul,Int.reduceLT,Int.reduceLE,Int.reduceToNat,Int.reduceAdd,ne_eq,decide_true,decide_false,tf14, he0, he1, szA, errOf, Er.v]
    refine ⟨_, fun w' hS => Blk.cell hS 3, ?_⟩
    simp -dsimp only [↓RE,↓c_seq,RU,RL,forall_const,implies_true,Nat.reduceLeDiff,Nat.reduceLT,pureOp,binPure,intBin,strBin,eqPure,isConstO,unPure,resK,endV,yieldE,↓reduceIte,Nat.reduceEqDiff,reduceCtorEq,Nat.reduceAdd,Nat.reduceMul,Int.reduceLT,Int.reduceLE,Int.reduceToNat,Int.reduceAdd,ne_eq,decide_true,decide_false,tf14, he0, he1, szA, errOf, Er.v]
    have hLd : Lay w5.drew := (hL.grow g5).grow (Grow.drew w5)
    refine as_ok .pl x hLd h6.drew rfl (fun w6 k6 hB7 => ?_)
    have hB8 := hB6.drew.keep k6 (by omega)
    have h7 := h7.drew.keep k6 (by omega)
    have g6 : Grow w w6 := (g5.trans (Grow.drew w5)).above k6 (fun i hi e => by omega)
    obtain ⟨a1, a2⟩ := Er.find_at x
    rw [a2] at hB7
    rw [a1]
    simp -dsimp only [↓RE,↓c_seq,RU,RL,forall_const,implies_true,Nat.reduceLeDiff,Nat.reduceLT,pureOp,binPure,intBin,strBin,eqPure,isConstO,unPure,resK,endV,yieldE,↓reduceIte,Nat.reduceEqDiff,reduceCtorEq,Nat.reduceAdd,Nat.reduceMul,Int.reduceLT,Int.reduceLE,Int.reduceToNat,Int.reduceAdd,ne_eq,decide_true,decide_false,tf14, he0, he1, szA, errOf, Er.v]
    refine ⟨hB8, ?_⟩
    simp -dsimp only [↓RE,↓c_seq,RU,RL,forall_const,implies_true,Nat.reduceLeDiff,Nat.reduceLT,pureOp,binPure,intBin,strBin,eqPure,isConstO,unPure,resK,endV,yieldE,↓reduceIte,Nat.reduceEqDiff,reduceCtorEq,Nat.reduceAdd,Nat.reduceMul,Int.reduceLT,Int.reduceLE,Int.reduceToNat,Int.reduceAdd,ne_eq,decide_true,decide_false,tf14, he0, he1, szA, errOf, Er.v, beq_self_eq_true]
    refine ⟨_, fun w' hS => Blk.cell hS 4, ?_⟩
    simp -dsimp only [↓RE,↓c_seq,RU,RL,forall_const,implies_true,Nat.reduceLeDiff,Nat.reduceLT,pureOp,binPure,intBin,strBin,eqPure,isConstO,unPure,resK,endV,yieldE,↓reduceIte,Nat.reduceEqDiff,reduceCtorEq,Nat.reduceAdd,Nat.reduceMul,Int.reduceLT,Int.reduceLE,Int.reduceToNat,Int.reduceAdd,ne_eq,decide_true,decide_false,tf14, he0, he1, szA, errOf, Er.v, beq_self_eq_true]
    have hLe : Lay w6 := hL.grow g6
    refine as_ok .ins x hLe h7 rfl (fun w7 k7 hB9 => ?_)
    have hBa := hB8.keep k7 (by omega)
    have hBb := hB7.keep k7 (by omega)
    have g7 : Grow w w7 := g6.above k7 (fun i hi e => by omega)
    obtain ⟨b1, b2⟩ := Er.find_ins x
    rw [b2] at hB9
    rw [b1]
    simp -dsimp only [↓RE,↓c_seq,RU,RL,forall_const,implies_true,Nat.reduceLeDiff,Nat.reduceLT,pureOp,binPure,intBin,strBin,eqPure,isConstO,unPure,resK,endV,yieldE,↓reduceIte,Nat.reduceEqDiff,reduceCtorEq,Nat.reduceAdd,Nat.reduceMul,Int.reduceLT,Int.reduceLE,Int.reduceToNat,Int.reduceAdd,ne_eq,decide_true,decide_false,tf14, he0, he1, szA, errOf, Er.v, beq_self_eq_true]
    refine ⟨hBa, ?_⟩
    simp -dsimp only [↓RE,↓c_seq,RU,RL,forall_const,implies_true,Nat.reduceLeDiff,Nat.reduceLT,pureOp,binPure,intBin,strBin,eqPure,isConstO,unPure,resK,endV,yieldE,↓reduceIte,Nat.reduceEqDiff,reduceCtorEq,Nat.reduceAdd,Nat.reduceMul,Int.reduceLT,Int.reduceLE,Int.reduceToNat,Int.reduceAdd,ne_eq,decide_true,decide_false,tf14, he0, he1, szA, errOf, Er.v, beq_self_eq_true, hBa.cell, hBb.cell, hB9.cell]
    cases hp : x.place.isSome <;> cases hn : x.index.isSome <;> rw [hp, hn] at hBa
    · simp -dsimp only [↓RE,↓c_seq,RU,RL,forall_const,implies_true,Nat.reduceLeDiff,Nat.reduceLT,pureOp,binPure,intBin,strBin,eqPure,isConstO,unPure,resK,endV,yieldE,↓reduceIte,Nat.reduceEqDiff,reduceCtorEq,Nat.reduceAdd,Nat.reduceMul,Int.reduceLT,Int.reduceLE,Int.reduceToNat,Int.reduceAdd,ne_eq,decide_true,decide_false,tf14, he0, he1, szA, errOf, Er.v, beq_self_eq_true, hBa.cell, hBb.cell, hB9.cell, eq_self]
      exact h w7 g7
    · simp -dsimp only [↓RE,↓c_seq,RU,RL,forall_const,implies_true,Nat.reduceLeDiff,Nat.reduceLT,pureOp,binPure,intBin,strBin,eqPure,isConstO,unPure,resK,endV,yieldE,↓reduceIte,Nat.reduceEqDiff,reduceCtorEq,Nat.reduceAdd,Nat.reduceMul,Int.reduceLT,Int.reduceLE,Int.reduceToNat,Int.reduceAdd,ne_eq,decide_true,decide_false,tf14, he0, he1, szA, errOf, Er.v, beq_self_eq_true, hBa.cell, hBb.cell, hB9.cell, eq_self]
      exact h w7 g7
    · simp -dsimp only [↓RE,↓c_seq,RU,RL,forall_const,implies_true,Nat.reduceLeDiff,Nat.reduceLT,pureOp,binPure,intBin,strBin,eqPure,isConstO,unPure,resK,endV,yieldE,↓reduceIte,Nat.reduceEqDiff,reduceCtorEq,Nat.reduceAdd,Nat.reduceMul,Int.reduceLT,Int.reduceLE,Int.reduceToNat,Int.reduceAdd,ne_eq,decide_true,decide_false,tf14, he0, he1, szA, errOf, Er.v, beq_self_eq_true, hBa.cell, hBb.cell, hB9.cell, eq_self]
      exact h w7 g7
    · simp -dsimp only [↓RE,↓c_seq,RU,RL,forall_const,implies_true,Nat.reduceLeDiff,Nat.reduceLT,pureOp,binPure,intBin,strBin,eqPure,isConstO,unPure,resK,endV,yieldE,↓reduceIte,Nat.reduceEqDiff,reduceCtorEq,Nat.reduceAdd,Nat.reduceMul,Int.reduceLT,Int.reduceLE,Int.reduceToNat,Int.reduceAdd,ne_eq,decide_true,decide_false,tf14, he0, he1, szA, errOf, Er.v, beq_self_eq_true, hBa.cell, hBb.cell, hB9.cell, eq_self]
      exact h w7 g7

end Go.Proofs.YtljgnocpijniiaaGreatDoor
