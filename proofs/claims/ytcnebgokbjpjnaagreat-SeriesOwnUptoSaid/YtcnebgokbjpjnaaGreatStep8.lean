/- One call of both series: they answer alike, and hold alike. -/
import Derived.Test.YtcnebgokbjpjnaaGreatLoadR
set_option linter.unusedVariables false
set_option linter.unusedSimpArgs false
set_option maxRecDepth 100000
namespace Go.Proofs.YtcnebgokbjpjnaaGreat
open Go

/-- the program's series and the document's, apart. -/
structure Pr (w : World) (g : Nat) (v : Value) (l : List Smp) (g' : Nat) (v' : Value) (m : List Smp) : Prop where
  s : SerAt w g v l
  r : RefAt w g' v' m
  ap : ∀ q, fpV v q → ¬ fpV v' q
/-- the blocks of both. -/
def Fp (g : Nat) (v : Value) (g' : Nat) (v' : Value) (q : Nat) : Prop := (q = g ∨ fpV v q) ∨ (q = g' ∨ fpV v' q)
section
variable {w w1 : World} {g g' : Nat} {v v' v1 : Value} {l m l1 : List Smp}
theorem Pr.gg (h : Pr w g v l g' v' m) : g ≠ g' := Blk.ne_ h.s.b h.r.b (by decide)
theorem Pr.lt (h : Pr w g v l g' v' m) : ∀ q, Fp g v g' v' q → q < w.heap.size := by
  rintro q ((rfl | hq) | (rfl | hq))
  · exact h.s.b.lt
  · exact h.s.row.lt q hq
  · exact h.r.b.lt
  · exact h.r.row.lt q hq
theorem Pr.no (h : Pr w g v l g' v' m) {B : Nat} {t : TypeId} {cs : List Value} (hB : Blk w B t cs) (h1 : t ≠ 82) (h2 : t ≠ 84) (h3 : 89 ≠ t) : ¬ Fp g v g' v' B := by
  rintro ((rfl | hq) | (rfl | hq))
  · exact Blk.ne_ hB h.s.b h1 rfl
  · exact h.s.row.blk_ne hB h3 hq
  · exact Blk.ne_ hB h.r.b h2 rfl
  · exact h.r.row.blk_ne hB h3 hq
theorem Pr.grow (h : Pr w g v l g' v' m) (k : Grow w w1) : Pr w1 g v l g' v' m := ⟨h.s.grow k, h.r.grow k, h.ap⟩
theorem Pr.keep {F : Nat → Prop} (h : Pr w g v l g' v' m) (k : Keep F w w1) (hF : ∀ q, Fp g v g' v' q → ¬ F q) : Pr w1 g v l g' v' m :=
  ⟨h.s.keep k (hF _ (.inl (.inl rfl))) (fun q hq => hF q (.inl (.inr hq))), h.r.keep k (hF _ (.inr (.inl rfl))) (fun q hq => hF q (.inr (.inr hq))), h.ap⟩
theorem Pr.sStep (h : Pr w g v l g' v' m) (hS : SerAt w1 g v1 l1) (k : Keep (fun q => q = g ∨ fpV v q) w w1) (f : ∀ q, fpV v1 q → fpV v q ∨ w.heap.size ≤ q) : Pr w1 g v1 l1 g' v' m :=
  ⟨hS, h.r.keep k (fun e => by
    rcases e with e | e
    · exact h.gg e.symm
    · exact h.s.row.blk_ne h.r.b (by decide) e) (fun q hq e => by
    rcases e with e | e
    · exact h.r.row.blk_ne h.s.b (by decide) (e ▸ hq)
    · exact h.ap q e hq), fun q hq hq' => by
    rcases f q hq with e | e
    · exact h.ap q e hq'
    · have := h.r.row.lt q hq'; omega⟩
theorem Pr.rStep (h : Pr w g v l g' v' m) (hS : RefAt w1 g' v1 l1) (k : Keep (fun q => q = g' ∨ fpV v' q) w w1) (f : ∀ q, fpV v1 q → fpV v' q ∨ w.heap.size ≤ q) : Pr w1 g v l g' v1 l1 :=
  ⟨h.s.keep k (fun e => by
    rcases e with e | e
    · exact h.gg e
    · exact h.r.row.blk_ne h.s.b (by decide) e) (fun q hq e => by
    rcases e with e | e
    · exact h.s.row.blk_ne h.r.b (by decide) (e ▸ hq)
    · exact h.ap q hq e), hS, fun q hq hq' => by
    rcases f q hq' with e | e
    · exact h.ap q hq e
    · have := h.s.row.lt q hq; omega⟩
end
/-- what a step leaves. -/
def tStep (l : List Smp) (o : StepV) : List Smp := if o.k = 0 then sPut l o.t o.v else if o.k = 1 then sCut l o.t else if o.k = 2 then sDel l o.t o.u else if o.k = 3 then sLoad l o.l else l
theorem loadD_len (l xs : List Smp) {B : Nat} (h : xs.length ≤ B) : (loadD l xs).length ≤ B := by
  have h1 : ∀ ts : List Int, (ts.flatMap (dOf l (sLoad l xs))).length ≤ ts.length := by
    intro ts
    induction ts with
    | nil => simp
    | cons t ts ih =>
      rw [List.flatMap_cons, List.length_append, List.length_cons]
      have : (dOf l (sLoad l xs) t).length ≤ 1 := by unfold dOf; split <;> simp
      omega
  have := h1 (loadT xs)
  have := loadT_len xs
  unfold loadD
  omega
theorem boolBeq (b : Bool) : (b == b) = true := by cases b <;> rfl
theorem b_eq (b : Bool) : (b == b) = true := by cases b <;> rfl
theorem step_ok {w : World} {g g' : Nat} {v v' : Value} {l : List Smp} (hP : Pr w g v l g' v' l) {o : StepV} (hX : Rd w o.A o.m 3 (o.l.flatMap scells)) (hap : 0 < o.m → ∀ q, fpA o.A q → ¬ Fp g v g' v' q) (hn : l.length + o.m ≤ 1000000000000) {R : VWK}
    (h : ∀ w' v1 v2, Pr w' g v1 (tStep l o) g' v2 (tStep l o) → Keep (Fp g v g' v') w w' → (∀ q, fpV v1 q → fpV v q ∨ w.heap.size ≤ q) → (∀ q, fpV v2 q → fpV v' q ∨ w.heap.size ≤ q) → R (.bool true) w') :
    CallsV Tryz.prog 13 [.pointer (some ⟨g, 0, none⟩), .pointer (some ⟨g', 0, none⟩), .agg o.cells.toArray] w R := by
  have hb := Blk.new' w 64 #[.int .i64 o.k, .int .i64 o.t, .int .i64 o.u, .int .u8 o.v.1, .int .i64 o.v.2, .slice o.A o.m o.c]
  have g1 := Grow.alloc w (.cells #[.int .i64 o.k, .int .i64 o.t, .int .i64 o.u, .int .u8 o.v.1, .int .i64 o.v.2, .slice o.A o.m o.c] 64)
  generalize hw1 : w.alloc (.cells #[.int .i64 o.k, .int .i64 o.t, .int .i64 o.u, .int .u8 o.v.1, .int .i64 o.v.2, .slice o.A o.m o.c] 64) = w1 at hb g1
  have hP1 := hP.grow g1
  have hs1 := g1.size
  have hb : Blk w1 w.heap.size 64 o.cells := hb
  have c0 : w1.cell? ⟨w.heap.size, 0, none⟩ = some (.int .i64 o.k) := (hb.cell 0).trans rfl
  have c1 : w1.cell? ⟨w.heap.size, 1, none⟩ = some (.int .i64 o.t) := (hb.cell 1).trans rfl
  have c2 : w1.cell? ⟨w.heap.size, 2, none⟩ = some (.int .i64 o.u) := (hb.cell 2).trans rfl
  have c5 : w1.cell? ⟨w.heap.size, 5, none⟩ = some (.slice o.A o.m o.c) := (hb.cell 5).trans rfl
  have no1 : ¬ Fp g v g' v' w.heap.size := hP1.no hb (by decide) (by decide) (by decide)
  refine calls_of_wpC mixed Tryz.func13 rfl (by kernel_rfl) ?_
  intro e he
  have he0 := he 0
  have he1 := he 1
  have he2 := he 2
  simp only [List.getD_cons_zero, List.getD_cons_succ] at he0 he1 he2
  clear he
  simp only [StepV.cells] at he2
  rw [c_seq]
  simp -dsimp only [↓RE,RU,RL,if_true,if_false,forall_const,implies_true,Nat.reduceLeDiff,Nat.reduceLT,pureOp,binPure,intBin,strBin,eqPure,isConstO,unPure,sliceLo,sliceHi,slicePure,slice3Pure,lenPure,capPure,minPure,maxPure,buildP,resK,endV,yieldE,↓reduceIte,Nat.reduceEqDiff,reduceCtorEq,Nat.reduceAdd,Nat.reduceMul,Nat.reduceSub,Int.reduceLT,Int.reduceLE,Int.reduceToNat,Int.reduceAdd,Int.reduceSub,Int.reduceMul,ne_eq,decide_true,decide_false,tf13, he2, hw1]
  have e5 : upd (upd e 5 (.pointer (some ⟨w.heap.size, 0, none⟩))) 6 (.bool false) = upd (upd e 5 (.pointer (some ⟨w.heap.size, 0, none⟩))) 6 (.bool false) := rfl
  refine c_gen (fun e' => e' 0 = .pointer (some ⟨g, 0, none⟩) ∧ e' 1 = .pointer (some ⟨g', 0, none⟩) ∧ e' 5 = .pointer (some ⟨w.heap.size, 0, none⟩)) ⟨?_, ?_, ?_⟩ ?_
  · simp -dsimp only [↓RE,RU,RL,if_true,if_false,↓reduceIte,Nat.reduceEqDiff,reduceCtorEq,decide_true,decide_false, he0]
  · simp -dsimp only [↓RE,RU,RL,if_true,if_false,↓reduceIte,Nat.reduceEqDiff,reduceCtorEq,decide_true,decide_false, he1]
  · simp -dsimp only [↓RE,RU,RL,if_true,if_false,↓reduceIte,Nat.reduceEqDiff,reduceCtorEq,decide_true,decide_false, he1]
  clear he0 he1 he2 e5 e
  rintro e ⟨he0, he1, he5⟩
  rw [c_seq, c_seq]
  simp -dsimp only [↓RE,RU,RL,if_true,if_false,forall_const,implies_true,Nat.reduceLeDiff,Nat.reduceLT,pureOp,binPure,intBin,strBin,eqPure,isConstO,unPure,sliceLo,sliceHi,slicePure,slice3Pure,lenPure,capPure,minPure,maxPure,buildP,resK,endV,yieldE,↓reduceIte,Nat.reduceEqDiff,reduceCtorEq,Nat.reduceAdd,Nat.reduceMul,Nat.reduceSub,Int.reduceLT,Int.reduceLE,Int.reduceToNat,Int.reduceAdd,Int.reduceSub,Int.reduceMul,ne_eq,decide_true,decide_false,tf13, he5, add_lit', Nat.zero_add, c0]
  rw [c_seq]
  cases hk0 : decide (o.k = 0) with
  | true =>
    have h0 := of_decide_eq_true hk0
    simp -dsimp only [↓RE,RU,RL,if_true,if_false,forall_const,implies_true,Nat.reduceLeDiff,Nat.reduceLT,pureOp,binPure,intBin,strBin,eqPure,isConstO,unPure,sliceLo,sliceHi,slicePure,slice3Pure,lenPure,capPure,minPure,maxPure,buildP,resK,endV,yieldE,↓reduceIte,Nat.reduceEqDiff,reduceCtorEq,Nat.reduceAdd,Nat.reduceMul,Nat.reduceSub,Int.reduceLT,Int.reduceLE,Int.reduceToNat,Int.reduceAdd,Int.reduceSub,Int.reduceMul,ne_eq,decide_true,decide_false,tf13, hk0]
    rw [c_seq]
    simp -dsimp only [↓RE,RU,RL,if_true,if_false,forall_const,implies_true,Nat.reduceLeDiff,Nat.reduceLT,pureOp,binPure,intBin,strBin,eqPure,isConstO,unPure,sliceLo,sliceHi,slicePure,slice3Pure,lenPure,capPure,minPure,maxPure,buildP,resK,endV,yieldE,↓reduceIte,Nat.reduceEqDiff,reduceCtorEq,Nat.reduceAdd,Nat.reduceMul,Nat.reduceSub,Int.reduceLT,Int.reduceLE,Int.reduceToNat,Int.reduceAdd,Int.reduceSub,Int.reduceMul,ne_eq,decide_true,decide_false,tf13, he0, he5, add_lit', Nat.zero_add, c1]
    refine hb.aggK (o := 3) (by simp [StepV.cells]) ?_
    simp -dsimp only [↓RE,RU,RL,if_true,if_false,forall_const,implies_true,Nat.reduceLeDiff,Nat.reduceLT,pureOp,binPure,intBin,strBin,eqPure,isConstO,unPure,sliceLo,sliceHi,slicePure,slice3Pure,lenPure,capPure,minPure,maxPure,buildP,resK,endV,yieldE,↓reduceIte,Nat.reduceEqDiff,reduceCtorEq,Nat.reduceAdd,Nat.reduceMul,Nat.reduceSub,Int.reduceLT,Int.reduceLE,Int.reduceToNat,Int.reduceAdd,Int.reduceSub,Int.reduceMul,ne_eq,decide_true,decide_false,tf13, he0, he5]
    refine sput_ok (k := o.v.1) (x := o.v.2) hP1.s (by omega) (fun w2 v2 hS2 k2 f2 => ?_)
    simp -dsimp only [↓RE,RU,RL,if_true,if_false,forall_const,implies_true,Nat.reduceLeDiff,Nat.reduceLT,pureOp,binPure,intBin,strBin,eqPure,isConstO,unPure,sliceLo,sliceHi,slicePure,slice3Pure,lenPure,capPure,minPure,maxPure,buildP,resK,endV,yieldE,↓reduceIte,Nat.reduceEqDiff,reduceCtorEq,Nat.reduceAdd,Nat.reduceMul,Nat.reduceSub,Int.reduceLT,Int.reduceLE,Int.reduceToNat,Int.reduceAdd,Int.reduceSub,Int.reduceMul,ne_eq,decide_true,decide_false,tf13, he0, he5]
    refine new2 (fun w3 hb3 g3 => ?_) rfl rfl
    have hP3 := (hP1.sStep hS2 k2 (fun q hq => (f2 q hq))).grow g3
    have kw3 : Keep (Fp g v g' v') w w3 := g1.above' (k2.then_grow g3) (fun q _ e => Or.inl e)
    have hbw := (hb.keep k2 (fun e => no1 (.inl e))).grow g3
    have d1 : w3.cell? ⟨w.heap.size, 1, none⟩ = some (.int .i64 o.t) := (hbw.cell 1).trans rfl
    refine os_gen (fun e' => e' 1 = .pointer (some ⟨g', 0, none⟩) ∧ e' 5 = .pointer (some ⟨w.heap.size, 0, none⟩) ∧ e' 7 = .pointer (some ⟨w2.heap.size, 0, none⟩) ∧ e' 32 = .bool (sHas l o.t)) ⟨?_, ?_, ?_, ?_⟩ ?_
    · simp -dsimp only [↓RE,RU,RL,if_true,if_false,↓reduceIte,Nat.reduceEqDiff,reduceCtorEq,decide_true,decide_false, he1]
    · simp -dsimp only [↓RE,RU,RL,if_true,if_false,↓reduceIte,Nat.reduceEqDiff,reduceCtorEq,decide_true,decide_false, he5]
    · simp -dsimp only [↓RE,RU,RL,if_true,if_false,↓reduceIte,Nat.reduceEqDiff,reduceCtorEq,decide_true,decide_false, he0]
    · simp -dsimp only [↓RE,RU,RL,if_true,if_false,↓reduceIte,Nat.reduceEqDiff,reduceCtorEq,decide_true,decide_false, he0]
    clear he0 he1 he5 e
    rintro e ⟨he1, he5, heA, heB⟩
    simp -dsimp only [↓RE,RU,RL,if_true,if_false,forall_const,implies_true,Nat.reduceLeDiff,Nat.reduceLT,pureOp,binPure,intBin,strBin,eqPure,isConstO,unPure,sliceLo,sliceHi,slicePure,slice3Pure,lenPure,capPure,minPure,maxPure,buildP,resK,endV,yieldE,↓reduceIte,Nat.reduceEqDiff,reduceCtorEq,Nat.reduceAdd,Nat.reduceMul,Nat.reduceSub,Int.reduceLT,Int.reduceLE,Int.reduceToNat,Int.reduceAdd,Int.reduceSub,Int.reduceMul,ne_eq,decide_true,decide_false,tf13, heB]
    rw [c_seq]
    simp -dsimp only [↓RE,RU,RL,if_true,if_false,forall_const,implies_true,Nat.reduceLeDiff,Nat.reduceLT,pureOp,binPure,intBin,strBin,eqPure,isConstO,unPure,sliceLo,sliceHi,slicePure,slice3Pure,lenPure,capPure,minPure,maxPure,buildP,resK,endV,yieldE,↓reduceIte,Nat.reduceEqDiff,reduceCtorEq,Nat.reduceAdd,Nat.reduceMul,Nat.reduceSub,Int.reduceLT,Int.reduceLE,Int.reduceToNat,Int.reduceAdd,Int.reduceSub,Int.reduceMul,ne_eq,decide_true,decide_false,tf13, he1, he5, add_lit', Nat.zero_add, d1]
    refine hbw.aggK (o := 3) (by simp [StepV.cells]) ?_
    simp -dsimp only [↓RE,RU,RL,if_true,if_false,forall_const,implies_true,Nat.reduceLeDiff,Nat.reduceLT,pureOp,binPure,intBin,strBin,eqPure,isConstO,unPure,sliceLo,sliceHi,slicePure,slice3Pure,lenPure,capPure,minPure,maxPure,buildP,resK,endV,yieldE,↓reduceIte,Nat.reduceEqDiff,reduceCtorEq,Nat.reduceAdd,Nat.reduceMul,Nat.reduceSub,Int.reduceLT,Int.reduceLE,Int.reduceToNat,Int.reduceAdd,Int.reduceSub,Int.reduceMul,ne_eq,decide_true,decide_false,tf13, he1, he5]
    refine rput_ok (k := o.v.1) (x := o.v.2) hP3.r (by omega) (fun w4 v4 hR4 k4 f4 => ?_)
    simp -dsimp only [↓RE,RU,RL,if_true,if_false,forall_const,implies_true,Nat.reduceLeDiff,Nat.reduceLT,pureOp,binPure,intBin,strBin,eqPure,isConstO,unPure,sliceLo,sliceHi,slicePure,slice3Pure,lenPure,capPure,minPure,maxPure,buildP,resK,endV,yieldE,↓reduceIte,Nat.reduceEqDiff,reduceCtorEq,Nat.reduceAdd,Nat.reduceMul,Nat.reduceSub,Int.reduceLT,Int.reduceLE,Int.reduceToNat,Int.reduceAdd,Int.reduceSub,Int.reduceMul,ne_eq,decide_true,decide_false,tf13, he1, he5]
    refine new2 (fun w5 hb5 g5 => ?_) rfl rfl
    have hs3 := kw3.size
    have hP5 := (hP3.rStep hR4 k4 f4).grow g5
    have hnb : ¬ (w2.heap.size = g' ∨ fpV v' w2.heap.size) := fun e => hP3.no hb3 (by decide) (by decide) (by decide) (.inr e)
    have hb35 := (hb3.keep k4 hnb).grow g5
    have kw5 : Keep (Fp g v g' v') w w5 := kw3.trans (k4.then_grow g5) (fun _ _ e => e) (fun q _ e => Or.inr e)
    have hst : tStep l o = sPut l o.t o.v := by simp only [tStep, h0, if_true, if_false]
    simp -dsimp only [↓RE,RU,RL,if_true,if_false,forall_const,implies_true,Nat.reduceLeDiff,Nat.reduceLT,pureOp,binPure,intBin,strBin,eqPure,isConstO,unPure,sliceLo,sliceHi,slicePure,slice3Pure,lenPure,capPure,minPure,maxPure,buildP,resK,endV,yieldE,↓reduceIte,Nat.reduceEqDiff,reduceCtorEq,Nat.reduceAdd,Nat.reduceMul,Nat.reduceSub,Int.reduceLT,Int.reduceLE,Int.reduceToNat,Int.reduceAdd,Int.reduceSub,Int.reduceMul,ne_eq,decide_true,decide_false,tf13, heA, heB]
    rw [c_seq]
    simp -dsimp only [↓RE,RU,RL,if_true,if_false,forall_const,implies_true,Nat.reduceLeDiff,Nat.reduceLT,pureOp,binPure,intBin,strBin,eqPure,isConstO,unPure,sliceLo,sliceHi,slicePure,slice3Pure,lenPure,capPure,minPure,maxPure,buildP,resK,endV,yieldE,↓reduceIte,Nat.reduceEqDiff,reduceCtorEq,Nat.reduceAdd,Nat.reduceMul,Nat.reduceSub,Int.reduceLT,Int.reduceLE,Int.reduceToNat,Int.reduceAdd,Int.reduceSub,Int.reduceMul,ne_eq,decide_true,decide_false,tf13, heA, heB]
    refine blk_agg2 hb35 ?_
    simp -dsimp only [↓RE,RU,RL,if_true,if_false,forall_const,implies_true,Nat.reduceLeDiff,Nat.reduceLT,pureOp,binPure,intBin,strBin,eqPure,isConstO,unPure,sliceLo,sliceHi,slicePure,slice3Pure,lenPure,capPure,minPure,maxPure,buildP,resK,endV,yieldE,↓reduceIte,Nat.reduceEqDiff,reduceCtorEq,Nat.reduceAdd,Nat.reduceMul,Nat.reduceSub,Int.reduceLT,Int.reduceLE,Int.reduceToNat,Int.reduceAdd,Int.reduceSub,Int.reduceMul,ne_eq,decide_true,decide_false,tf13, heA, heB]
    refine blk_agg2 hb5 ?_
    simp -dsimp only [↓RE,RU,RL,if_true,if_false,forall_const,implies_true,Nat.reduceLeDiff,Nat.reduceLT,pureOp,binPure,intBin,strBin,eqPure,isConstO,unPure,sliceLo,sliceHi,slicePure,slice3Pure,lenPure,capPure,minPure,maxPure,buildP,resK,endV,yieldE,↓reduceIte,Nat.reduceEqDiff,reduceCtorEq,Nat.reduceAdd,Nat.reduceMul,Nat.reduceSub,Int.reduceLT,Int.reduceLE,Int.reduceToNat,Int.reduceAdd,Int.reduceSub,Int.reduceMul,ne_eq,decide_true,decide_false,tf13, heA, heB, eq_self, and_self, decide_true, b_eq, Option.map_some, boolBeq]
    refine h w5 v2 v4 (by rw [hst]; exact hP5) kw5 (fun q hq => (f2 q hq).imp id (fun e => by omega)) (fun q hq => (f4 q hq).imp id (fun e => by omega))
  | false =>
    simp -dsimp only [↓RE,RU,RL,if_true,if_false,forall_const,implies_true,Nat.reduceLeDiff,Nat.reduceLT,pureOp,binPure,intBin,strBin,eqPure,isConstO,unPure,sliceLo,sliceHi,slicePure,slice3Pure,lenPure,capPure,minPure,maxPure,buildP,resK,endV,yieldE,↓reduceIte,Nat.reduceEqDiff,reduceCtorEq,Nat.reduceAdd,Nat.reduceMul,Nat.reduceSub,Int.reduceLT,Int.reduceLE,Int.reduceToNat,Int.reduceAdd,Int.reduceSub,Int.reduceMul,ne_eq,decide_true,decide_false,tf13, hk0]
    rw [c_seq]
    have h0 := of_decide_eq_false hk0
    cases hk1 : decide (o.k = 1) with
    | true =>
      have h1 := of_decide_eq_true hk1
      simp -dsimp only [↓RE,RU,RL,if_true,if_false,forall_const,implies_true,Nat.reduceLeDiff,Nat.reduceLT,pureOp,binPure,intBin,strBin,eqPure,isConstO,unPure,sliceLo,sliceHi,slicePure,slice3Pure,lenPure,capPure,minPure,maxPure,buildP,resK,endV,yieldE,↓reduceIte,Nat.reduceEqDiff,reduceCtorEq,Nat.reduceAdd,Nat.reduceMul,Nat.reduceSub,Int.reduceLT,Int.reduceLE,Int.reduceToNat,Int.reduceAdd,Int.reduceSub,Int.reduceMul,ne_eq,decide_true,decide_false,tf13, hk1]
      rw [c_seq]
      simp -dsimp only [↓RE,RU,RL,if_true,if_false,forall_const,implies_true,Nat.reduceLeDiff,Nat.reduceLT,pureOp,binPure,intBin,strBin,eqPure,isConstO,unPure,sliceLo,sliceHi,slicePure,slice3Pure,lenPure,capPure,minPure,maxPure,buildP,resK,endV,yieldE,↓reduceIte,Nat.reduceEqDiff,reduceCtorEq,Nat.reduceAdd,Nat.reduceMul,Nat.reduceSub,Int.reduceLT,Int.reduceLE,Int.reduceToNat,Int.reduceAdd,Int.reduceSub,Int.reduceMul,ne_eq,decide_true,decide_false,tf13, he0, he5, add_lit', Nat.zero_add, c1]
      refine cut_ok hP1.s (by omega) (fun w2 v2 hS2 k2 f2 => ?_)
      simp -dsimp only [↓RE,RU,RL,if_true,if_false,forall_const,implies_true,Nat.reduceLeDiff,Nat.reduceLT,pureOp,binPure,intBin,strBin,eqPure,isConstO,unPure,sliceLo,sliceHi,slicePure,slice3Pure,lenPure,capPure,minPure,maxPure,buildP,resK,endV,yieldE,↓reduceIte,Nat.reduceEqDiff,reduceCtorEq,Nat.reduceAdd,Nat.reduceMul,Nat.reduceSub,Int.reduceLT,Int.reduceLE,Int.reduceToNat,Int.reduceAdd,Int.reduceSub,Int.reduceMul,ne_eq,decide_true,decide_false,tf13, he0, he5]
      refine new2 (fun w3 hb3 g3 => ?_) rfl rfl
      have hP3 := (hP1.sStep hS2 k2 (fun q hq => .inl (f2 q hq))).grow g3
      have kw3 : Keep (Fp g v g' v') w w3 := g1.above' (k2.then_grow g3) (fun q _ e => Or.inl e)
      have hbw := (hb.keep k2 (fun e => no1 (.inl e))).grow g3
      have d1 : w3.cell? ⟨w.heap.size, 1, none⟩ = some (.int .i64 o.t) := (hbw.cell 1).trans rfl
      refine os_gen (fun e' => e' 1 = .pointer (some ⟨g', 0, none⟩) ∧ e' 5 = .pointer (some ⟨w.heap.size, 0, none⟩) ∧ e' 11 = .pointer (some ⟨w2.heap.size, 0, none⟩) ∧ e' 58 = .bool (sHas l o.t)) ⟨?_, ?_, ?_, ?_⟩ ?_
      · simp -dsimp only [↓RE,RU,RL,if_true,if_false,↓reduceIte,Nat.reduceEqDiff,reduceCtorEq,decide_true,decide_false, he1]
      · simp -dsimp only [↓RE,RU,RL,if_true,if_false,↓reduceIte,Nat.reduceEqDiff,reduceCtorEq,decide_true,decide_false, he5]
      · simp -dsimp only [↓RE,RU,RL,if_true,if_false,↓reduceIte,Nat.reduceEqDiff,reduceCtorEq,decide_true,decide_false, he0]
      · simp -dsimp only [↓RE,RU,RL,if_true,if_false,↓reduceIte,Nat.reduceEqDiff,reduceCtorEq,decide_true,decide_false, he0]
      clear he0 he1 he5 e
      rintro e ⟨he1, he5, heA, heB⟩
      simp -dsimp only [↓RE,RU,RL,if_true,if_false,forall_const,implies_true,Nat.reduceLeDiff,Nat.reduceLT,pureOp,binPure,intBin,strBin,eqPure,isConstO,unPure,sliceLo,sliceHi,slicePure,slice3Pure,lenPure,capPure,minPure,maxPure,buildP,resK,endV,yieldE,↓reduceIte,Nat.reduceEqDiff,reduceCtorEq,Nat.reduceAdd,Nat.reduceMul,Nat.reduceSub,Int.reduceLT,Int.reduceLE,Int.reduceToNat,Int.reduceAdd,Int.reduceSub,Int.reduceMul,ne_eq,decide_true,decide_false,tf13, heB]
      rw [c_seq]
      simp -dsimp only [↓RE,RU,RL,if_true,if_false,forall_const,implies_true,Nat.reduceLeDiff,Nat.reduceLT,pureOp,binPure,intBin,strBin,eqPure,isConstO,unPure,sliceLo,sliceHi,slicePure,slice3Pure,lenPure,capPure,minPure,maxPure,buildP,resK,endV,yieldE,↓reduceIte,Nat.reduceEqDiff,reduceCtorEq,Nat.reduceAdd,Nat.reduceMul,Nat.reduceSub,Int.reduceLT,Int.reduceLE,Int.reduceToNat,Int.reduceAdd,Int.reduceSub,Int.reduceMul,ne_eq,decide_true,decide_false,tf13, he1, he5, add_lit', Nat.zero_add, d1]
      refine rcut_ok hP3.r (by omega) (fun w4 v4 hR4 k4 f4 => ?_)
      simp -dsimp only [↓RE,RU,RL,if_true,if_false,forall_const,implies_true,Nat.reduceLeDiff,Nat.reduceLT,pureOp,binPure,intBin,strBin,eqPure,isConstO,unPure,sliceLo,sliceHi,slicePure,slice3Pure,lenPure,capPure,minPure,maxPure,buildP,resK,endV,yieldE,↓reduceIte,Nat.reduceEqDiff,reduceCtorEq,Nat.reduceAdd,Nat.reduceMul,Nat.reduceSub,Int.reduceLT,Int.reduceLE,Int.reduceToNat,Int.reduceAdd,Int.reduceSub,Int.reduceMul,ne_eq,decide_true,decide_false,tf13, he1, he5]
      refine new2 (fun w5 hb5 g5 => ?_) rfl rfl
      have hs3 := kw3.size
      have hP5 := (hP3.rStep hR4 k4 f4).grow g5
      have hnb : ¬ (w2.heap.size = g' ∨ fpV v' w2.heap.size) := fun e => hP3.no hb3 (by decide) (by decide) (by decide) (.inr e)
      have hb35 := (hb3.keep k4 hnb).grow g5
      have kw5 : Keep (Fp g v g' v') w w5 := kw3.trans (k4.then_grow g5) (fun _ _ e => e) (fun q _ e => Or.inr e)
      have hst : tStep l o = sCut l o.t := by rw [tStep, if_neg h0, if_pos h1]
      simp -dsimp only [↓RE,RU,RL,if_true,if_false,forall_const,implies_true,Nat.reduceLeDiff,Nat.reduceLT,pureOp,binPure,intBin,strBin,eqPure,isConstO,unPure,sliceLo,sliceHi,slicePure,slice3Pure,lenPure,capPure,minPure,maxPure,buildP,resK,endV,yieldE,↓reduceIte,Nat.reduceEqDiff,reduceCtorEq,Nat.reduceAdd,Nat.reduceMul,Nat.reduceSub,Int.reduceLT,Int.reduceLE,Int.reduceToNat,Int.reduceAdd,Int.reduceSub,Int.reduceMul,ne_eq,decide_true,decide_false,tf13, heA, heB]
      rw [c_seq]
      simp -dsimp only [↓RE,RU,RL,if_true,if_false,forall_const,implies_true,Nat.reduceLeDiff,Nat.reduceLT,pureOp,binPure,intBin,strBin,eqPure,isConstO,unPure,sliceLo,sliceHi,slicePure,slice3Pure,lenPure,capPure,minPure,maxPure,buildP,resK,endV,yieldE,↓reduceIte,Nat.reduceEqDiff,reduceCtorEq,Nat.reduceAdd,Nat.reduceMul,Nat.reduceSub,Int.reduceLT,Int.reduceLE,Int.reduceToNat,Int.reduceAdd,Int.reduceSub,Int.reduceMul,ne_eq,decide_true,decide_false,tf13, heA, heB]
      refine blk_agg2 hb35 ?_
      simp -dsimp only [↓RE,RU,RL,if_true,if_false,forall_const,implies_true,Nat.reduceLeDiff,Nat.reduceLT,pureOp,binPure,intBin,strBin,eqPure,isConstO,unPure,sliceLo,sliceHi,slicePure,slice3Pure,lenPure,capPure,minPure,maxPure,buildP,resK,endV,yieldE,↓reduceIte,Nat.reduceEqDiff,reduceCtorEq,Nat.reduceAdd,Nat.reduceMul,Nat.reduceSub,Int.reduceLT,Int.reduceLE,Int.reduceToNat,Int.reduceAdd,Int.reduceSub,Int.reduceMul,ne_eq,decide_true,decide_false,tf13, heA, heB]
      refine blk_agg2 hb5 ?_
      simp -dsimp only [↓RE,RU,RL,if_true,if_false,forall_const,implies_true,Nat.reduceLeDiff,Nat.reduceLT,pureOp,binPure,intBin,strBin,eqPure,isConstO,unPure,sliceLo,sliceHi,slicePure,slice3Pure,lenPure,capPure,minPure,maxPure,buildP,resK,endV,yieldE,↓reduceIte,Nat.reduceEqDiff,reduceCtorEq,Nat.reduceAdd,Nat.reduceMul,Nat.reduceSub,Int.reduceLT,Int.reduceLE,Int.reduceToNat,Int.reduceAdd,Int.reduceSub,Int.reduceMul,ne_eq,decide_true,decide_false,tf13, heA, heB, eq_self, and_self, decide_true, b_eq, Option.map_some, boolBeq]
      refine h w5 v2 v4 (by rw [hst]; exact hP5) kw5 (fun q hq => .inl (f2 q hq)) (fun q hq => (f4 q hq).imp id (fun e => by omega))
    | false =>
      have h1 := of_decide_eq_false hk1
      simp -dsimp only [↓RE,RU,RL,if_true,if_false,forall_const,implies_true,Nat.reduceLeDiff,Nat.reduceLT,pureOp,binPure,intBin,strBin,eqPure,isConstO,unPure,sliceLo,sliceHi,slicePure,slice3Pure,lenPure,capPure,minPure,maxPure,buildP,resK,endV,yieldE,↓reduceIte,Nat.reduceEqDiff,reduceCtorEq,Nat.reduceAdd,Nat.reduceMul,Nat.reduceSub,Int.reduceLT,Int.reduceLE,Int.reduceToNat,Int.reduceAdd,Int.reduceSub,Int.reduceMul,ne_eq,decide_true,decide_false,tf13, hk1]
      rw [c_seq]
      cases hk2 : decide (o.k = 2) with
      | true =>
        have h2 := of_decide_eq_true hk2
        have hst : tStep l o = sDel l o.t o.u := by rw [tStep, if_neg h0, if_neg h1, if_pos h2]
        have hrl : (sRange l o.t o.u).length ≤ l.length := List.length_filter_le _ _
        simp -dsimp only [↓RE,RU,RL,if_true,if_false,forall_const,implies_true,Nat.reduceLeDiff,Nat.reduceLT,pureOp,binPure,intBin,strBin,eqPure,isConstO,unPure,sliceLo,sliceHi,slicePure,slice3Pure,lenPure,capPure,minPure,maxPure,buildP,resK,endV,yieldE,↓reduceIte,Nat.reduceEqDiff,reduceCtorEq,Nat.reduceAdd,Nat.reduceMul,Nat.reduceSub,Int.reduceLT,Int.reduceLE,Int.reduceToNat,Int.reduceAdd,Int.reduceSub,Int.reduceMul,ne_eq,decide_true,decide_false,tf13, hk2]
        rw [c_seq]
        simp -dsimp only [↓RE,RU,RL,if_true,if_false,forall_const,implies_true,Nat.reduceLeDiff,Nat.reduceLT,pureOp,binPure,intBin,strBin,eqPure,isConstO,unPure,sliceLo,sliceHi,slicePure,slice3Pure,lenPure,capPure,minPure,maxPure,buildP,resK,endV,yieldE,↓reduceIte,Nat.reduceEqDiff,reduceCtorEq,Nat.reduceAdd,Nat.reduceMul,Nat.reduceSub,Int.reduceLT,Int.reduceLE,Int.reduceToNat,Int.reduceAdd,Int.reduceSub,Int.reduceMul,ne_eq,decide_true,decide_false,tf13, he0, he5, add_lit', Nat.zero_add, c1, c2]
        refine del_ok hP1.s (by omega) (fun w2 v2 A2 a2 hS2 k2 f2 hL2 hF2 => ?_)
        have hP2 := hP1.sStep hS2 k2 f2
        have kw2 : Keep (Fp g v g' v') w w2 := g1.above' k2 (fun q _ e => Or.inl e)
        have hbw := hb.keep k2 (fun e => no1 (.inl e))
        have d1 : w2.cell? ⟨w.heap.size, 1, none⟩ = some (.int .i64 o.t) := (hbw.cell 1).trans rfl
        have d2 : w2.cell? ⟨w.heap.size, 2, none⟩ = some (.int .i64 o.u) := (hbw.cell 2).trans rfl
        simp -dsimp only [↓RE,RU,RL,if_true,if_false,forall_const,implies_true,Nat.reduceLeDiff,Nat.reduceLT,pureOp,binPure,intBin,strBin,eqPure,isConstO,unPure,sliceLo,sliceHi,slicePure,slice3Pure,lenPure,capPure,minPure,maxPure,buildP,resK,endV,yieldE,↓reduceIte,Nat.reduceEqDiff,reduceCtorEq,Nat.reduceAdd,Nat.reduceMul,Nat.reduceSub,Int.reduceLT,Int.reduceLE,Int.reduceToNat,Int.reduceAdd,Int.reduceSub,Int.reduceMul,ne_eq,decide_true,decide_false,tf13, he0]
        rw [c_seq]
        simp -dsimp only [↓RE,RU,RL,if_true,if_false,forall_const,implies_true,Nat.reduceLeDiff,Nat.reduceLT,pureOp,binPure,intBin,strBin,eqPure,isConstO,unPure,sliceLo,sliceHi,slicePure,slice3Pure,lenPure,capPure,minPure,maxPure,buildP,resK,endV,yieldE,↓reduceIte,Nat.reduceEqDiff,reduceCtorEq,Nat.reduceAdd,Nat.reduceMul,Nat.reduceSub,Int.reduceLT,Int.reduceLE,Int.reduceToNat,Int.reduceAdd,Int.reduceSub,Int.reduceMul,ne_eq,decide_true,decide_false,tf13, he1, he5, add_lit', Nat.zero_add, d1, d2]
        refine rdel_ok hP2.r (by omega) (fun w3 v3 A3 a3 hR3 k3 f3 hL3 hF3 => ?_)
        have hP3 := hP2.rStep hR3 k3 f3
        have hL23 := hL2.keep k3 (fun q hq e => by
          have h1 := (hF2 q ((fpV_fpA _ _ _ _).1 hq)).1
          rcases e with e | e
          · have := hP.r.b.lt; omega
          · have := hP.r.row.lt q e; omega)
        try simp -dsimp only [↓RE,↓c_seq,RU,RL,if_true,if_false,forall_const,implies_true,Nat.reduceLeDiff,Nat.reduceLT,pureOp,binPure,intBin,strBin,eqPure,isConstO,unPure,sliceLo,sliceHi,slicePure,slice3Pure,lenPure,capPure,minPure,maxPure,buildP,resK,endV,yieldE,↓reduceIte,Nat.reduceEqDiff,reduceCtorEq,Nat.reduceAdd,Nat.reduceMul,Nat.reduceSub,Int.reduceLT,Int.reduceLE,Int.reduceToNat,Int.reduceAdd,Int.reduceSub,Int.reduceMul,ne_eq,decide_true,decide_false,tf13, he1]
        refine msameSamples_ok hL23.rd hL3.rd (by omega) (by omega) (fun w4 g4 => ?_)
        rw [decide_eq_true rfl]
        have hs2 := k2.size
        try simp -dsimp only [↓RE,↓c_seq,RU,RL,if_true,if_false,forall_const,implies_true,Nat.reduceLeDiff,Nat.reduceLT,pureOp,binPure,intBin,strBin,eqPure,isConstO,unPure,sliceLo,sliceHi,slicePure,slice3Pure,lenPure,capPure,minPure,maxPure,buildP,resK,endV,yieldE,↓reduceIte,Nat.reduceEqDiff,reduceCtorEq,Nat.reduceAdd,Nat.reduceMul,Nat.reduceSub,Int.reduceLT,Int.reduceLE,Int.reduceToNat,Int.reduceAdd,Int.reduceSub,Int.reduceMul,ne_eq,decide_true,decide_false,tf13, he1]
        exact h w4 v2 v3 (by rw [hst]; exact hP3.grow g4) ((kw2.trans k3 (fun _ _ e => e) (fun q _ e => Or.inr e)).then_grow g4) (fun q hq => (f2 q hq).imp id (fun e => by omega)) (fun q hq => (f3 q hq).imp id (fun e => by omega))
      | false =>
        have h2 := of_decide_eq_false hk2
        simp -dsimp only [↓RE,RU,RL,if_true,if_false,forall_const,implies_true,Nat.reduceLeDiff,Nat.reduceLT,pureOp,binPure,intBin,strBin,eqPure,isConstO,unPure,sliceLo,sliceHi,slicePure,slice3Pure,lenPure,capPure,minPure,maxPure,buildP,resK,endV,yieldE,↓reduceIte,Nat.reduceEqDiff,reduceCtorEq,Nat.reduceAdd,Nat.reduceMul,Nat.reduceSub,Int.reduceLT,Int.reduceLE,Int.reduceToNat,Int.reduceAdd,Int.reduceSub,Int.reduceMul,ne_eq,decide_true,decide_false,tf13, hk2]
        rw [c_seq]
        cases hk3 : decide (o.k = 3) with
        | true =>
          have h3 := of_decide_eq_true hk3
          have hst : tStep l o = sLoad l o.l := by rw [tStep, if_neg h0, if_neg h1, if_neg h2, if_pos h3]
          have hol := hX.flat3
          simp -dsimp only [↓RE,RU,RL,if_true,if_false,forall_const,implies_true,Nat.reduceLeDiff,Nat.reduceLT,pureOp,binPure,intBin,strBin,eqPure,isConstO,unPure,sliceLo,sliceHi,slicePure,slice3Pure,lenPure,capPure,minPure,maxPure,buildP,resK,endV,yieldE,↓reduceIte,Nat.reduceEqDiff,reduceCtorEq,Nat.reduceAdd,Nat.reduceMul,Nat.reduceSub,Int.reduceLT,Int.reduceLE,Int.reduceToNat,Int.reduceAdd,Int.reduceSub,Int.reduceMul,ne_eq,decide_true,decide_false,tf13, hk3]
          rw [c_seq]
          simp -dsimp only [↓RE,RU,RL,if_true,if_false,forall_const,implies_true,Nat.reduceLeDiff,Nat.reduceLT,pureOp,binPure,intBin,strBin,eqPure,isConstO,unPure,sliceLo,sliceHi,slicePure,slice3Pure,lenPure,capPure,minPure,maxPure,buildP,resK,endV,yieldE,↓reduceIte,Nat.reduceEqDiff,reduceCtorEq,Nat.reduceAdd,Nat.reduceMul,Nat.reduceSub,Int.reduceLT,Int.reduceLE,Int.reduceToNat,Int.reduceAdd,Int.reduceSub,Int.reduceMul,ne_eq,decide_true,decide_false,tf13, he5, add_lit', Nat.zero_add, c5]
          refine hands_ok (hX.grow g1) (by omega) (fun w2 H hH g2 hgH => ?_)
          have hP2 := hP1.grow g2
          have hlt1 := hP1.lt
          have hbw2 := hb.grow g2
          have hH2 : Rd w2 (some ⟨H, 0, none⟩) o.m 3 (o.l.flatMap scells) := blk_front hH hol
          simp -dsimp only [↓RE,RU,RL,if_true,if_false,forall_const,implies_true,Nat.reduceLeDiff,Nat.reduceLT,pureOp,binPure,intBin,strBin,eqPure,isConstO,unPure,sliceLo,sliceHi,slicePure,slice3Pure,lenPure,capPure,minPure,maxPure,buildP,resK,endV,yieldE,↓reduceIte,Nat.reduceEqDiff,reduceCtorEq,Nat.reduceAdd,Nat.reduceMul,Nat.reduceSub,Int.reduceLT,Int.reduceLE,Int.reduceToNat,Int.reduceAdd,Int.reduceSub,Int.reduceMul,ne_eq,decide_true,decide_false,tf13, he5]
          rw [c_seq]
          simp -dsimp only [↓RE,RU,RL,if_true,if_false,forall_const,implies_true,Nat.reduceLeDiff,Nat.reduceLT,pureOp,binPure,intBin,strBin,eqPure,isConstO,unPure,sliceLo,sliceHi,slicePure,slice3Pure,lenPure,capPure,minPure,maxPure,buildP,resK,endV,yieldE,↓reduceIte,Nat.reduceEqDiff,reduceCtorEq,Nat.reduceAdd,Nat.reduceMul,Nat.reduceSub,Int.reduceLT,Int.reduceLE,Int.reduceToNat,Int.reduceAdd,Int.reduceSub,Int.reduceMul,ne_eq,decide_true,decide_false,tf13, he0]
          refine sld_ok hP2.s hH2 (fun _ q hq => ?_) (by omega) (fun w3 v3 A3 a3 hS3 k3 f3 hD3 hF3 => ?_)
          · obtain ⟨ad, he, rfl⟩ := hq
            injection he with he
            subst he
            refine ⟨fun e => ?_, fun e => ?_⟩
            · have := hP1.s.b.lt; simp only at e; omega
            · have := hP1.s.row.lt _ e; simp only at this; omega
          have hP3 := hP2.sStep hS3 k3 f3
          have hnH : ¬ Fp g v g' v' H := fun e => by have := hlt1 H e; omega
          have hH3 := hH.keep k3 (fun e => hnH (.inl e))
          have kw3 : Keep (Fp g v g' v') w w3 := (g1.trans g2).above' k3 (fun q _ e => Or.inl e)
          have hbw3 := hbw2.keep k3 (fun e => no1 (.inl e))
          have d5 : w3.cell? ⟨w.heap.size, 5, none⟩ = some (.slice o.A o.m o.c) := (hbw3.cell 5).trans rfl
          have hX3 : Rd w3 o.A o.m 3 (o.l.flatMap scells) := hX.keep0 kw3 (fun h0 q hq e => hap h0 q hq e)
          refine os_gen (fun e' => e' 1 = .pointer (some ⟨g', 0, none⟩) ∧ e' 5 = .pointer (some ⟨w.heap.size, 0, none⟩) ∧ e' 16 = .slice (some ⟨H, 0, none⟩) o.m (o.m + 9) ∧ e' 97 = .slice A3 (loadD l o.l).length a3) ⟨?_, ?_, ?_, ?_⟩ ?_
          · simp -dsimp only [↓RE,RU,RL,if_true,if_false,↓reduceIte,Nat.reduceEqDiff,reduceCtorEq,decide_true,decide_false, he1]
          · simp -dsimp only [↓RE,RU,RL,if_true,if_false,↓reduceIte,Nat.reduceEqDiff,reduceCtorEq,decide_true,decide_false, he5]
          · simp -dsimp only [↓RE,RU,RL,if_true,if_false,↓reduceIte,Nat.reduceEqDiff,reduceCtorEq,decide_true,decide_false, he0]
          · simp -dsimp only [↓RE,RU,RL,if_true,if_false,↓reduceIte,Nat.reduceEqDiff,reduceCtorEq,decide_true,decide_false, he0]
          clear he0 he1 he5 e
          rintro e ⟨he1, he5, he16, he97⟩
          simp -dsimp only [↓RE,RU,RL,if_true,if_false,forall_const,implies_true,Nat.reduceLeDiff,Nat.reduceLT,pureOp,binPure,intBin,strBin,eqPure,isConstO,unPure,sliceLo,sliceHi,slicePure,slice3Pure,lenPure,capPure,minPure,maxPure,buildP,resK,endV,yieldE,↓reduceIte,Nat.reduceEqDiff,reduceCtorEq,Nat.reduceAdd,Nat.reduceMul,Nat.reduceSub,Int.reduceLT,Int.reduceLE,Int.reduceToNat,Int.reduceAdd,Int.reduceSub,Int.reduceMul,ne_eq,decide_true,decide_false,tf13, he97]
          rw [c_seq]
          simp -dsimp only [↓RE,RU,RL,if_true,if_false,forall_const,implies_true,Nat.reduceLeDiff,Nat.reduceLT,pureOp,binPure,intBin,strBin,eqPure,isConstO,unPure,sliceLo,sliceHi,slicePure,slice3Pure,lenPure,capPure,minPure,maxPure,buildP,resK,endV,yieldE,↓reduceIte,Nat.reduceEqDiff,reduceCtorEq,Nat.reduceAdd,Nat.reduceMul,Nat.reduceSub,Int.reduceLT,Int.reduceLE,Int.reduceToNat,Int.reduceAdd,Int.reduceSub,Int.reduceMul,ne_eq,decide_true,decide_false,tf13, he1, he5, add_lit', Nat.zero_add, d5]
          refine rload_ok hP3.r hX3 (fun h0 q hq => ⟨fun e => hap h0 q hq (.inr (.inl e)), fun e => hap h0 q hq (.inr (.inr e))⟩) (by omega) (fun w4 v4 A4 a4 hR4 k4 f4 hD4 hF4 => ?_)
          have hP4 := hP3.rStep hR4 k4 f4
          have kw4 : Keep (Fp g v g' v') w w4 := kw3.trans k4 (fun _ _ e => e) (fun q _ e => Or.inr e)
          have hs12 := g2.size
          have hs2 := k3.size
          have hs4 := k4.size
          have hlt := hP.lt
          have hD34 := hD3.keep k4 (fun q hq e => by
            have h1 := hF3 q ((fpV_fpA _ _ _ _).1 hq)
            have := hlt q (.inr e)
            omega)
          have hH4 := hH3.keep k4 (fun e => hnH (.inr e))
          have hbw4 := hbw3.keep k4 (fun e => no1 (.inr e))
          have hX4 : Rd w4 o.A o.m 3 (o.l.flatMap scells) := hX.keep0 kw4 (fun h0 q hq e => hap h0 q hq e)
          have hdl : (loadD l o.l).length ≤ 140737488355328 := by
            have := hD4.form
            obtain ⟨_, cc, _, hc1, _⟩ := this
            exact loadD_len l o.l (by omega)
          simp -dsimp only [↓RE,RU,RL,if_true,if_false,forall_const,implies_true,Nat.reduceLeDiff,Nat.reduceLT,pureOp,binPure,intBin,strBin,eqPure,isConstO,unPure,sliceLo,sliceHi,slicePure,slice3Pure,lenPure,capPure,minPure,maxPure,buildP,resK,endV,yieldE,↓reduceIte,Nat.reduceEqDiff,reduceCtorEq,Nat.reduceAdd,Nat.reduceMul,Nat.reduceSub,Int.reduceLT,Int.reduceLE,Int.reduceToNat,Int.reduceAdd,Int.reduceSub,Int.reduceMul,ne_eq,decide_true,decide_false,tf13, he97]
          refine msameDeltas_ok hD34.rd hD4.rd hdl (fun w5 g5 => ?_)
          have d5' : w5.cell? ⟨w.heap.size, 5, none⟩ = some (.slice o.A o.m o.c) := ((hbw4.grow g5).cell 5).trans rfl
          simp -dsimp only [↓RE,RU,RL,if_true,if_false,forall_const,implies_true,Nat.reduceLeDiff,Nat.reduceLT,pureOp,binPure,intBin,strBin,eqPure,isConstO,unPure,sliceLo,sliceHi,slicePure,slice3Pure,lenPure,capPure,minPure,maxPure,buildP,resK,endV,yieldE,↓reduceIte,Nat.reduceEqDiff,reduceCtorEq,Nat.reduceAdd,Nat.reduceMul,Nat.reduceSub,Int.reduceLT,Int.reduceLE,Int.reduceToNat,Int.reduceAdd,Int.reduceSub,Int.reduceMul,ne_eq,decide_true,decide_false,tf13, he5, he16, add_lit', Nat.zero_add, d5']
          refine kepts_ok (hH4.grow g5) (hX4.grow g5) (by omega) (fun w6 g6 => ?_)
          have hP6 := hP4.grow (g5.trans g6)
          have kw6 : Keep (Fp g v g' v') w w6 := kw4.then_grow (g5.trans g6)
          have hH6 := hH4.grow (g5.trans g6)
          have hml : (o.l ++ markS).length = o.m + 9 := by rw [List.length_append, hol]; rfl
          have hHlt := hH6.lt
          refine os_gen (fun e' => e' 16 = .slice (some ⟨H, 0, none⟩) o.m (o.m + 9) ∧ e' 104 = .bool true ∧ e' 108 = .bool true) ⟨?_, ?_, ?_⟩ ?_
          · simp -dsimp only [↓RE,RU,RL,if_true,if_false,↓reduceIte,Nat.reduceEqDiff,reduceCtorEq,decide_true,decide_false, he16]
          · simp -dsimp only [↓RE,RU,RL,if_true,if_false,↓reduceIte,Nat.reduceEqDiff,reduceCtorEq,decide_true,decide_false, he5]
          · simp -dsimp only [↓RE,RU,RL,if_true,if_false,↓reduceIte,Nat.reduceEqDiff,reduceCtorEq,decide_true,decide_false, he5]
          clear he1 he5 he16 he97 e
          rintro e ⟨he16, he104, he108⟩
          simp -dsimp only [↓RE,RU,RL,if_true,if_false,forall_const,implies_true,Nat.reduceLeDiff,Nat.reduceLT,pureOp,binPure,intBin,strBin,eqPure,isConstO,unPure,sliceLo,sliceHi,slicePure,slice3Pure,lenPure,capPure,minPure,maxPure,buildP,resK,endV,yieldE,↓reduceIte,Nat.reduceEqDiff,reduceCtorEq,Nat.reduceAdd,Nat.reduceMul,Nat.reduceSub,Int.reduceLT,Int.reduceLE,Int.reduceToNat,Int.reduceAdd,Int.reduceSub,Int.reduceMul,ne_eq,decide_true,decide_false,tf13, he104, he108]
          refine c_seq_cut (fun e' w' => e' 18 = .bool true ∧ Keep (fun q => q = H) w6 w') ?_ ?_
          · rw [c_seq]
            simp -dsimp only [↓RE,RU,RL,if_true,if_false,forall_const,implies_true,Nat.reduceLeDiff,Nat.reduceLT,pureOp,binPure,intBin,strBin,eqPure,isConstO,unPure,sliceLo,sliceHi,slicePure,slice3Pure,lenPure,capPure,minPure,maxPure,buildP,resK,endV,yieldE,↓reduceIte,Nat.reduceEqDiff,reduceCtorEq,Nat.reduceAdd,Nat.reduceMul,Nat.reduceSub,Int.reduceLT,Int.reduceLE,Int.reduceToNat,Int.reduceAdd,Int.reduceSub,Int.reduceMul,ne_eq,decide_true,decide_false,tf13, he16]
            refine wpLoop_intro (fun e' w' => e' 16 = .slice (some ⟨H, 0, none⟩) o.m (o.m + 9) ∧ e' 18 = .bool true ∧ ∃ (k : Nat) (L : List Smp), k ≤ o.m ∧ e' 19 = .int .i64 k ∧ L.length = o.m + 9 ∧ Blk w' H 89 (L.flatMap scells) ∧ Keep (fun q => q = H) w6 w')
              (fun e' _ => o.m - (envInt (e' 19)).toNat) ⟨?_, ?_, 0, _, Nat.zero_le _, ?_, hml, hH6, Keep.refl _ _⟩ ?_
            · simp -dsimp only [↓RE,RU,RL,if_true,if_false,↓reduceIte,Nat.reduceEqDiff,reduceCtorEq,decide_true,decide_false, he16]
            · simp -dsimp only [↓RE,RU,RL,if_true,if_false,↓reduceIte,Nat.reduceEqDiff,reduceCtorEq,decide_true,decide_false, he16]
            · simp -dsimp only [↓RE,RU,RL,if_true,if_false,↓reduceIte,Nat.reduceEqDiff,reduceCtorEq,decide_true,decide_false, he16, Int.cast_ofNat_Int]
            clear he16 he104 he108
            rintro e' w' ⟨he16, he18, k, L, hk, he19, hLl, hB, hK⟩
            try simp -dsimp only [↓RE,↓c_seq,RU,RL,if_true,if_false,forall_const,implies_true,Nat.reduceLeDiff,Nat.reduceLT,pureOp,binPure,intBin,strBin,eqPure,isConstO,unPure,sliceLo,sliceHi,slicePure,slice3Pure,lenPure,capPure,minPure,maxPure,buildP,resK,endV,yieldE,↓reduceIte,Nat.reduceEqDiff,reduceCtorEq,Nat.reduceAdd,Nat.reduceMul,Nat.reduceSub,Int.reduceLT,Int.reduceLE,Int.reduceToNat,Int.reduceAdd,Int.reduceSub,Int.reduceMul,ne_eq,decide_true,decide_false,tf13, he16, he19]
            refine ⟨fun hlt2 => ?_, fun hge => ?_⟩
            · have hkm : k < o.m := by omega
              have hw2 : IntKind.i64.wrap ((k : Int) + 1) = ((k + 1 : Nat) : Int) := by rw [wrap_i64_in (by omega) (by omega)]; omega
              try simp -dsimp only [↓RE,↓c_seq,RU,RL,if_true,if_false,forall_const,implies_true,Nat.reduceLeDiff,Nat.reduceLT,pureOp,binPure,intBin,strBin,eqPure,isConstO,unPure,sliceLo,sliceHi,slicePure,slice3Pure,lenPure,capPure,minPure,maxPure,buildP,resK,endV,yieldE,↓reduceIte,Nat.reduceEqDiff,reduceCtorEq,Nat.reduceAdd,Nat.reduceMul,Nat.reduceSub,Int.reduceLT,Int.reduceLE,Int.reduceToNat,Int.reduceAdd,Int.reduceSub,Int.reduceMul,ne_eq,decide_true,decide_false,tf13, he16, he19, add_lit', Nat.zero_add]
              refine ⟨by omega, ?_⟩
              refine blk_smp_set hB (k := k) (by omega) (77, 0, 0) (fun w7 hB7 k7 => ?_)
              try simp -dsimp only [↓RE,↓c_seq,RU,RL,if_true,if_false,forall_const,implies_true,Nat.reduceLeDiff,Nat.reduceLT,pureOp,binPure,intBin,strBin,eqPure,isConstO,unPure,sliceLo,sliceHi,slicePure,slice3Pure,lenPure,capPure,minPure,maxPure,buildP,resK,endV,yieldE,↓reduceIte,Nat.reduceEqDiff,reduceCtorEq,Nat.reduceAdd,Nat.reduceMul,Nat.reduceSub,Int.reduceLT,Int.reduceLE,Int.reduceToNat,Int.reduceAdd,Int.reduceSub,Int.reduceMul,ne_eq,decide_true,decide_false,tf13, he19, hw2]
              refine hold_intro ⟨⟨by simp -dsimp only [↓RE,RU,RL,if_true,if_false,↓reduceIte,Nat.reduceEqDiff,reduceCtorEq,decide_true,decide_false, he16], by simp -dsimp only [↓RE,RU,RL,if_true,if_false,↓reduceIte,Nat.reduceEqDiff,reduceCtorEq,decide_true,decide_false, he18], k + 1, _, by omega, by simp -dsimp only [↓RE,RU,RL,if_true,if_false,↓reduceIte,Nat.reduceEqDiff,reduceCtorEq,decide_true,decide_false, he19, hw2], by rw [List.length_set]; exact hLl, hB7, hK.trans k7 (fun _ _ e => e) (fun _ _ e => e)⟩, ?_⟩
              simp -dsimp only [↓RE,↓c_seq,RU,RL,if_true,if_false,forall_const,implies_true,Nat.reduceLeDiff,Nat.reduceLT,pureOp,binPure,intBin,strBin,eqPure,isConstO,unPure,sliceLo,sliceHi,slicePure,slice3Pure,lenPure,capPure,minPure,maxPure,buildP,resK,endV,yieldE,↓reduceIte,Nat.reduceEqDiff,reduceCtorEq,Nat.reduceAdd,Nat.reduceMul,Nat.reduceSub,Int.reduceLT,Int.reduceLE,Int.reduceToNat,Int.reduceAdd,Int.reduceSub,Int.reduceMul,ne_eq,decide_true,decide_false,tf13, he19, hw2]
              simp only [envInt_int]; omega
            · exact hold_intro ⟨by simp -dsimp only [↓RE,RU,RL,if_true,if_false,↓reduceIte,Nat.reduceEqDiff,reduceCtorEq,decide_true,decide_false, he18], hK⟩
          · clear he16 he104 he108 e
            rintro e w7 ⟨he18, k7⟩
            have hP7 := hP6.keep k7 (fun q hq e => by
              subst e
              rcases hq with (hq | hq) | (hq | hq)
              · exact hnH (.inl (.inl hq))
              · rcases f3 q hq with e | e
                · exact hnH (.inl (.inr e))
                · have := hH.lt; omega
              · exact hnH (.inr (.inl hq))
              · rcases f4 q hq with e | e
                · exact hnH (.inr (.inr e))
                · have := hH.lt; omega)
            try simp -dsimp only [↓RE,↓c_seq,RU,RL,if_true,if_false,forall_const,implies_true,Nat.reduceLeDiff,Nat.reduceLT,pureOp,binPure,intBin,strBin,eqPure,isConstO,unPure,sliceLo,sliceHi,slicePure,slice3Pure,lenPure,capPure,minPure,maxPure,buildP,resK,endV,yieldE,↓reduceIte,Nat.reduceEqDiff,reduceCtorEq,Nat.reduceAdd,Nat.reduceMul,Nat.reduceSub,Int.reduceLT,Int.reduceLE,Int.reduceToNat,Int.reduceAdd,Int.reduceSub,Int.reduceMul,ne_eq,decide_true,decide_false,tf13, he18]
            refine h w7 v3 v4 (by rw [hst]; exact hP7) (kw6.trans k7 (fun _ _ e => e) (fun q hq e => by subst e; omega)) (fun q hq => (f3 q hq).imp id (fun e => by omega)) (fun q hq => (f4 q hq).imp id (fun e => by omega))
        | false =>
          have h3 := of_decide_eq_false hk3
          have hst : tStep l o = l := by rw [tStep, if_neg h0, if_neg h1, if_neg h2, if_neg h3]
          try simp -dsimp only [↓RE,↓c_seq,RU,RL,if_true,if_false,forall_const,implies_true,Nat.reduceLeDiff,Nat.reduceLT,pureOp,binPure,intBin,strBin,eqPure,isConstO,unPure,sliceLo,sliceHi,slicePure,slice3Pure,lenPure,capPure,minPure,maxPure,buildP,resK,endV,yieldE,↓reduceIte,Nat.reduceEqDiff,reduceCtorEq,Nat.reduceAdd,Nat.reduceMul,Nat.reduceSub,Int.reduceLT,Int.reduceLE,Int.reduceToNat,Int.reduceAdd,Int.reduceSub,Int.reduceMul,ne_eq,decide_true,decide_false,tf13, hk3]
          exact h w1 v v' (by rw [hst]; exact hP1) (g1.mono (fun _ _ e => e.elim)) (fun q hq => .inl hq) (fun q hq => .inl hq)

end Go.Proofs.YtcnebgokbjpjnaaGreat
