/- The document's series: New, ahead, Get, at, Len, First, Last, Before, Behind, and the program's. -/
import Derived.Test.YtcnebgokbjpjnaaGreatSdl
set_option linter.unusedVariables false
set_option linter.unusedSimpArgs false
set_option maxRecDepth 100000
namespace Go.Proofs.YtcnebgokbjpjnaaGreat
open Go

structure RefAt (w : World) (g : Nat) (v : Value) (l : List Smp) : Prop where
  b : Blk w g 84 [v]
  row : SRow w v l
  rise : Rise l
theorem RefAt.ne {w : World} {g : Nat} {v : Value} {l : List Smp} (h : RefAt w g v l) : ¬ fpV v g := h.row.blk_ne h.b (by decide)
theorem RefAt.keep {F : Nat → Prop} {w w' : World} {g : Nat} {v : Value} {l : List Smp} (h : RefAt w g v l) (hk : Keep F w w') (h1 : ¬ F g) (h2 : ∀ k, fpV v k → ¬ F k) : RefAt w' g v l :=
  ⟨h.b.keep hk h1, h.row.keep hk h2, h.rise⟩
theorem RefAt.grow {w w' : World} {g : Nat} {v : Value} {l : List Smp} (h : RefAt w g v l) (hk : Grow w w') : RefAt w' g v l := h.keep hk (fun h => h) (fun _ _ h => h)
theorem RefAt.cell {w : World} {g : Nat} {v : Value} {l : List Smp} (h : RefAt w g v l) : w.cell? ⟨g, 0, none⟩ = some v := (h.b.cell 0).trans rfl
/-- how many lie ahead of a time. -/
def aheadN (l : List Smp) (t : Int) : Nat := (l.filter (fun s => decide (s.1 < t))).length
theorem Stand.ahead {l : List Smp} {t : Int} {i : Nat} (h : Stand l t i) : aheadN l t = i := by
  rw [aheadN, h.take, List.length_take]; have := h.le; omega
abbrev cS (s : Smp) : Value := .agg #[.int .i64 s.1, .int .u8 s.2.1, .int .i64 s.2.2]
/-- the sample of a number. -/
def nthV (l : List Smp) (z : Int) : Smp × Bool := if 0 ≤ z ∧ z < l.length then (l.getD z.toNat (0, 0, 0), true) else ((0, 0, 0), false)
theorem rsnew_ok {w : World} {R : VWK} (h : ∀ w', RefAt w' w.heap.size (.slice none 0 0) [] → Grow w w' → R (.pointer (some ⟨w.heap.size, 0, none⟩)) w') : CallsV Tryz.prog 6 [] w R := by
  have hb := Blk.new' w 84 #[.slice none 0 0]
  refine calls_of_wpC mixed Tryz.func6 rfl (by kernel_rfl) ?_
  intro e he
  clear he
  try simp -dsimp only [↓RE,↓c_seq,RU,RL,if_true,if_false,forall_const,implies_true,Nat.reduceLeDiff,Nat.reduceLT,pureOp,binPure,intBin,strBin,eqPure,isConstO,unPure,sliceLo,sliceHi,slicePure,slice3Pure,lenPure,capPure,minPure,maxPure,buildP,resK,endV,yieldE,↓reduceIte,Nat.reduceEqDiff,reduceCtorEq,Nat.reduceAdd,Nat.reduceMul,Nat.reduceSub,Int.reduceLT,Int.reduceLE,Int.reduceToNat,Int.reduceAdd,Int.reduceSub,Int.reduceMul,ne_eq,decide_true,decide_false,tf6, eq_self]
  exact h _ ⟨hb, LRow.nil _ _ _, Rise.nil⟩ (Grow.alloc w _)
theorem rlen_ok {w : World} {g : Nat} {v : Value} {l : List Smp} (hS : RefAt w g v l) {R : VWK} (h : R (.int .i64 l.length) w) : CallsV Tryz.prog 69 [.pointer (some ⟨g, 0, none⟩)] w R := by
  obtain ⟨A, c, rfl, hnc, hA⟩ := hS.row.form
  have hp := hS.cell
  refine calls_of_wpC mixed Tryz.func69 rfl (by kernel_rfl) ?_
  intro e he
  have he0 := he 0
  simp only [List.getD_cons_zero, List.getD_cons_succ] at he0
  clear he
  try simp -dsimp only [↓RE,↓c_seq,RU,RL,if_true,if_false,forall_const,implies_true,Nat.reduceLeDiff,Nat.reduceLT,pureOp,binPure,intBin,strBin,eqPure,isConstO,unPure,sliceLo,sliceHi,slicePure,slice3Pure,lenPure,capPure,minPure,maxPure,buildP,resK,endV,yieldE,↓reduceIte,Nat.reduceEqDiff,reduceCtorEq,Nat.reduceAdd,Nat.reduceMul,Nat.reduceSub,Int.reduceLT,Int.reduceLE,Int.reduceToNat,Int.reduceAdd,Int.reduceSub,Int.reduceMul,ne_eq,decide_true,decide_false,tf69, he0, hp]
  exact h
theorem ahead_ok {w : World} {g : Nat} {v : Value} {l : List Smp} (hS : RefAt w g v l) (hn : l.length ≤ 5864062014634) {t : Int} {R : VWK} (h : ∀ i, Stand l t i → R (.int .i64 (i : Nat)) w) :
    CallsV Tryz.prog 76 [.pointer (some ⟨g, 0, none⟩), .int .i64 t] w R := by
  obtain ⟨A, c, rfl, hnc, hA⟩ := hS.row.form
  have hp := hS.cell
  refine calls_of_wpC mixed Tryz.func76 rfl (by kernel_rfl) ?_
  intro e he
  have he0 := he 0
  have he1 := he 1
  simp only [List.getD_cons_zero, List.getD_cons_succ] at he0 he1
  clear he
  try simp -dsimp only [↓RE,↓c_seq,RU,RL,if_true,if_false,forall_const,implies_true,Nat.reduceLeDiff,Nat.reduceLT,pureOp,binPure,intBin,strBin,eqPure,isConstO,unPure,sliceLo,sliceHi,slicePure,slice3Pure,lenPure,capPure,minPure,maxPure,buildP,resK,endV,yieldE,↓reduceIte,Nat.reduceEqDiff,reduceCtorEq,Nat.reduceAdd,Nat.reduceMul,Nat.reduceSub,Int.reduceLT,Int.reduceLE,Int.reduceToNat,Int.reduceAdd,Int.reduceSub,Int.reduceMul,ne_eq,decide_true,decide_false,tf76, he0, he1]
  refine wpLoop_intro (fun e' w' => e' 0 = .pointer (some ⟨g, 0, none⟩) ∧ e' 1 = .int .i64 t ∧ w = w' ∧ ∃ i : Nat, i ≤ l.length ∧ e' 5 = .int .i64 i ∧ ∀ k, k < i → (l.getD k (0, 0, 0)).1 < t) (fun e' _ => l.length - (envInt (e' 5)).toNat) ⟨?_, ?_, rfl, 0, Nat.zero_le _, ?_, fun k hk => absurd hk (by omega)⟩ ?_
  · simp -dsimp only [↓RE,RU,RL,if_true,if_false,↓reduceIte,Nat.reduceEqDiff,reduceCtorEq,decide_true,decide_false, he0]
  · simp -dsimp only [↓RE,RU,RL,if_true,if_false,↓reduceIte,Nat.reduceEqDiff,reduceCtorEq,decide_true,decide_false, he1]
  · simp -dsimp only [↓RE,RU,RL,if_true,if_false,↓reduceIte,Nat.reduceEqDiff,reduceCtorEq,decide_true,decide_false, he0, Int.cast_ofNat_Int]
  clear he0 he1
  rintro e' w' ⟨he0, he1, rfl, i, hi, he5, hlo⟩
  rcases Nat.lt_or_ge i l.length with hil | hil
  · obtain ⟨ad, rfl, hca, hcv, hcs⟩ := hS.row.rd.smp (k := i) hil
    have hd1 : decide ((i : Int) < (l.length : Int)) = true := decide_eq_true (by omega)
    have hw1 : IntKind.i64.wrap ((i : Int) + 1) = ((i + 1 : Nat) : Int) := by rw [wrap_i64_in (by omega) (by omega)]; omega
    cases hlt : decide ((l.getD i (0, 0, 0)).1 < t) with
    | true =>
      have hlt' := of_decide_eq_true hlt
      try simp -dsimp only [↓RE,↓c_seq,RU,RL,if_true,if_false,forall_const,implies_true,Nat.reduceLeDiff,Nat.reduceLT,pureOp,binPure,intBin,strBin,eqPure,isConstO,unPure,sliceLo,sliceHi,slicePure,slice3Pure,lenPure,capPure,minPure,maxPure,buildP,resK,endV,yieldE,↓reduceIte,Nat.reduceEqDiff,reduceCtorEq,Nat.reduceAdd,Nat.reduceMul,Nat.reduceSub,Int.reduceLT,Int.reduceLE,Int.reduceToNat,Int.reduceAdd,Int.reduceSub,Int.reduceMul,ne_eq,decide_true,decide_false,tf76, he0, he1, he5, hp, hd1, hca, hlt, add_zero']
      refine ⟨by omega, ?_⟩
      try simp -dsimp only [↓RE,↓c_seq,RU,RL,if_true,if_false,forall_const,implies_true,Nat.reduceLeDiff,Nat.reduceLT,pureOp,binPure,intBin,strBin,eqPure,isConstO,unPure,sliceLo,sliceHi,slicePure,slice3Pure,lenPure,capPure,minPure,maxPure,buildP,resK,endV,yieldE,↓reduceIte,Nat.reduceEqDiff,reduceCtorEq,Nat.reduceAdd,Nat.reduceMul,Nat.reduceSub,Int.reduceLT,Int.reduceLE,Int.reduceToNat,Int.reduceAdd,Int.reduceSub,Int.reduceMul,ne_eq,decide_true,decide_false,tf76, he0, he1, he5, hp, hd1, hca, hlt, add_zero', hw1]
      refine hold_intro ⟨⟨?_, ?_, rfl, i + 1, by omega, ?_, fun k hk => ?_⟩, ?_⟩
      · simp -dsimp only [↓RE,RU,RL,if_true,if_false,↓reduceIte,Nat.reduceEqDiff,reduceCtorEq,decide_true,decide_false, he0]
      · simp -dsimp only [↓RE,RU,RL,if_true,if_false,↓reduceIte,Nat.reduceEqDiff,reduceCtorEq,decide_true,decide_false, he1]
      · simp -dsimp only [↓RE,RU,RL,if_true,if_false,↓reduceIte,Nat.reduceEqDiff,reduceCtorEq,decide_true,decide_false, he5, hw1]
      · rcases Nat.lt_or_eq_of_le (Nat.lt_succ_iff.1 hk) with hk | rfl
        · exact hlo k hk
        · exact hlt'
      · simp -dsimp only [↓RE,RU,RL,if_true,if_false,↓reduceIte,Nat.reduceEqDiff,reduceCtorEq,decide_true,decide_false, he5, hw1]
        simp only [envInt_int]; omega
    | false =>
      have hge := of_decide_eq_false hlt
      try simp -dsimp only [↓RE,↓c_seq,RU,RL,if_true,if_false,forall_const,implies_true,Nat.reduceLeDiff,Nat.reduceLT,pureOp,binPure,intBin,strBin,eqPure,isConstO,unPure,sliceLo,sliceHi,slicePure,slice3Pure,lenPure,capPure,minPure,maxPure,buildP,resK,endV,yieldE,↓reduceIte,Nat.reduceEqDiff,reduceCtorEq,Nat.reduceAdd,Nat.reduceMul,Nat.reduceSub,Int.reduceLT,Int.reduceLE,Int.reduceToNat,Int.reduceAdd,Int.reduceSub,Int.reduceMul,ne_eq,decide_true,decide_false,tf76, he0, he1, he5, hp, hd1, hca, hlt, add_zero']
      refine ⟨by omega, ?_⟩
      try simp -dsimp only [↓RE,↓c_seq,RU,RL,if_true,if_false,forall_const,implies_true,Nat.reduceLeDiff,Nat.reduceLT,pureOp,binPure,intBin,strBin,eqPure,isConstO,unPure,sliceLo,sliceHi,slicePure,slice3Pure,lenPure,capPure,minPure,maxPure,buildP,resK,endV,yieldE,↓reduceIte,Nat.reduceEqDiff,reduceCtorEq,Nat.reduceAdd,Nat.reduceMul,Nat.reduceSub,Int.reduceLT,Int.reduceLE,Int.reduceToNat,Int.reduceAdd,Int.reduceSub,Int.reduceMul,ne_eq,decide_true,decide_false,tf76, he0, he1, he5, hp, hd1, hca, hlt, add_zero']
      refine h i ⟨hi, hlo, fun j hj hjl => ?_⟩
      rcases Nat.lt_or_eq_of_le hj with hj | rfl
      · have := hS.rise.at i j hj hjl; omega
      · omega
  · have hd1 : decide ((i : Int) < (l.length : Int)) = false := decide_eq_false (by omega)
    try simp -dsimp only [↓RE,↓c_seq,RU,RL,if_true,if_false,forall_const,implies_true,Nat.reduceLeDiff,Nat.reduceLT,pureOp,binPure,intBin,strBin,eqPure,isConstO,unPure,sliceLo,sliceHi,slicePure,slice3Pure,lenPure,capPure,minPure,maxPure,buildP,resK,endV,yieldE,↓reduceIte,Nat.reduceEqDiff,reduceCtorEq,Nat.reduceAdd,Nat.reduceMul,Nat.reduceSub,Int.reduceLT,Int.reduceLE,Int.reduceToNat,Int.reduceAdd,Int.reduceSub,Int.reduceMul,ne_eq,decide_true,decide_false,tf76, he0, he1, he5, hp, hd1, undef]
    exact h i ⟨hi, hlo, fun j h1 h2 => absurd h2 (by omega)⟩
theorem rget_ok {w : World} {g : Nat} {v : Value} {l : List Smp} (hS : RefAt w g v l) (hn : l.length ≤ 5864062014634) {t : Int} {R : VWK} (h : ∀ w', Grow w w' → R (.tuple #[cV (sOld l t), .bool (sHas l t)]) w') :
    CallsV Tryz.prog 31 [.pointer (some ⟨g, 0, none⟩), .int .i64 t] w R := by
  obtain ⟨A, c, rfl, hnc, hA⟩ := hS.row.form
  have hb1 := Blk.new' w 61 #[.int .u8 0, .int .i64 0]
  have g1 := Grow.alloc w (.cells #[.int .u8 0, .int .i64 0] 61)
  have hS1 := hS.grow g1
  have hp1 := hS1.cell
  refine calls_of_wpC mixed Tryz.func31 rfl (by kernel_rfl) ?_
  intro e he
  have he0 := he 0
  have he1 := he 1
  simp only [List.getD_cons_zero, List.getD_cons_succ] at he0 he1
  clear he
  try simp -dsimp only [↓RE,↓c_seq,RU,RL,if_true,if_false,forall_const,implies_true,Nat.reduceLeDiff,Nat.reduceLT,pureOp,binPure,intBin,strBin,eqPure,isConstO,unPure,sliceLo,sliceHi,slicePure,slice3Pure,lenPure,capPure,minPure,maxPure,buildP,resK,endV,yieldE,↓reduceIte,Nat.reduceEqDiff,reduceCtorEq,Nat.reduceAdd,Nat.reduceMul,Nat.reduceSub,Int.reduceLT,Int.reduceLE,Int.reduceToNat,Int.reduceAdd,Int.reduceSub,Int.reduceMul,ne_eq,decide_true,decide_false,tf31, he0, he1]
  refine ahead_ok hS1 hn (fun i hst => ?_)
  have hlo := hst.get hS.rise
  rcases Nat.lt_or_ge i l.length with hil | hil
  · obtain ⟨ad, rfl, hca, hcv, hcs⟩ := hS1.row.rd.smp (k := i) hil
    have hd1 : decide ((i : Int) < (l.length : Int)) = true := decide_eq_true (by omega)
    cases heq : decide ((l.getD i (0, 0, 0)).1 = t) with
    | true =>
      have hat : isAt l t i = true := decide_eq_true ⟨hil, of_decide_eq_true heq⟩
      rw [hat, if_pos rfl] at hlo
      have e1 : sOld l t = (l.getD i (0, 0, 0)).2 := by rw [sOld, hlo]; rfl
      have e2 : sHas l t = true := by rw [sHas, hlo]; rfl
      rw [e1, e2] at h
      try simp -dsimp only [↓RE,↓c_seq,RU,RL,if_true,if_false,forall_const,implies_true,Nat.reduceLeDiff,Nat.reduceLT,pureOp,binPure,intBin,strBin,eqPure,isConstO,unPure,sliceLo,sliceHi,slicePure,slice3Pure,lenPure,capPure,minPure,maxPure,buildP,resK,endV,yieldE,↓reduceIte,Nat.reduceEqDiff,reduceCtorEq,Nat.reduceAdd,Nat.reduceMul,Nat.reduceSub,Int.reduceLT,Int.reduceLE,Int.reduceToNat,Int.reduceAdd,Int.reduceSub,Int.reduceMul,ne_eq,decide_true,decide_false,tf31, he0, he1, hp1, hd1, hca, heq, add_zero']
      refine ⟨by omega, ?_⟩
      try simp -dsimp only [↓RE,↓c_seq,RU,RL,if_true,if_false,forall_const,implies_true,Nat.reduceLeDiff,Nat.reduceLT,pureOp,binPure,intBin,strBin,eqPure,isConstO,unPure,sliceLo,sliceHi,slicePure,slice3Pure,lenPure,capPure,minPure,maxPure,buildP,resK,endV,yieldE,↓reduceIte,Nat.reduceEqDiff,reduceCtorEq,Nat.reduceAdd,Nat.reduceMul,Nat.reduceSub,Int.reduceLT,Int.reduceLE,Int.reduceToNat,Int.reduceAdd,Int.reduceSub,Int.reduceMul,ne_eq,decide_true,decide_false,tf31, he0, he1, hp1, hd1, hca, heq, add_zero']
      refine ⟨by omega, hcv ?_⟩
      try simp -dsimp only [↓RE,↓c_seq,RU,RL,if_true,if_false,forall_const,implies_true,Nat.reduceLeDiff,Nat.reduceLT,pureOp,binPure,intBin,strBin,eqPure,isConstO,unPure,sliceLo,sliceHi,slicePure,slice3Pure,lenPure,capPure,minPure,maxPure,buildP,resK,endV,yieldE,↓reduceIte,Nat.reduceEqDiff,reduceCtorEq,Nat.reduceAdd,Nat.reduceMul,Nat.reduceSub,Int.reduceLT,Int.reduceLE,Int.reduceToNat,Int.reduceAdd,Int.reduceSub,Int.reduceMul,ne_eq,decide_true,decide_false,tf31, he0, he1]
      refine blk_st2 hb1 rfl rfl (fun w3 hb3 k3 => ?_)
      try simp -dsimp only [↓RE,↓c_seq,RU,RL,if_true,if_false,forall_const,implies_true,Nat.reduceLeDiff,Nat.reduceLT,pureOp,binPure,intBin,strBin,eqPure,isConstO,unPure,sliceLo,sliceHi,slicePure,slice3Pure,lenPure,capPure,minPure,maxPure,buildP,resK,endV,yieldE,↓reduceIte,Nat.reduceEqDiff,reduceCtorEq,Nat.reduceAdd,Nat.reduceMul,Nat.reduceSub,Int.reduceLT,Int.reduceLE,Int.reduceToNat,Int.reduceAdd,Int.reduceSub,Int.reduceMul,ne_eq,decide_true,decide_false,tf31, he0, he1]
      refine blk_agg2 hb3 ?_
      try simp -dsimp only [↓RE,↓c_seq,RU,RL,if_true,if_false,forall_const,implies_true,Nat.reduceLeDiff,Nat.reduceLT,pureOp,binPure,intBin,strBin,eqPure,isConstO,unPure,sliceLo,sliceHi,slicePure,slice3Pure,lenPure,capPure,minPure,maxPure,buildP,resK,endV,yieldE,↓reduceIte,Nat.reduceEqDiff,reduceCtorEq,Nat.reduceAdd,Nat.reduceMul,Nat.reduceSub,Int.reduceLT,Int.reduceLE,Int.reduceToNat,Int.reduceAdd,Int.reduceSub,Int.reduceMul,ne_eq,decide_true,decide_false,tf31, he0, he1]
      exact h w3 (Keep.above g1 k3 (fun k hk e => by omega))
    | false =>
      have hat : isAt l t i = false := decide_eq_false (fun hh => of_decide_eq_false heq hh.2)
      rw [hat, if_neg (by simp)] at hlo
      have e1 : sOld l t = (0, 0) := by rw [sOld, hlo]; rfl
      have e2 : sHas l t = false := by rw [sHas, hlo]; rfl
      rw [e1, e2] at h
      try simp -dsimp only [↓RE,↓c_seq,RU,RL,if_true,if_false,forall_const,implies_true,Nat.reduceLeDiff,Nat.reduceLT,pureOp,binPure,intBin,strBin,eqPure,isConstO,unPure,sliceLo,sliceHi,slicePure,slice3Pure,lenPure,capPure,minPure,maxPure,buildP,resK,endV,yieldE,↓reduceIte,Nat.reduceEqDiff,reduceCtorEq,Nat.reduceAdd,Nat.reduceMul,Nat.reduceSub,Int.reduceLT,Int.reduceLE,Int.reduceToNat,Int.reduceAdd,Int.reduceSub,Int.reduceMul,ne_eq,decide_true,decide_false,tf31, he0, he1, hp1, hd1, hca, heq, add_zero']
      refine ⟨by omega, ?_⟩
      try simp -dsimp only [↓RE,↓c_seq,RU,RL,if_true,if_false,forall_const,implies_true,Nat.reduceLeDiff,Nat.reduceLT,pureOp,binPure,intBin,strBin,eqPure,isConstO,unPure,sliceLo,sliceHi,slicePure,slice3Pure,lenPure,capPure,minPure,maxPure,buildP,resK,endV,yieldE,↓reduceIte,Nat.reduceEqDiff,reduceCtorEq,Nat.reduceAdd,Nat.reduceMul,Nat.reduceSub,Int.reduceLT,Int.reduceLE,Int.reduceToNat,Int.reduceAdd,Int.reduceSub,Int.reduceMul,ne_eq,decide_true,decide_false,tf31, he0, he1, hp1, hd1, hca, heq, add_zero']
      refine blk_st2 hb1 rfl rfl (fun w3 hb3 k3 => ?_)
      try simp -dsimp only [↓RE,↓c_seq,RU,RL,if_true,if_false,forall_const,implies_true,Nat.reduceLeDiff,Nat.reduceLT,pureOp,binPure,intBin,strBin,eqPure,isConstO,unPure,sliceLo,sliceHi,slicePure,slice3Pure,lenPure,capPure,minPure,maxPure,buildP,resK,endV,yieldE,↓reduceIte,Nat.reduceEqDiff,reduceCtorEq,Nat.reduceAdd,Nat.reduceMul,Nat.reduceSub,Int.reduceLT,Int.reduceLE,Int.reduceToNat,Int.reduceAdd,Int.reduceSub,Int.reduceMul,ne_eq,decide_true,decide_false,tf31, he0, he1]
      refine blk_agg2 hb3 ?_
      try simp -dsimp only [↓RE,↓c_seq,RU,RL,if_true,if_false,forall_const,implies_true,Nat.reduceLeDiff,Nat.reduceLT,pureOp,binPure,intBin,strBin,eqPure,isConstO,unPure,sliceLo,sliceHi,slicePure,slice3Pure,lenPure,capPure,minPure,maxPure,buildP,resK,endV,yieldE,↓reduceIte,Nat.reduceEqDiff,reduceCtorEq,Nat.reduceAdd,Nat.reduceMul,Nat.reduceSub,Int.reduceLT,Int.reduceLE,Int.reduceToNat,Int.reduceAdd,Int.reduceSub,Int.reduceMul,ne_eq,decide_true,decide_false,tf31, he0, he1]
      exact h w3 (Keep.above g1 k3 (fun k hk e => by omega))
  · have hd1 : decide ((i : Int) < (l.length : Int)) = false := decide_eq_false (by omega)
    have hat : isAt l t i = false := decide_eq_false (fun hh => by omega)
    rw [hat, if_neg (by simp)] at hlo
    have e1 : sOld l t = (0, 0) := by rw [sOld, hlo]; rfl
    have e2 : sHas l t = false := by rw [sHas, hlo]; rfl
    rw [e1, e2] at h
    try simp -dsimp only [↓RE,↓c_seq,RU,RL,if_true,if_false,forall_const,implies_true,Nat.reduceLeDiff,Nat.reduceLT,pureOp,binPure,intBin,strBin,eqPure,isConstO,unPure,sliceLo,sliceHi,slicePure,slice3Pure,lenPure,capPure,minPure,maxPure,buildP,resK,endV,yieldE,↓reduceIte,Nat.reduceEqDiff,reduceCtorEq,Nat.reduceAdd,Nat.reduceMul,Nat.reduceSub,Int.reduceLT,Int.reduceLE,Int.reduceToNat,Int.reduceAdd,Int.reduceSub,Int.reduceMul,ne_eq,decide_true,decide_false,tf31, he0, he1, hp1, hd1, undef]
    refine blk_st2 hb1 rfl rfl (fun w3 hb3 k3 => ?_)
    try simp -dsimp only [↓RE,↓c_seq,RU,RL,if_true,if_false,forall_const,implies_true,Nat.reduceLeDiff,Nat.reduceLT,pureOp,binPure,intBin,strBin,eqPure,isConstO,unPure,sliceLo,sliceHi,slicePure,slice3Pure,lenPure,capPure,minPure,maxPure,buildP,resK,endV,yieldE,↓reduceIte,Nat.reduceEqDiff,reduceCtorEq,Nat.reduceAdd,Nat.reduceMul,Nat.reduceSub,Int.reduceLT,Int.reduceLE,Int.reduceToNat,Int.reduceAdd,Int.reduceSub,Int.reduceMul,ne_eq,decide_true,decide_false,tf31, he0, he1]
    refine blk_agg2 hb3 ?_
    try simp -dsimp only [↓RE,↓c_seq,RU,RL,if_true,if_false,forall_const,implies_true,Nat.reduceLeDiff,Nat.reduceLT,pureOp,binPure,intBin,strBin,eqPure,isConstO,unPure,sliceLo,sliceHi,slicePure,slice3Pure,lenPure,capPure,minPure,maxPure,buildP,resK,endV,yieldE,↓reduceIte,Nat.reduceEqDiff,reduceCtorEq,Nat.reduceAdd,Nat.reduceMul,Nat.reduceSub,Int.reduceLT,Int.reduceLE,Int.reduceToNat,Int.reduceAdd,Int.reduceSub,Int.reduceMul,ne_eq,decide_true,decide_false,tf31, he0, he1]
    exact h w3 (Keep.above g1 k3 (fun k hk e => by omega))

end Go.Proofs.YtcnebgokbjpjnaaGreat
