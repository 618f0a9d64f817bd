/- live; one step of a row of steps, read. -/
import Derived.Test.YtcnebgokbjpjnaaGreatSdl
import Derived.Test.YtcnebgokbjpjnaaGreatSlSpec
set_option linter.unusedVariables false
set_option linter.unusedSimpArgs false
set_option maxRecDepth 100000
namespace Go.Proofs.YtcnebgokbjpjnaaGreat
open Go

theorem Rd.steps_len {w : World} {A : Option Addr} {n : Nat} {ops : List StepV} (h : Rd w A n 6 (ops.flatMap StepV.cells)) : ops.length = n := by
  have h1 := h.1
  rw [flat_len StepV.cells (size := 6) ops (fun _ _ => rfl)] at h1
  omega
theorem Rd.stp {w : World} {A : Option Addr} {n : Nat} {ops : List StepV} (h : Rd w A n 6 (ops.flatMap StepV.cells)) {i : Nat} (hi : i < n) :
    ∃ ad, A = some ad ∧ w.cell? (ad.add (i * 6)) = some (.int .i64 (ops.getD i step0).k) ∧ w.cell? ((ad.add (i * 6)).add 1) = some (.int .i64 (ops.getD i step0).t) ∧ w.cell? ((ad.add (i * 6)).add 2) = some (.int .i64 (ops.getD i step0).u) ∧
      w.cell? ((ad.add (i * 6)).add 5) = some (.slice (ops.getD i step0).A (ops.getD i step0).m (ops.getD i step0).c) ∧
      (∀ {K : VK} {tk : Tok K}, K (cV (ops.getD i step0).v) → aggK w ((ad.add (i * 6)).add 3) (some 2) K tk) ∧
      (∀ {K : VK} {tk : Tok K}, K (.agg (ops.getD i step0).cells.toArray) → aggK w (ad.add (i * 6)) (some 6) K tk) := by
  have hl := h.steps_len
  have hg : ops[i]? = some (ops.getD i step0) := by rw [List.getD_eq_getElem?_getD, List.getElem?_eq_getElem (by omega)]; rfl
  obtain ⟨_, ad, hA, hc⟩ := h.flat (size := 6) (fun _ _ => rfl) hg (by omega)
  refine ⟨ad, hA, ?_, hc 1 _ rfl, hc 2 _ rfl, hc 5 _ rfl, fun hK => ⟨[.int .u8 (ops.getD i step0).v.1, .int .i64 (ops.getD i step0).v.2], rfl, fun j u hu => ?_, hK⟩, fun hK => ⟨(ops.getD i step0).cells, rfl, fun j u hu => hc j u hu, hK⟩⟩
  · have := hc 0 _ rfl
    rwa [add_zero'] at this
  · match j, hu with
    | 0, hu => simp at hu; subst hu; rw [add_zero']; exact hc 3 _ rfl
    | 1, hu => simp at hu; subst hu; rw [add_add']; rw [add_add']; exact (by have := hc 4 _ rfl; rwa [add_add'] at this)
theorem Rd.some {w : World} {A : Option Addr} {n size : Nat} {xs : List Value} (h : Rd w A n size xs) (hn : 0 < n) : ∃ ad, A = .some ad := by
  obtain ⟨ad, h, _⟩ := h.2 hn
  exact ⟨ad, h⟩
theorem Rd.stp' {w : World} {ad : Addr} {n : Nat} {ops : List StepV} (h : Rd w (.some ad) n 6 (ops.flatMap StepV.cells)) {i : Nat} (hi : i < n) :
    w.cell? (ad.add (i * 6)) = .some (.int .i64 (ops.getD i step0).k) ∧ w.cell? ((ad.add (i * 6)).add 1) = .some (.int .i64 (ops.getD i step0).t) ∧ w.cell? ((ad.add (i * 6)).add 2) = .some (.int .i64 (ops.getD i step0).u) ∧
      w.cell? ((ad.add (i * 6)).add 5) = .some (.slice (ops.getD i step0).A (ops.getD i step0).m (ops.getD i step0).c) ∧
      (∀ {K : VK} {tk : Tok K}, K (cV (ops.getD i step0).v) → aggK w ((ad.add (i * 6)).add 3) (.some 2) K tk) ∧
      (∀ {K : VK} {tk : Tok K}, K (.agg (ops.getD i step0).cells.toArray) → aggK w (ad.add (i * 6)) (.some 6) K tk) := by
  obtain ⟨ad', h1, h2⟩ := h.stp hi
  injection h1 with h1
  subst h1
  exact h2
theorem mine_k {w0 w1 w2 : World} {g : Nat} {v : Value} (g1 : Grow w0 w1) (k : Keep (fun q => q = g ∨ fpV v q) w1 w2) (hg : w0.heap.size ≤ g) (hv : ∀ q, fpV v q → w0.heap.size ≤ q) : Grow w0 w2 :=
  g1.above k (fun q hq e => by
    rcases e with e | e
    · omega
    · have := hv q e; omega)
theorem mine_f {w0 w1 : World} {v v' : Value} (g1 : Grow w0 w1) (f : ∀ q, fpV v' q → fpV v q ∨ w1.heap.size ≤ q) (hv : ∀ q, fpV v q → w0.heap.size ≤ q) : ∀ q, fpV v' q → w0.heap.size ≤ q := fun q hq => by
  have := g1.size
  rcases f q hq with e | e
  · exact hv q e
  · omega
theorem live_ok {w : World} {R : VWK} (h : ∀ w', Grow w w' → R (.bool true) w') : CallsV Tryz.prog 4 [] w R := by
  refine calls_of_wpC mixed Tryz.func4 rfl (by kernel_rfl) ?_
  intro e he
  clear he
  rw [c_seq]
  simp -dsimp only [↓RE,RU,RL,if_true,if_false,forall_const,implies_true,Nat.reduceLeDiff,Nat.reduceLT,pureOp,binPure,intBin,strBin,eqPure,isConstO,unPure,sliceLo,sliceHi,slicePure,slice3Pure,lenPure,capPure,minPure,maxPure,buildP,resK,endV,yieldE,↓reduceIte,Nat.reduceEqDiff,reduceCtorEq,Nat.reduceAdd,Nat.reduceMul,Nat.reduceSub,Int.reduceLT,Int.reduceLE,Int.reduceToNat,Int.reduceAdd,Int.reduceSub,Int.reduceMul,ne_eq,decide_true,decide_false,tf4, eq_self]
  rw [c_seq]
  simp -dsimp only [↓RE,RU,RL,if_true,if_false,forall_const,implies_true,Nat.reduceLeDiff,Nat.reduceLT,pureOp,binPure,intBin,strBin,eqPure,isConstO,unPure,sliceLo,sliceHi,slicePure,slice3Pure,lenPure,capPure,minPure,maxPure,buildP,resK,endV,yieldE,↓reduceIte,Nat.reduceEqDiff,reduceCtorEq,Nat.reduceAdd,Nat.reduceMul,Nat.reduceSub,Int.reduceLT,Int.reduceLE,Int.reduceToNat,Int.reduceAdd,Int.reduceSub,Int.reduceMul,ne_eq,decide_true,decide_false,tf4, eq_self]
  refine snew_ok (fun w1 hS1 g1 => ?_)
  simp -dsimp only [↓RE,RU,RL,if_true,if_false,forall_const,implies_true,Nat.reduceLeDiff,Nat.reduceLT,pureOp,binPure,intBin,strBin,eqPure,isConstO,unPure,sliceLo,sliceHi,slicePure,slice3Pure,lenPure,capPure,minPure,maxPure,buildP,resK,endV,yieldE,↓reduceIte,Nat.reduceEqDiff,reduceCtorEq,Nat.reduceAdd,Nat.reduceMul,Nat.reduceSub,Int.reduceLT,Int.reduceLE,Int.reduceToNat,Int.reduceAdd,Int.reduceSub,Int.reduceMul,ne_eq,decide_true,decide_false,tf4, eq_self]
  rw [c_seq]
  simp -dsimp only [↓RE,RU,RL,if_true,if_false,forall_const,implies_true,Nat.reduceLeDiff,Nat.reduceLT,pureOp,binPure,intBin,strBin,eqPure,isConstO,unPure,sliceLo,sliceHi,slicePure,slice3Pure,lenPure,capPure,minPure,maxPure,buildP,resK,endV,yieldE,↓reduceIte,Nat.reduceEqDiff,reduceCtorEq,Nat.reduceAdd,Nat.reduceMul,Nat.reduceSub,Int.reduceLT,Int.reduceLE,Int.reduceToNat,Int.reduceAdd,Int.reduceSub,Int.reduceMul,ne_eq,decide_true,decide_false,tf4, eq_self]
  refine sput_ok hS1 (by simp) (fun w2 v2 hS2 k2 f2 => ?_)
  have e1 : sPut [] 10 (0, 1) = [(10, (0, 1))] := rfl
  have e2 : sOld [] 10 = (0, 0) := rfl
  have e3 : sHas [] 10 = false := rfl
  rw [e1] at hS2
  have hv0 : ∀ q, fpV (.slice none 0 0) q → w.heap.size ≤ q := fun q hq => (fpV_none _ hq).elim
  have g2 := mine_k g1 k2 (Nat.le_refl _) hv0
  have hv2 := mine_f g1 f2 hv0
  rw [e2, e3]
  simp -dsimp only [↓RE,RU,RL,if_true,if_false,forall_const,implies_true,Nat.reduceLeDiff,Nat.reduceLT,pureOp,binPure,intBin,strBin,eqPure,isConstO,unPure,sliceLo,sliceHi,slicePure,slice3Pure,lenPure,capPure,minPure,maxPure,buildP,resK,endV,yieldE,↓reduceIte,Nat.reduceEqDiff,reduceCtorEq,Nat.reduceAdd,Nat.reduceMul,Nat.reduceSub,Int.reduceLT,Int.reduceLE,Int.reduceToNat,Int.reduceAdd,Int.reduceSub,Int.reduceMul,ne_eq,decide_true,decide_false,tf4, eq_self]
  refine new2 (fun w3 hb3 g3 => ?_) rfl rfl
  have g03 := g2.trans g3
  have hS3 := hS2.grow g3
  simp -dsimp only [↓RE,RU,RL,if_true,if_false,forall_const,implies_true,Nat.reduceLeDiff,Nat.reduceLT,pureOp,binPure,intBin,strBin,eqPure,isConstO,unPure,sliceLo,sliceHi,slicePure,slice3Pure,lenPure,capPure,minPure,maxPure,buildP,resK,endV,yieldE,↓reduceIte,Nat.reduceEqDiff,reduceCtorEq,Nat.reduceAdd,Nat.reduceMul,Nat.reduceSub,Int.reduceLT,Int.reduceLE,Int.reduceToNat,Int.reduceAdd,Int.reduceSub,Int.reduceMul,ne_eq,decide_true,decide_false,tf4, eq_self]
  rw [c_seq]
  simp -dsimp only [↓RE,RU,RL,if_true,if_false,forall_const,implies_true,Nat.reduceLeDiff,Nat.reduceLT,pureOp,binPure,intBin,strBin,eqPure,isConstO,unPure,sliceLo,sliceHi,slicePure,slice3Pure,lenPure,capPure,minPure,maxPure,buildP,resK,endV,yieldE,↓reduceIte,Nat.reduceEqDiff,reduceCtorEq,Nat.reduceAdd,Nat.reduceMul,Nat.reduceSub,Int.reduceLT,Int.reduceLE,Int.reduceToNat,Int.reduceAdd,Int.reduceSub,Int.reduceMul,ne_eq,decide_true,decide_false,tf4, eq_self]
  refine sput_ok hS3 (by simp) (fun w4 v4 hS4 k4 f4 => ?_)
  have e4 : sPut [(10, (0, 1))] 10 (0, 2) = [(10, (0, 2))] := rfl
  have e5 : sOld [(10, (0, 1))] 10 = (0, 1) := rfl
  have e6 : sHas [(10, (0, 1))] 10 = true := rfl
  rw [e4] at hS4
  have g4 := mine_k g03 k4 (Nat.le_refl _) hv2
  have hv4 := mine_f g03 f4 hv2
  rw [e5, e6]
  simp -dsimp only [↓RE,RU,RL,if_true,if_false,forall_const,implies_true,Nat.reduceLeDiff,Nat.reduceLT,pureOp,binPure,intBin,strBin,eqPure,isConstO,unPure,sliceLo,sliceHi,slicePure,slice3Pure,lenPure,capPure,minPure,maxPure,buildP,resK,endV,yieldE,↓reduceIte,Nat.reduceEqDiff,reduceCtorEq,Nat.reduceAdd,Nat.reduceMul,Nat.reduceSub,Int.reduceLT,Int.reduceLE,Int.reduceToNat,Int.reduceAdd,Int.reduceSub,Int.reduceMul,ne_eq,decide_true,decide_false,tf4, eq_self]
  refine new2 (fun w5 hb5 g5 => ?_) rfl rfl
  have hS5 := hS4.grow g5
  simp -dsimp only [↓RE,RU,RL,if_true,if_false,forall_const,implies_true,Nat.reduceLeDiff,Nat.reduceLT,pureOp,binPure,intBin,strBin,eqPure,isConstO,unPure,sliceLo,sliceHi,slicePure,slice3Pure,lenPure,capPure,minPure,maxPure,buildP,resK,endV,yieldE,↓reduceIte,Nat.reduceEqDiff,reduceCtorEq,Nat.reduceAdd,Nat.reduceMul,Nat.reduceSub,Int.reduceLT,Int.reduceLE,Int.reduceToNat,Int.reduceAdd,Int.reduceSub,Int.reduceMul,ne_eq,decide_true,decide_false,tf4, eq_self]
  rw [c_seq]
  simp -dsimp only [↓RE,RU,RL,if_true,if_false,forall_const,implies_true,Nat.reduceLeDiff,Nat.reduceLT,pureOp,binPure,intBin,strBin,eqPure,isConstO,unPure,sliceLo,sliceHi,slicePure,slice3Pure,lenPure,capPure,minPure,maxPure,buildP,resK,endV,yieldE,↓reduceIte,Nat.reduceEqDiff,reduceCtorEq,Nat.reduceAdd,Nat.reduceMul,Nat.reduceSub,Int.reduceLT,Int.reduceLE,Int.reduceToNat,Int.reduceAdd,Int.reduceSub,Int.reduceMul,ne_eq,decide_true,decide_false,tf4, eq_self]
  refine get_ok hS5 (by simp) (fun w6 g6 => ?_)
  have e7 : sOld [(10, (0, 2))] 10 = (0, 2) := rfl
  have e8 : sHas [(10, (0, 2))] 10 = true := rfl
  rw [e7, e8]
  simp -dsimp only [↓RE,RU,RL,if_true,if_false,forall_const,implies_true,Nat.reduceLeDiff,Nat.reduceLT,pureOp,binPure,intBin,strBin,eqPure,isConstO,unPure,sliceLo,sliceHi,slicePure,slice3Pure,lenPure,capPure,minPure,maxPure,buildP,resK,endV,yieldE,↓reduceIte,Nat.reduceEqDiff,reduceCtorEq,Nat.reduceAdd,Nat.reduceMul,Nat.reduceSub,Int.reduceLT,Int.reduceLE,Int.reduceToNat,Int.reduceAdd,Int.reduceSub,Int.reduceMul,ne_eq,decide_true,decide_false,tf4, eq_self]
  refine new2 (fun w7 hb7 g7 => ?_) rfl rfl
  have g57 := g6.trans g7
  have hS7 := hS5.grow g57
  have hb57 := hb5.grow g57
  have c5 : w7.cell? ⟨w4.heap.size, 1, none⟩ = some (.int .i64 1) := (hb57.cell 1).trans rfl
  have c7 : w7.cell? ⟨w6.heap.size, 1, none⟩ = some (.int .i64 2) := (hb7.cell 1).trans rfl
  refine os_gen (fun e' => e' 1 = .pointer (some ⟨w.heap.size, 0, none⟩) ∧ e' 3 = .bool false ∧ e' 4 = .pointer (some ⟨w4.heap.size, 0, none⟩) ∧ e' 5 = .bool true ∧ e' 6 = .pointer (some ⟨w6.heap.size, 0, none⟩) ∧ e' 25 = .bool true) ⟨?_, ?_, ?_, ?_, ?_, ?_⟩ ?_
  · simp -dsimp only [↓RE,RU,RL,if_true,if_false,↓reduceIte,Nat.reduceEqDiff,reduceCtorEq,decide_true,decide_false, eq_self]
  · simp -dsimp only [↓RE,RU,RL,if_true,if_false,↓reduceIte,Nat.reduceEqDiff,reduceCtorEq,decide_true,decide_false, eq_self]
  · simp -dsimp only [↓RE,RU,RL,if_true,if_false,↓reduceIte,Nat.reduceEqDiff,reduceCtorEq,decide_true,decide_false, eq_self]
  · simp -dsimp only [↓RE,RU,RL,if_true,if_false,↓reduceIte,Nat.reduceEqDiff,reduceCtorEq,decide_true,decide_false, eq_self]
  · simp -dsimp only [↓RE,RU,RL,if_true,if_false,↓reduceIte,Nat.reduceEqDiff,reduceCtorEq,decide_true,decide_false, eq_self]
  · simp -dsimp only [↓RE,RU,RL,if_true,if_false,↓reduceIte,Nat.reduceEqDiff,reduceCtorEq,decide_true,decide_false, eq_self]
  clear e
  rintro e ⟨he1, he3, he4, he5, he6, he25⟩
  simp -dsimp only [↓RE,RU,RL,if_true,if_false,forall_const,implies_true,Nat.reduceLeDiff,Nat.reduceLT,pureOp,binPure,intBin,strBin,eqPure,isConstO,unPure,sliceLo,sliceHi,slicePure,slice3Pure,lenPure,capPure,minPure,maxPure,buildP,resK,endV,yieldE,↓reduceIte,Nat.reduceEqDiff,reduceCtorEq,Nat.reduceAdd,Nat.reduceMul,Nat.reduceSub,Int.reduceLT,Int.reduceLE,Int.reduceToNat,Int.reduceAdd,Int.reduceSub,Int.reduceMul,ne_eq,decide_true,decide_false,tf4, he25]
  rw [c_seq]
  simp -dsimp only [↓RE,RU,RL,if_true,if_false,forall_const,implies_true,Nat.reduceLeDiff,Nat.reduceLT,pureOp,binPure,intBin,strBin,eqPure,isConstO,unPure,sliceLo,sliceHi,slicePure,slice3Pure,lenPure,capPure,minPure,maxPure,buildP,resK,endV,yieldE,↓reduceIte,Nat.reduceEqDiff,reduceCtorEq,Nat.reduceAdd,Nat.reduceMul,Nat.reduceSub,Int.reduceLT,Int.reduceLE,Int.reduceToNat,Int.reduceAdd,Int.reduceSub,Int.reduceMul,ne_eq,decide_true,decide_false,tf4, he1, he3, he4, he5, he6, he25, add_lit', c5, c7, eq_self, Nat.zero_add]
  refine slen_ok hS7 ?_
  simp -dsimp only [↓RE,RU,RL,if_true,if_false,forall_const,implies_true,Nat.reduceLeDiff,Nat.reduceLT,pureOp,binPure,intBin,strBin,eqPure,isConstO,unPure,sliceLo,sliceHi,slicePure,slice3Pure,lenPure,capPure,minPure,maxPure,buildP,resK,endV,yieldE,↓reduceIte,Nat.reduceEqDiff,reduceCtorEq,Nat.reduceAdd,Nat.reduceMul,Nat.reduceSub,Int.reduceLT,Int.reduceLE,Int.reduceToNat,Int.reduceAdd,Int.reduceSub,Int.reduceMul,ne_eq,decide_true,decide_false,tf4, he1, he3, he4, he5, he6, he25, add_lit', c5, c7, eq_self, Nat.zero_add]
  exact h _ ((g4.trans g5).trans g57)

end Go.Proofs.YtcnebgokbjpjnaaGreat
