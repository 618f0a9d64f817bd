/- slices.Concat of writes, batch.Merge. -/
import Derived.Test.YtifaobnemnbfhaaOrdO
set_option linter.unusedVariables false
set_option linter.unusedSimpArgs false
set_option maxRecDepth 100000
namespace Go.Proofs.Ytifaobnemnbfhaa
open Go

theorem groww_ok {w : World} {k : Nat} (hk : k ≤ 1000000000000) {R : VWK}
    (h : ∀ w' v, LRow w' 37 6 v 0 [] → Grow w w' → (∀ q, fpV v q → w.heap.size ≤ q) → R v w') : CallsV Try.prog 31 [.slice none 0 0, .int .i64 (k : Int)] w R := by
  have d1 : decide ((k : Int) < 0) = false := decide_eq_false (by omega)
  have w1 : IntKind.i64.wrap 0 = 0 := by decide
  have w2 : IntKind.i64.wrap ((k : Int) - 0) = (k : Int) := by rw [wrap_i64_in (by omega) (by omega)]; omega
  refine calls_of_wpC mixed Try.func31 rfl (by kernel_rfl) ?_
  intro e he
  have he0 := he 0
  have he1 := he 1
  simp only [List.getD_cons_zero, List.getD_cons_succ] at he0 he1
  clear he
  rcases Nat.eq_zero_or_pos k with h0 | h0
  · have d2 : decide ((0 : Int) < (k : Int)) = false := decide_eq_false (by omega)
    repeat (first | rw [c_seq] | simp -dsimp only [↓RE,RU,RL,if_true,if_false,forall_const,implies_true,Nat.reduceLeDiff,Nat.reduceLT,pureOp,binPure,intBin,strBin,eqPure,isConstO,unPure,sliceLo,sliceHi,slicePure,slice3Pure,lenPure,capPure,minPure,maxPure,buildP,resK,endV,yieldE,↓reduceIte,Nat.reduceEqDiff,reduceCtorEq,Nat.reduceAdd,Nat.reduceMul,Nat.reduceSub,Int.reduceLT,Int.reduceLE,Int.reduceToNat,Int.reduceAdd,Int.reduceSub,Int.reduceMul,ne_eq,decide_true,decide_false,tf31, he0, he1, d1, w1, w2, d2, Int.cast_ofNat_Int])
    exact h w _ (LRow.nil _ _ _) (Keep.refl _ _) (fun q hq => (fpV_none _ hq).elim)
  · have d2 : decide ((0 : Int) < (k : Int)) = true := decide_eq_true (by omega)
    repeat (first | rw [c_seq] | simp -dsimp only [↓RE,RU,RL,if_true,if_false,forall_const,implies_true,Nat.reduceLeDiff,Nat.reduceLT,pureOp,binPure,intBin,strBin,eqPure,isConstO,unPure,sliceLo,sliceHi,slicePure,slice3Pure,lenPure,capPure,minPure,maxPure,buildP,resK,endV,yieldE,↓reduceIte,Nat.reduceEqDiff,reduceCtorEq,Nat.reduceAdd,Nat.reduceMul,Nat.reduceSub,Int.reduceLT,Int.reduceLE,Int.reduceToNat,Int.reduceAdd,Int.reduceSub,Int.reduceMul,ne_eq,decide_true,decide_false,tf31, he0, he1, d1, w1, w2, d2, Int.cast_ofNat_Int])
    refine appK_zeros0 (e := 37) (size := 6) (bytes := 80) (by kernel_rfl) (by kernel_rfl) rfl h0 (by simp only [maxLen]; omega) (by omega) (fun cur c1 w1 hc1 hn1 hm1 hb1 g1 => ?_)
    have hz : ∀ x : Option Addr, (if c1 = 0 then x else x) = x := fun x => by split <;> rfl
    have hv := h w1 (.slice (some ⟨w.heap.size, 0, none⟩) 0 c1) ⟨by simp, .inr ⟨_, c1, cur, rfl, hb1, Nat.zero_le _, hm1, hc1, by simp⟩⟩ g1 (fun q hq => by rw [fpV_some] at hq; simp only at hq; omega)
    repeat (first | rw [c_seq] | simp -dsimp only [↓RE,RU,RL,if_true,if_false,forall_const,implies_true,Nat.reduceLeDiff,Nat.reduceLT,pureOp,binPure,intBin,strBin,eqPure,isConstO,unPure,sliceLo,sliceHi,slicePure,slice3Pure,lenPure,capPure,minPure,maxPure,buildP,resK,endV,yieldE,↓reduceIte,Nat.reduceEqDiff,reduceCtorEq,Nat.reduceAdd,Nat.reduceMul,Nat.reduceSub,Int.reduceLT,Int.reduceLE,Int.reduceToNat,Int.reduceAdd,Int.reduceSub,Int.reduceMul,ne_eq,decide_true,decide_false,tf31, he0, Int.cast_ofNat_Int, hz, Nat.sub_zero])
    refine ⟨by omega, ?_⟩
    repeat (first | rw [c_seq] | simp -dsimp only [↓RE,RU,RL,if_true,if_false,forall_const,implies_true,Nat.reduceLeDiff,Nat.reduceLT,pureOp,binPure,intBin,strBin,eqPure,isConstO,unPure,sliceLo,sliceHi,slicePure,slice3Pure,lenPure,capPure,minPure,maxPure,buildP,resK,endV,yieldE,↓reduceIte,Nat.reduceEqDiff,reduceCtorEq,Nat.reduceAdd,Nat.reduceMul,Nat.reduceSub,Int.reduceLT,Int.reduceLE,Int.reduceToNat,Int.reduceAdd,Int.reduceSub,Int.reduceMul,ne_eq,decide_true,decide_false,tf31, he0, hz, Nat.sub_zero])
    exact hv
/-- a row of writes, as it is handed on. -/
structure WS where
  A : Option Addr
  n : Nat
  c : Nat
  l : List WrV
def WS.cell (x : WS) : Value := .slice x.A x.n x.c
def s00 : WS := ⟨none, 0, 0, []⟩
abbrev WS.Ok (w : World) (x : WS) : Prop := Rd w x.A x.n 6 (x.l.flatMap WrV.cells)
def allW (xs : List WS) : List WrV := xs.flatMap WS.l
set_option maxHeartbeats 1000000 in
theorem concat_ok {w : World} {B : Option Addr} {m d : Nat} {xs : List WS} (hR : Rd w B m 1 (xs.map WS.cell)) (ho : ∀ x ∈ xs, x.Ok w) (hn : (allW xs).length ≤ 100000000000) (hm : m ≤ 1000) {R : VWK}
    (h : ∀ w' v, LRow w' 37 6 v (allW xs).length ((allW xs).flatMap WrV.cells) → Grow w w' → (∀ q, fpV v q → w.heap.size ≤ q) → R v w') : CallsV Try.prog 18 [.slice B m d] w R := by
  have hl : xs.length = m := by have := hR.1; simp at this; omega
  have htk : ∀ k, (allW (xs.take k)).length ≤ (allW xs).length := fun k => by
    conv => rhs; rw [← List.take_append_drop k xs]
    unfold allW
    rw [List.flatMap_append, List.length_append]
    omega
  have hst : ∀ k (hk : k < m), allW (xs.take (k + 1)) = allW (xs.take k) ++ (xs[k]'(by omega)).l := fun k hk => by
    unfold allW
    rw [List.take_succ_eq_append_getElem (by omega), List.flatMap_append]
    simp
  have hcell : ∀ w', Grow w w' → ∀ k (hk : k < m), ∃ ad, B = some ad ∧ w'.cell? (ad.add k) = some ((xs[k]'(by omega)).cell) := fun w' g k hk => by
    obtain ⟨ad, u, e, hu, hc⟩ := (hR.grow g).cell1 hk
    refine ⟨ad, e, hc.trans ?_⟩
    rw [List.getElem?_map, List.getElem?_eq_getElem (by omega)] at hu
    exact hu.symm
  have hxn : ∀ k (hk : k < m), (xs[k]'(by omega)).l.length = (xs[k]'(by omega)).n := fun k hk => (ho _ (List.getElem_mem (by omega))).wlen
  refine calls_of_wpC mixed Try.func18 rfl (by kernel_rfl) ?_
  intro e he
  have he0 := he 0
  simp only [List.getD_cons_zero, List.getD_cons_succ] at he0
  clear he
  repeat (first | rw [c_seq] | simp -dsimp only [↓RE,RU,RL,if_true,if_false,forall_const,implies_true,Nat.reduceLeDiff,Nat.reduceLT,pureOp,binPure,intBin,strBin,eqPure,isConstO,unPure,sliceLo,sliceHi,slicePure,slice3Pure,lenPure,capPure,minPure,maxPure,buildP,resK,endV,yieldE,↓reduceIte,Nat.reduceEqDiff,reduceCtorEq,Nat.reduceAdd,Nat.reduceMul,Nat.reduceSub,Int.reduceLT,Int.reduceLE,Int.reduceToNat,Int.reduceAdd,Int.reduceSub,Int.reduceMul,ne_eq,decide_true,decide_false,tf18, he0])
  refine wpLoop_intro (fun e' w' => w' = w ∧ (e' 0 = .slice B m d ∧ e' 9 = .slice B m d ∧ e' 10 = .int .i64 (m : Int)) ∧ ∃ k : Nat, k ≤ m ∧ e' 11 = .int .i64 (k : Int) ∧ e' 3 = .int .i64 ((allW (xs.take k)).length : Int))
    (fun e' _ => m - (envInt (e' 11)).toNat) ⟨rfl, ⟨?_, ?_, ?_⟩, 0, Nat.zero_le _, ?_, ?_⟩ ?_
  · simp -dsimp only [↓RE,RU,RL,if_true,if_false,↓reduceIte,Nat.reduceEqDiff,reduceCtorEq,decide_true,decide_false, he0]
  · simp -dsimp only [↓RE,RU,RL,if_true,if_false,↓reduceIte,Nat.reduceEqDiff,reduceCtorEq,decide_true,decide_false, he0]
  · simp -dsimp only [↓RE,RU,RL,if_true,if_false,↓reduceIte,Nat.reduceEqDiff,reduceCtorEq,decide_true,decide_false, he0]
  · simp -dsimp only [↓RE,RU,RL,if_true,if_false,↓reduceIte,Nat.reduceEqDiff,reduceCtorEq,decide_true,decide_false, Int.cast_ofNat_Int]
  · rw [List.take_zero]; simp -dsimp only [↓RE,↓c_seq,RU,RL,if_true,if_false,forall_const,implies_true,Nat.reduceLeDiff,Nat.reduceLT,pureOp,binPure,intBin,strBin,eqPure,isConstO,unPure,sliceLo,sliceHi,slicePure,slice3Pure,lenPure,capPure,minPure,maxPure,buildP,resK,endV,yieldE,↓reduceIte,Nat.reduceEqDiff,reduceCtorEq,Nat.reduceAdd,Nat.reduceMul,Nat.reduceSub,Int.reduceLT,Int.reduceLE,Int.reduceToNat,Int.reduceAdd,Int.reduceSub,Int.reduceMul,ne_eq,decide_true,decide_false,tf18, allW, List.flatMap_nil, List.length_nil, Int.cast_ofNat_Int]
  clear he0 e
  rintro e wz ⟨rfl, ⟨he0, he9, he10⟩, k, hk, he11, he3⟩
  rcases Nat.lt_or_ge k m with hlt | hge
  · have hd : decide ((k : Int) < (m : Int)) = true := decide_eq_true (by omega)
    have hmu : (envInt (e 11)).toNat = k := by rw [he11]; exact Int.toNat_natCast k
    have v1 : IntKind.i64.wrap ((k : Int) + 1) = ((k + 1 : Nat) : Int) := by rw [wrap_i64_in (by omega) (by omega)]; omega
    obtain ⟨ad, rfl, hc⟩ := hcell wz (Keep.refl _ _) k hlt
    have hs := hst k hlt
    have ht := htk (k + 1)
    have hxl := hxn k hlt
    have hsl := congrArg List.length hs
    rw [List.length_append] at hsl
    generalize xs[k] = x at hc hs hxl hsl
    simp only [WS.cell] at hc
    have v2 : IntKind.i64.wrap (((allW (xs.take k)).length : Int) + (x.n : Int)) = ((allW (xs.take (k + 1))).length : Int) := by rw [wrap_i64_in (by omega) (by omega)]; omega
    have d2 : decide (((allW (xs.take (k + 1))).length : Int) < 0) = false := decide_eq_false (by omega)
    repeat (first | rw [c_seq] | simp -dsimp only [↓RE,RU,RL,if_true,if_false,forall_const,implies_true,Nat.reduceLeDiff,Nat.reduceLT,pureOp,binPure,intBin,strBin,eqPure,isConstO,unPure,sliceLo,sliceHi,slicePure,slice3Pure,lenPure,capPure,minPure,maxPure,buildP,resK,endV,yieldE,↓reduceIte,Nat.reduceEqDiff,reduceCtorEq,Nat.reduceAdd,Nat.reduceMul,Nat.reduceSub,Int.reduceLT,Int.reduceLE,Int.reduceToNat,Int.reduceAdd,Int.reduceSub,Int.reduceMul,ne_eq,decide_true,decide_false,tf18, he9, he10, he11, he3, hd, hc, Nat.mul_one, Int.toNat_natCast])
    refine ⟨⟨by omega, by omega⟩, ?_⟩
    repeat (first | rw [c_seq] | simp -dsimp only [↓RE,RU,RL,if_true,if_false,forall_const,implies_true,Nat.reduceLeDiff,Nat.reduceLT,pureOp,binPure,intBin,strBin,eqPure,isConstO,unPure,sliceLo,sliceHi,slicePure,slice3Pure,lenPure,capPure,minPure,maxPure,buildP,resK,endV,yieldE,↓reduceIte,Nat.reduceEqDiff,reduceCtorEq,Nat.reduceAdd,Nat.reduceMul,Nat.reduceSub,Int.reduceLT,Int.reduceLE,Int.reduceToNat,Int.reduceAdd,Int.reduceSub,Int.reduceMul,ne_eq,decide_true,decide_false,tf18, he3, he11, v1, v2, d2])
    refine ⟨fun hq => absurd hq (by omega), fun _ => ?_⟩
    repeat (first | rw [c_seq] | simp -dsimp only [↓RE,RU,RL,if_true,if_false,forall_const,implies_true,Nat.reduceLeDiff,Nat.reduceLT,pureOp,binPure,intBin,strBin,eqPure,isConstO,unPure,sliceLo,sliceHi,slicePure,slice3Pure,lenPure,capPure,minPure,maxPure,buildP,resK,endV,yieldE,↓reduceIte,Nat.reduceEqDiff,reduceCtorEq,Nat.reduceAdd,Nat.reduceMul,Nat.reduceSub,Int.reduceLT,Int.reduceLE,Int.reduceToNat,Int.reduceAdd,Int.reduceSub,Int.reduceMul,ne_eq,decide_true,decide_false,tf18, he3, he11, v1, v2, d2])
    refine hold_intro ⟨⟨rfl, ⟨?_, ?_, ?_⟩, k + 1, hlt, ?_, ?_⟩, ?_⟩
    · simp -dsimp only [↓RE,RU,RL,if_true,if_false,↓reduceIte,Nat.reduceEqDiff,reduceCtorEq,decide_true,decide_false, he0]
    · simp -dsimp only [↓RE,RU,RL,if_true,if_false,↓reduceIte,Nat.reduceEqDiff,reduceCtorEq,decide_true,decide_false, he9]
    · simp -dsimp only [↓RE,RU,RL,if_true,if_false,↓reduceIte,Nat.reduceEqDiff,reduceCtorEq,decide_true,decide_false, he10]
    · simp -dsimp only [↓RE,RU,RL,if_true,if_false,↓reduceIte,Nat.reduceEqDiff,reduceCtorEq,decide_true,decide_false, he11, v1]
    · simp -dsimp only [↓RE,RU,RL,if_true,if_false,↓reduceIte,Nat.reduceEqDiff,reduceCtorEq,decide_true,decide_false, he3, v2]
    · rw [hmu]
      simp -dsimp only [↓RE,↓c_seq,RU,RL,if_true,if_false,forall_const,implies_true,Nat.reduceLeDiff,Nat.reduceLT,pureOp,binPure,intBin,strBin,eqPure,isConstO,unPure,sliceLo,sliceHi,slicePure,slice3Pure,lenPure,capPure,minPure,maxPure,buildP,resK,endV,yieldE,↓reduceIte,Nat.reduceEqDiff,reduceCtorEq,Nat.reduceAdd,Nat.reduceMul,Nat.reduceSub,Int.reduceLT,Int.reduceLE,Int.reduceToNat,Int.reduceAdd,Int.reduceSub,Int.reduceMul,ne_eq,decide_true,decide_false,tf18, he11, v1, envInt, Int.toNat_natCast]
      omega
  · have hd : decide ((k : Int) < (m : Int)) = false := decide_eq_false (by omega)
    rw [List.take_of_length_le (by omega)] at he3
    repeat (first | rw [c_seq] | simp -dsimp only [↓RE,RU,RL,if_true,if_false,forall_const,implies_true,Nat.reduceLeDiff,Nat.reduceLT,pureOp,binPure,intBin,strBin,eqPure,isConstO,unPure,sliceLo,sliceHi,slicePure,slice3Pure,lenPure,capPure,minPure,maxPure,buildP,resK,endV,yieldE,↓reduceIte,Nat.reduceEqDiff,reduceCtorEq,Nat.reduceAdd,Nat.reduceMul,Nat.reduceSub,Int.reduceLT,Int.reduceLE,Int.reduceToNat,Int.reduceAdd,Int.reduceSub,Int.reduceMul,ne_eq,decide_true,decide_false,tf18, he9, he10, he11, he3, hd])
    refine groww_ok (by omega) (fun w2 v2 hv2 g2 hF2 => ?_)
    repeat (first | rw [c_seq] | simp -dsimp only [↓RE,RU,RL,if_true,if_false,forall_const,implies_true,Nat.reduceLeDiff,Nat.reduceLT,pureOp,binPure,intBin,strBin,eqPure,isConstO,unPure,sliceLo,sliceHi,slicePure,slice3Pure,lenPure,capPure,minPure,maxPure,buildP,resK,endV,yieldE,↓reduceIte,Nat.reduceEqDiff,reduceCtorEq,Nat.reduceAdd,Nat.reduceMul,Nat.reduceSub,Int.reduceLT,Int.reduceLE,Int.reduceToNat,Int.reduceAdd,Int.reduceSub,Int.reduceMul,ne_eq,decide_true,decide_false,tf18, he0])
    refine wpLoop_intro (fun e' w' => Grow wz w' ∧ (e' 25 = .slice B m d ∧ e' 26 = .int .i64 (m : Int)) ∧ ∃ (k : Nat) (v : Value), k ≤ m ∧ e' 27 = .int .i64 (k : Int) ∧ e' 6 = v ∧ LRow w' 37 6 v (allW (xs.take k)).length ((allW (xs.take k)).flatMap WrV.cells) ∧ (∀ q, fpV v q → wz.heap.size ≤ q))
      (fun e' _ => m - (envInt (e' 27)).toNat) ⟨g2, ⟨?_, ?_⟩, 0, v2, Nat.zero_le _, ?_, ?_, hv2, hF2⟩ ?_
    · simp -dsimp only [↓RE,RU,RL,if_true,if_false,↓reduceIte,Nat.reduceEqDiff,reduceCtorEq,decide_true,decide_false, he0]
    · simp -dsimp only [↓RE,RU,RL,if_true,if_false,↓reduceIte,Nat.reduceEqDiff,reduceCtorEq,decide_true,decide_false, he0]
    · simp -dsimp only [↓RE,RU,RL,if_true,if_false,↓reduceIte,Nat.reduceEqDiff,reduceCtorEq,decide_true,decide_false, Int.cast_ofNat_Int]
    · simp -dsimp only [↓RE,RU,RL,if_true,if_false,↓reduceIte,Nat.reduceEqDiff,reduceCtorEq,decide_true,decide_false, he0]
    clear he0 he9 he10 he11 he3 hd hge hk k hv2 hF2 g2 e
    rintro e wy ⟨gy, ⟨he25, he26⟩, k, v, hk, he27, he6, hv, hF⟩
    rcases Nat.lt_or_ge k m with hlt | hge
    · have hd : decide ((k : Int) < (m : Int)) = true := decide_eq_true (by omega)
      have hmu : (envInt (e 27)).toNat = k := by rw [he27]; exact Int.toNat_natCast k
      have v1 : IntKind.i64.wrap ((k : Int) + 1) = ((k + 1 : Nat) : Int) := by rw [wrap_i64_in (by omega) (by omega)]; omega
      obtain ⟨ad, rfl, hc⟩ := hcell wy gy k hlt
      have hs := hst k hlt
      have ht := htk (k + 1)
      have hxl := hxn k hlt
      have hxo := (ho _ (List.getElem_mem (show k < xs.length by omega))).grow gy
      have hsl := congrArg List.length hs
      rw [List.length_append] at hsl
      generalize xs[k] = x at hc hs hxl hsl hxo
      simp only [WS.cell] at hc
      repeat (first | rw [c_seq] | simp -dsimp only [↓RE,RU,RL,if_true,if_false,forall_const,implies_true,Nat.reduceLeDiff,Nat.reduceLT,pureOp,binPure,intBin,strBin,eqPure,isConstO,unPure,sliceLo,sliceHi,slicePure,slice3Pure,lenPure,capPure,minPure,maxPure,buildP,resK,endV,yieldE,↓reduceIte,Nat.reduceEqDiff,reduceCtorEq,Nat.reduceAdd,Nat.reduceMul,Nat.reduceSub,Int.reduceLT,Int.reduceLE,Int.reduceToNat,Int.reduceAdd,Int.reduceSub,Int.reduceMul,ne_eq,decide_true,decide_false,tf18, he25, he26, he27, hd, hc, Nat.mul_one, Int.toNat_natCast])
      refine ⟨⟨by omega, by omega⟩, ?_⟩
      repeat (first | rw [c_seq] | simp -dsimp only [↓RE,RU,RL,if_true,if_false,forall_const,implies_true,Nat.reduceLeDiff,Nat.reduceLT,pureOp,binPure,intBin,strBin,eqPure,isConstO,unPure,sliceLo,sliceHi,slicePure,slice3Pure,lenPure,capPure,minPure,maxPure,buildP,resK,endV,yieldE,↓reduceIte,Nat.reduceEqDiff,reduceCtorEq,Nat.reduceAdd,Nat.reduceMul,Nat.reduceSub,Int.reduceLT,Int.reduceLE,Int.reduceToNat,Int.reduceAdd,Int.reduceSub,Int.reduceMul,ne_eq,decide_true,decide_false,tf18, he6])
      refine app_w hv hxo (by omega) (fun A' c' w4 hL4 k4 f4 => ?_)
      have g4 : Grow wz w4 := gy.above k4 (fun q hq e => by have := hF q e; omega)
      rw [← hs] at hL4
      have hsy := gy.size
      repeat (first | rw [c_seq] | simp -dsimp only [↓RE,RU,RL,if_true,if_false,forall_const,implies_true,Nat.reduceLeDiff,Nat.reduceLT,pureOp,binPure,intBin,strBin,eqPure,isConstO,unPure,sliceLo,sliceHi,slicePure,slice3Pure,lenPure,capPure,minPure,maxPure,buildP,resK,endV,yieldE,↓reduceIte,Nat.reduceEqDiff,reduceCtorEq,Nat.reduceAdd,Nat.reduceMul,Nat.reduceSub,Int.reduceLT,Int.reduceLE,Int.reduceToNat,Int.reduceAdd,Int.reduceSub,Int.reduceMul,ne_eq,decide_true,decide_false,tf18, he27, v1])
      refine hold_intro ⟨⟨g4, ⟨?_, ?_⟩, k + 1, _, hlt, ?_, ?_, hL4, fun q hq => ?_⟩, ?_⟩
      · simp -dsimp only [↓RE,RU,RL,if_true,if_false,↓reduceIte,Nat.reduceEqDiff,reduceCtorEq,decide_true,decide_false, he25]
      · simp -dsimp only [↓RE,RU,RL,if_true,if_false,↓reduceIte,Nat.reduceEqDiff,reduceCtorEq,decide_true,decide_false, he26]
      · simp -dsimp only [↓RE,RU,RL,if_true,if_false,↓reduceIte,Nat.reduceEqDiff,reduceCtorEq,decide_true,decide_false, he27, v1]
      · simp -dsimp only [↓RE,RU,RL,if_true,if_false,↓reduceIte,Nat.reduceEqDiff,reduceCtorEq,decide_true,decide_false, he6]
      · rcases f4 q hq with e | e
        · exact hF q e
        · omega
      · rw [hmu]
        simp -dsimp only [↓RE,↓c_seq,RU,RL,if_true,if_false,forall_const,implies_true,Nat.reduceLeDiff,Nat.reduceLT,pureOp,binPure,intBin,strBin,eqPure,isConstO,unPure,sliceLo,sliceHi,slicePure,slice3Pure,lenPure,capPure,minPure,maxPure,buildP,resK,endV,yieldE,↓reduceIte,Nat.reduceEqDiff,reduceCtorEq,Nat.reduceAdd,Nat.reduceMul,Nat.reduceSub,Int.reduceLT,Int.reduceLE,Int.reduceToNat,Int.reduceAdd,Int.reduceSub,Int.reduceMul,ne_eq,decide_true,decide_false,tf18, he27, v1, envInt, Int.toNat_natCast]
        omega
    · have hd : decide ((k : Int) < (m : Int)) = false := decide_eq_false (by omega)
      rw [List.take_of_length_le (by omega)] at hv
      repeat (first | rw [c_seq] | simp -dsimp only [↓RE,RU,RL,if_true,if_false,forall_const,implies_true,Nat.reduceLeDiff,Nat.reduceLT,pureOp,binPure,intBin,strBin,eqPure,isConstO,unPure,sliceLo,sliceHi,slicePure,slice3Pure,lenPure,capPure,minPure,maxPure,buildP,resK,endV,yieldE,↓reduceIte,Nat.reduceEqDiff,reduceCtorEq,Nat.reduceAdd,Nat.reduceMul,Nat.reduceSub,Int.reduceLT,Int.reduceLE,Int.reduceToNat,Int.reduceAdd,Int.reduceSub,Int.reduceMul,ne_eq,decide_true,decide_false,tf18, he26, he27, he6, hd])
      exact h wy v hv gy hF
theorem merge_ok {w : World} {A B : Option Addr} {n c m d : Nat} {X Y : List WrV} (hX : Rd w A n 6 (X.flatMap WrV.cells)) (hY : Rd w B m 6 (Y.flatMap WrV.cells)) (hoX : ∀ x ∈ X, x.Ok w) (hoY : ∀ x ∈ Y, x.Ok w) (hn : n + m ≤ 10000000000) {R : VWK}
    (hR : ∀ w' v D, OrdR w w' v D (wOrd (X.map WrV.wr ++ Y.map WrV.wr)) → Grow w w' → R v w') : CallsV Try.prog 7 [.slice A n c, .slice B m d] w R := by
  have hXl := hX.wlen
  have hYl := hY.wlen
  refine calls_of_wpC mixed Try.func7 rfl (by kernel_rfl) ?_
  intro e he
  have he0 := he 0
  have he1 := he 1
  simp only [List.getD_cons_zero, List.getD_cons_succ] at he0 he1
  clear he
  repeat (first | rw [c_seq] | simp -dsimp only [↓RE,RU,RL,if_true,if_false,forall_const,implies_true,Nat.reduceLeDiff,Nat.reduceLT,pureOp,binPure,intBin,strBin,eqPure,isConstO,unPure,sliceLo,sliceHi,slicePure,slice3Pure,lenPure,capPure,minPure,maxPure,buildP,resK,endV,yieldE,↓reduceIte,Nat.reduceEqDiff,reduceCtorEq,Nat.reduceAdd,Nat.reduceMul,Nat.reduceSub,Int.reduceLT,Int.reduceLE,Int.reduceToNat,Int.reduceAdd,Int.reduceSub,Int.reduceMul,ne_eq,decide_true,decide_false,tf7, he0, he1])
  have g1 := Grow.alloc w (.cells #[.slice A n c, .slice B m d] 28)
  have hrow : Rd (w.alloc (.cells #[.slice A n c, .slice B m d] 28)) (some ⟨w.heap.size, 0, none⟩) 2 1 ([⟨A, n, c, X⟩, ⟨B, m, d, Y⟩].map WS.cell) := Rd.of_own (own_new w 28 1 2 #[.slice A n c, .slice B m d] rfl (by simp [maxLen]))
  have hall : allW [⟨A, n, c, X⟩, ⟨B, m, d, Y⟩] = X ++ Y := by simp [allW]
  refine concat_ok hrow (fun x hx => ?_) (by rw [hall, List.length_append]; omega) (by omega) (fun w2 v hv g2 hF => ?_)
  · simp only [List.mem_cons, List.not_mem_nil, or_false] at hx
    rcases hx with rfl | rfl
    · exact hX.grow g1
    · exact hY.grow g1
  rw [hall] at hv
  obtain ⟨A1, c1, rfl, _, _⟩ := hv.form
  have g12 := g1.trans g2
  repeat (first | rw [c_seq] | simp -dsimp only [↓RE,RU,RL,if_true,if_false,forall_const,implies_true,Nat.reduceLeDiff,Nat.reduceLT,pureOp,binPure,intBin,strBin,eqPure,isConstO,unPure,sliceLo,sliceHi,slicePure,slice3Pure,lenPure,capPure,minPure,maxPure,buildP,resK,endV,yieldE,↓reduceIte,Nat.reduceEqDiff,reduceCtorEq,Nat.reduceAdd,Nat.reduceMul,Nat.reduceSub,Int.reduceLT,Int.reduceLE,Int.reduceToNat,Int.reduceAdd,Int.reduceSub,Int.reduceMul,ne_eq,decide_true,decide_false,tf7, he0])
  refine order_ok hv.rd (fun x hx => ?_) (by rw [List.length_append]; omega) (fun w3 v3 D hD g3 => ?_)
  · rcases List.mem_append.1 hx with hx | hx
    · exact (hoX x hx).grow g12
    · exact (hoY x hx).grow g12
  rw [List.map_append] at hD
  have hs := g12.size
  repeat (first | rw [c_seq] | simp -dsimp only [↓RE,RU,RL,if_true,if_false,forall_const,implies_true,Nat.reduceLeDiff,Nat.reduceLT,pureOp,binPure,intBin,strBin,eqPure,isConstO,unPure,sliceLo,sliceHi,slicePure,slice3Pure,lenPure,capPure,minPure,maxPure,buildP,resK,endV,yieldE,↓reduceIte,Nat.reduceEqDiff,reduceCtorEq,Nat.reduceAdd,Nat.reduceMul,Nat.reduceSub,Int.reduceLT,Int.reduceLE,Int.reduceToNat,Int.reduceAdd,Int.reduceSub,Int.reduceMul,ne_eq,decide_true,decide_false,tf7, he0])
  exact hR w3 v3 D ⟨hD.eq, hD.row, hD.ok, fun q hq => by have := hD.fresh q hq; omega, fun x hx q hq => by have := hD.tfresh x hx q hq; omega, hD.apart⟩ (g12.trans g3)

end Go.Proofs.Ytifaobnemnbfhaa
