/- slices.symMergeCmpFunc of writes: where one of the two parts has one place. -/
import Derived.Test.YtifaobnemnbfhaaRot
import Derived.Test.YtifaobnemnbfhaaInsS
import Derived.Test.YtifaobnemnbfhaaCmpI
set_option linter.unusedVariables false
set_option linter.unusedSimpArgs false
set_option maxRecDepth 100000
namespace Go.Proofs.Ytifaobnemnbfhaa
open Go

def w00 : WrV := ⟨⟨⟨.empty, [], .empty⟩, none, 0, 0⟩, (0, 0, 0)⟩
theorem getD_some {l : List WrV} {k : Nat} (h : k < l.length) : l[k]? = some (l.getD k w00) := by
  rw [List.getD_eq_getElem?_getD, List.getElem?_eq_getElem h]; rfl
theorem getD_mem {l : List WrV} {k : Nat} (h : k < l.length) : l.getD k w00 ∈ l := List.mem_of_getElem? (getD_some h)
theorem take_all {l : List WrV} {u : Nat} {p : WrV → Prop} (h : ∀ k, k < u → p (l.getD k w00)) (hu : u ≤ l.length) : ∀ x ∈ l.take u, p x := by
  intro x hx
  obtain ⟨i, hi, rfl⟩ := List.mem_iff_getElem.1 hx
  rw [List.length_take] at hi
  rw [List.getElem_take]
  have := h i (by omega)
  rwa [List.getD_eq_getElem?_getD, List.getElem?_eq_getElem (by omega)] at this
theorem drop_all {l : List WrV} {u : Nat} {p : WrV → Prop} (h : ∀ k, u ≤ k → k < l.length → p (l.getD k w00)) : ∀ x ∈ l.drop u, p x := by
  intro x hx
  obtain ⟨i, hi, rfl⟩ := List.mem_iff_getElem.1 hx
  rw [List.length_drop] at hi
  rw [List.getElem_drop]
  have := h (u + i) (by omega) (by omega)
  rwa [List.getD_eq_getElem?_getD, List.getElem?_eq_getElem (by omega)] at this
theorem at_mid {P X S : List WrV} {k : Nat} (h : k < X.length) : (P ++ (X ++ S))[P.length + k]? = some (X.getD k w00) := by
  rw [List.getElem?_append_right (by omega), show P.length + k - P.length = k by omega, List.getElem?_append_left h, getD_some h]
theorem symm1_ok {w0 w : World} {ad : Addr} {n c : Nat} {l0 : List WrV} {P Y S : List WrV} {x : WrV} {f : FuncId} {cf : WrV → WrV → Int} (hcmp : CmpOk w0 ad l0 f cf) (hc : Cmp cf) (h : Sr w0 ad n c l0 w (P ++ (x :: (Y ++ S)))) (hY : SortedC cf Y) (hn : n ≤ 5864062014634)
    {a m b : Int} (ha : a = P.length) (hm : m = P.length + 1) (hb : b = P.length + 1 + Y.length) {R : VWK}
    (hR : ∀ w' Z, SortedC cf Z → SameK cf (x :: Y) Z → Sr w0 ad n c l0 w' (P ++ (Z ++ S)) → R (.tuple #[]) w') :
    CallsV Try.prog 67 [.slice (some ad) n c, .int .i64 a, .int .i64 m, .int .i64 b, .func (.func f) #[] #[]] w R := by
  have hlen := h.len
  simp only [List.length_append, List.length_cons] at hlen
  subst ha hm hb
  have hcall := fun xs w K tk => callK_func hcmp.can xs w (K := K) (tk := tk)
  obtain ⟨p, hp⟩ : ∃ p, p = P.length := ⟨_, rfl⟩
  have w1 : IntKind.i64.wrap ((P.length : Int) + 1 - P.length) = 1 := by rw [wrap_i64_in (by omega) (by omega)]; omega
  have hd1 : decide ((1 : Int) = 1) = true := rfl
  refine calls_of_wpC mixed Try.func67 rfl (by kernel_rfl) ?_
  intro e he
  have he0 := he 0
  have he1 := he 1
  have he2 := he 2
  have he3 := he 3
  have he4 := he 4
  simp only [List.getD_cons_zero, List.getD_cons_succ] at he0 he1 he2 he3 he4
  clear he
  repeat (first | rw [c_seq] | simp -dsimp only [↓RE,RU,RL,if_true,if_false,forall_const,implies_true,Nat.reduceLeDiff,Nat.reduceLT,pureOp,binPure,intBin,strBin,eqPure,isConstO,unPure,sliceLo,sliceHi,slicePure,slice3Pure,lenPure,capPure,minPure,maxPure,buildP,resK,endV,yieldE,↓reduceIte,Nat.reduceEqDiff,reduceCtorEq,Nat.reduceAdd,Nat.reduceMul,Nat.reduceSub,Int.reduceLT,Int.reduceLE,Int.reduceToNat,Int.reduceAdd,Int.reduceSub,Int.reduceMul,ne_eq,decide_true,decide_false,tf67, he1, he2, he3, w1, hd1])
  refine wpLoop_intro (fun e' w' => (e' 0 = .slice (some ad) n c ∧ e' 1 = .int .i64 (p : Int) ∧ e' 4 = .func (.func f) #[] #[]) ∧ Grow w w' ∧ ∃ u v, u ≤ v ∧ v ≤ Y.length ∧ e' 10 = .int .i64 ((p + 1 + u : Nat) : Int) ∧ e' 11 = .int .i64 ((p + 1 + v : Nat) : Int) ∧ (∀ k, k < u → cf (Y.getD k w00) x < 0) ∧ (∀ k, v ≤ k → k < Y.length → ¬ cf (Y.getD k w00) x < 0))
    (fun e' _ => (envInt (e' 11)).toNat - (envInt (e' 10)).toNat) ⟨⟨?_, ?_, ?_⟩, Keep.refl _ _, 0, Y.length, Nat.zero_le _, Nat.le_refl _, ?_, ?_, fun k hk => absurd hk (by omega), fun k h1 h2 => absurd h2 (by omega)⟩ ?_
  · simp -dsimp only [↓RE,RU,RL,if_true,if_false,↓reduceIte,Nat.reduceEqDiff,reduceCtorEq,decide_true,decide_false, he0]
  · rw [hp]; simp -dsimp only [↓RE,↓c_seq,RU,RL,if_true,if_false,forall_const,implies_true,Nat.reduceLeDiff,Nat.reduceLT,pureOp,binPure,intBin,strBin,eqPure,isConstO,unPure,sliceLo,sliceHi,slicePure,slice3Pure,lenPure,capPure,minPure,maxPure,buildP,resK,endV,yieldE,↓reduceIte,Nat.reduceEqDiff,reduceCtorEq,Nat.reduceAdd,Nat.reduceMul,Nat.reduceSub,Int.reduceLT,Int.reduceLE,Int.reduceToNat,Int.reduceAdd,Int.reduceSub,Int.reduceMul,ne_eq,decide_true,decide_false,tf67, he1]
  · simp -dsimp only [↓RE,RU,RL,if_true,if_false,↓reduceIte,Nat.reduceEqDiff,reduceCtorEq,decide_true,decide_false, he4]
  · rw [hp]; simp -dsimp only [↓RE,↓c_seq,RU,RL,if_true,if_false,forall_const,implies_true,Nat.reduceLeDiff,Nat.reduceLT,pureOp,binPure,intBin,strBin,eqPure,isConstO,unPure,sliceLo,sliceHi,slicePure,slice3Pure,lenPure,capPure,minPure,maxPure,buildP,resK,endV,yieldE,↓reduceIte,Nat.reduceEqDiff,reduceCtorEq,Nat.reduceAdd,Nat.reduceMul,Nat.reduceSub,Int.reduceLT,Int.reduceLE,Int.reduceToNat,Int.reduceAdd,Int.reduceSub,Int.reduceMul,ne_eq,decide_true,decide_false,tf67, he2, Int.natCast_add, Int.cast_ofNat_Int, Int.add_zero]
  · rw [hp]; simp -dsimp only [↓RE,↓c_seq,RU,RL,if_true,if_false,forall_const,implies_true,Nat.reduceLeDiff,Nat.reduceLT,pureOp,binPure,intBin,strBin,eqPure,isConstO,unPure,sliceLo,sliceHi,slicePure,slice3Pure,lenPure,capPure,minPure,maxPure,buildP,resK,endV,yieldE,↓reduceIte,Nat.reduceEqDiff,reduceCtorEq,Nat.reduceAdd,Nat.reduceMul,Nat.reduceSub,Int.reduceLT,Int.reduceLE,Int.reduceToNat,Int.reduceAdd,Int.reduceSub,Int.reduceMul,ne_eq,decide_true,decide_false,tf67, he3, Int.natCast_add, Int.cast_ofNat_Int]
  clear he0 he1 he2 he3 he4 e w1 hd1
  rintro e wz ⟨⟨he0, he1, he4⟩, gz, u, v, huv, hv, he10, he11, hlo, hhi⟩
  have hz := h.grow gz
  rcases Nat.lt_or_ge u v with hlt | hge
  · have hd : decide (((p + 1 + u : Nat) : Int) < ((p + 1 + v : Nat) : Int)) = true := decide_eq_true (by omega)
    have hh := half_ok (i := p + 1 + u) (j := p + 1 + v) (by omega) (by omega)
    obtain ⟨k, hk⟩ : ∃ k, (p + 1 + u + (p + 1 + v)) / 2 = p + 1 + k := ⟨(p + 1 + u + (p + 1 + v)) / 2 - (p + 1), by omega⟩
    rw [hk] at hh
    have hk1 : u ≤ k := by omega
    have hk2 : k < v := by omega
    have hmu : (envInt (e 11)).toNat - (envInt (e 10)).toNat = v - u := by rw [he10, he11]; simp only [envInt_int]; omega
    have s1 : (P ++ (x :: (Y ++ S)))[p + 1 + k]? = some (Y.getD k w00) := by
      have := at_mid (P := P ++ [x]) (X := Y) (S := S) (k := k) (by omega)
      rw [show (P ++ [x]).length = p + 1 by simp [hp]] at this
      rw [← this]; simp
    have s2 : (P ++ (x :: (Y ++ S)))[p]? = some x := by rw [hp]; simp
    have hym := h.mem _ (List.mem_of_getElem? s1)
    have hxm := h.mem _ (List.mem_of_getElem? s2)
    repeat (first | rw [c_seq] | simp -dsimp only [↓RE,RU,RL,if_true,if_false,forall_const,implies_true,Nat.reduceLeDiff,Nat.reduceLT,pureOp,binPure,intBin,strBin,eqPure,isConstO,unPure,sliceLo,sliceHi,slicePure,slice3Pure,lenPure,capPure,minPure,maxPure,buildP,resK,endV,yieldE,↓reduceIte,Nat.reduceEqDiff,reduceCtorEq,Nat.reduceAdd,Nat.reduceMul,Nat.reduceSub,Int.reduceLT,Int.reduceLE,Int.reduceToNat,Int.reduceAdd,Int.reduceSub,Int.reduceMul,ne_eq,decide_true,decide_false,tf67, he10, he11, hd, hh])
    refine wpDraw_by (Grow wz ·) [(0, true), (1, true), (2, true), (3, true), (4, true), (5, true), (6, true), (7, true), (8, true), (9, false), (10, true)] (by kernel_rfl) (Grow.drew wz) ?_
    simp only [planL, List.getElem?_toArray, List.getElem?_cons_zero, List.getElem?_cons_succ, Option.toList_some, List.map_cons, List.map_nil, List.cons_append, List.nil_append]
    repeat (first | rw [c_seq] | simp -dsimp only [↓RE,RU,RL,if_true,if_false,forall_const,implies_true,Nat.reduceLeDiff,Nat.reduceLT,pureOp,binPure,intBin,strBin,eqPure,isConstO,unPure,sliceLo,sliceHi,slicePure,slice3Pure,lenPure,capPure,minPure,maxPure,buildP,resK,endV,yieldE,↓reduceIte,Nat.reduceEqDiff,reduceCtorEq,Nat.reduceAdd,Nat.reduceMul,Nat.reduceSub,Int.reduceLT,Int.reduceLE,Int.reduceToNat,Int.reduceAdd,Int.reduceSub,Int.reduceMul,ne_eq,decide_true,decide_false,tf67, he0, he1, he4, hh, Int.toNat_natCast])
    refine ⟨⟨by omega, by omega⟩, (Y.getD k w00).cells, rfl, fun w' g' => (hz.grow g').cells s1, ?_⟩
    repeat (first | rw [c_seq] | simp -dsimp only [↓RE,RU,RL,if_true,if_false,forall_const,implies_true,Nat.reduceLeDiff,Nat.reduceLT,pureOp,binPure,intBin,strBin,eqPure,isConstO,unPure,sliceLo,sliceHi,slicePure,slice3Pure,lenPure,capPure,minPure,maxPure,buildP,resK,endV,yieldE,↓reduceIte,Nat.reduceEqDiff,reduceCtorEq,Nat.reduceAdd,Nat.reduceMul,Nat.reduceSub,Int.reduceLT,Int.reduceLE,Int.reduceToNat,Int.reduceAdd,Int.reduceSub,Int.reduceMul,ne_eq,decide_true,decide_false,tf67, he0, he1, he4, hh, Int.toNat_natCast])
    refine ⟨⟨by omega, by omega⟩, x.cells, rfl, fun w' g' => (hz.grow g').cells s2, ?_⟩
    repeat (first | rw [c_seq] | simp -dsimp only [↓RE,RU,RL,if_true,if_false,forall_const,implies_true,Nat.reduceLeDiff,Nat.reduceLT,pureOp,binPure,intBin,strBin,eqPure,isConstO,unPure,sliceLo,sliceHi,slicePure,slice3Pure,lenPure,capPure,minPure,maxPure,buildP,resK,endV,yieldE,↓reduceIte,Nat.reduceEqDiff,reduceCtorEq,Nat.reduceAdd,Nat.reduceMul,Nat.reduceSub,Int.reduceLT,Int.reduceLE,Int.reduceToNat,Int.reduceAdd,Int.reduceSub,Int.reduceMul,ne_eq,decide_true,decide_false,tf67, he0, he4, hcall])
    refine hcmp.cmp wz.drew (hz.keep.then_grow (Grow.drew wz)) _ hym x hxm _ (fun w5 g5 => ?_)
    refine ⟨(Grow.drew wz).trans g5, ?_⟩
    have g6 := (gz.trans (Grow.drew wz)).trans g5
    have v1 : IntKind.i64.wrap (((p + 1 + k : Nat) : Int) + 1) = ((p + 1 + (k + 1) : Nat) : Int) := by rw [wrap_i64_in (by omega) (by omega)]; omega
    by_cases hlt2 : cf (Y.getD k w00) x < 0
    · have hd3 : decide (cf (Y.getD k w00) x < 0) = true := decide_eq_true hlt2
      repeat (first | rw [c_seq] | simp -dsimp only [↓RE,RU,RL,if_true,if_false,forall_const,implies_true,Nat.reduceLeDiff,Nat.reduceLT,pureOp,binPure,intBin,strBin,eqPure,isConstO,unPure,sliceLo,sliceHi,slicePure,slice3Pure,lenPure,capPure,minPure,maxPure,buildP,resK,endV,yieldE,↓reduceIte,Nat.reduceEqDiff,reduceCtorEq,Nat.reduceAdd,Nat.reduceMul,Nat.reduceSub,Int.reduceLT,Int.reduceLE,Int.reduceToNat,Int.reduceAdd,Int.reduceSub,Int.reduceMul,ne_eq,decide_true,decide_false,tf67, hd3, hh, v1])
      refine hold_intro ⟨⟨⟨?_, ?_, ?_⟩, g6, k + 1, v, by omega, hv, ?_, ?_, fun i hi => ?_, hhi⟩, ?_⟩
      · simp -dsimp only [↓RE,RU,RL,if_true,if_false,↓reduceIte,Nat.reduceEqDiff,reduceCtorEq,decide_true,decide_false, he0]
      · simp -dsimp only [↓RE,RU,RL,if_true,if_false,↓reduceIte,Nat.reduceEqDiff,reduceCtorEq,decide_true,decide_false, he1]
      · simp -dsimp only [↓RE,RU,RL,if_true,if_false,↓reduceIte,Nat.reduceEqDiff,reduceCtorEq,decide_true,decide_false, he4]
      · simp -dsimp only [↓RE,RU,RL,if_true,if_false,↓reduceIte,Nat.reduceEqDiff,reduceCtorEq,decide_true,decide_false, hh, v1]
      · simp -dsimp only [↓RE,RU,RL,if_true,if_false,↓reduceIte,Nat.reduceEqDiff,reduceCtorEq,decide_true,decide_false, he11]
      · rcases Nat.lt_or_eq_of_le (Nat.lt_succ_iff.1 hi) with h1 | rfl
        · have := hY.at (d := w00) (i := i) (j := k) h1 (by omega)
          exact hc.le_lt this hlt2
        · exact hlt2
      · rw [hmu]
        simp -dsimp only [↓RE,↓c_seq,RU,RL,if_true,if_false,forall_const,implies_true,Nat.reduceLeDiff,Nat.reduceLT,pureOp,binPure,intBin,strBin,eqPure,isConstO,unPure,sliceLo,sliceHi,slicePure,slice3Pure,lenPure,capPure,minPure,maxPure,buildP,resK,endV,yieldE,↓reduceIte,Nat.reduceEqDiff,reduceCtorEq,Nat.reduceAdd,Nat.reduceMul,Nat.reduceSub,Int.reduceLT,Int.reduceLE,Int.reduceToNat,Int.reduceAdd,Int.reduceSub,Int.reduceMul,ne_eq,decide_true,decide_false,tf67, he11, hh, v1, envInt, Int.toNat_natCast]
        omega
    · have hd3 : decide (cf (Y.getD k w00) x < 0) = false := decide_eq_false hlt2
      repeat (first | rw [c_seq] | simp -dsimp only [↓RE,RU,RL,if_true,if_false,forall_const,implies_true,Nat.reduceLeDiff,Nat.reduceLT,pureOp,binPure,intBin,strBin,eqPure,isConstO,unPure,sliceLo,sliceHi,slicePure,slice3Pure,lenPure,capPure,minPure,maxPure,buildP,resK,endV,yieldE,↓reduceIte,Nat.reduceEqDiff,reduceCtorEq,Nat.reduceAdd,Nat.reduceMul,Nat.reduceSub,Int.reduceLT,Int.reduceLE,Int.reduceToNat,Int.reduceAdd,Int.reduceSub,Int.reduceMul,ne_eq,decide_true,decide_false,tf67, hd3, hh, v1])
      refine hold_intro ⟨⟨⟨?_, ?_, ?_⟩, g6, u, k, hk1, by omega, ?_, ?_, hlo, fun i h1 h2 => ?_⟩, ?_⟩
      · simp -dsimp only [↓RE,RU,RL,if_true,if_false,↓reduceIte,Nat.reduceEqDiff,reduceCtorEq,decide_true,decide_false, he0]
      · simp -dsimp only [↓RE,RU,RL,if_true,if_false,↓reduceIte,Nat.reduceEqDiff,reduceCtorEq,decide_true,decide_false, he1]
      · simp -dsimp only [↓RE,RU,RL,if_true,if_false,↓reduceIte,Nat.reduceEqDiff,reduceCtorEq,decide_true,decide_false, he4]
      · simp -dsimp only [↓RE,RU,RL,if_true,if_false,↓reduceIte,Nat.reduceEqDiff,reduceCtorEq,decide_true,decide_false, he10]
      · simp -dsimp only [↓RE,RU,RL,if_true,if_false,↓reduceIte,Nat.reduceEqDiff,reduceCtorEq,decide_true,decide_false, hh, v1]
      · rcases Nat.lt_or_eq_of_le h1 with h1 | rfl
        · intro hlt3
          have := hY.at (d := w00) (i := k) (j := i) h1 (by omega)
          exact hlt2 (hc.le_lt this hlt3)
        · exact hlt2
      · rw [hmu]
        simp -dsimp only [↓RE,↓c_seq,RU,RL,if_true,if_false,forall_const,implies_true,Nat.reduceLeDiff,Nat.reduceLT,pureOp,binPure,intBin,strBin,eqPure,isConstO,unPure,sliceLo,sliceHi,slicePure,slice3Pure,lenPure,capPure,minPure,maxPure,buildP,resK,endV,yieldE,↓reduceIte,Nat.reduceEqDiff,reduceCtorEq,Nat.reduceAdd,Nat.reduceMul,Nat.reduceSub,Int.reduceLT,Int.reduceLE,Int.reduceToNat,Int.reduceAdd,Int.reduceSub,Int.reduceMul,ne_eq,decide_true,decide_false,tf67, he10, hh, v1, envInt, Int.toNat_natCast]
        omega
  · have huv' : u = v := by omega
    subst huv'
    have hd : decide (((p + 1 + u : Nat) : Int) < ((p + 1 + u : Nat) : Int)) = false := decide_eq_false (by omega)
    have h1 := take_all (p := fun z => cf z x < 0) hlo hv
    have h2 : ∀ z ∈ Y.drop u, cf x z ≤ 0 := drop_all (p := fun z => cf x z ≤ 0) (fun k h1 h2 => by have := hhi k h1 h2; have := hc.neg (Y.getD k w00) x; omega)
    have eY : Y.take u ++ Y.drop u = Y := List.take_append_drop _ _
    obtain ⟨f1, f2⟩ := ins_front hc (Y1 := Y.take u) (Y2 := Y.drop u) (x := x) (by rw [eY]; exact hY) h1 h2
    rw [eY] at f2
    have v2 : IntKind.i64.wrap (((p + 1 + u : Nat) : Int) - 1) = ((p + u : Nat) : Int) := by rw [wrap_i64_in (by omega) (by omega)]; omega
    repeat (first | rw [c_seq] | simp -dsimp only [↓RE,RU,RL,if_true,if_false,forall_const,implies_true,Nat.reduceLeDiff,Nat.reduceLT,pureOp,binPure,intBin,strBin,eqPure,isConstO,unPure,sliceLo,sliceHi,slicePure,slice3Pure,lenPure,capPure,minPure,maxPure,buildP,resK,endV,yieldE,↓reduceIte,Nat.reduceEqDiff,reduceCtorEq,Nat.reduceAdd,Nat.reduceMul,Nat.reduceSub,Int.reduceLT,Int.reduceLE,Int.reduceToNat,Int.reduceAdd,Int.reduceSub,Int.reduceMul,ne_eq,decide_true,decide_false,tf67, he10, he11, hd, he1])
    refine wpLoop_intro (fun e' w' => (e' 0 = .slice (some ad) n c ∧ e' 10 = .int .i64 ((p + 1 + u : Nat) : Int)) ∧ ∃ t, t ≤ u ∧ e' 13 = .int .i64 ((p + t : Nat) : Int) ∧ Sr w0 ad n c l0 w' (P ++ (Y.take t ++ x :: (Y.drop t ++ S))))
      (fun e' _ => p + u - (envInt (e' 13)).toNat) ⟨⟨?_, ?_⟩, 0, Nat.zero_le _, ?_, ?_⟩ ?_
    · simp -dsimp only [↓RE,RU,RL,if_true,if_false,↓reduceIte,Nat.reduceEqDiff,reduceCtorEq,decide_true,decide_false, he0]
    · simp -dsimp only [↓RE,RU,RL,if_true,if_false,↓reduceIte,Nat.reduceEqDiff,reduceCtorEq,decide_true,decide_false, he10]
    · simp -dsimp only [↓RE,RU,RL,if_true,if_false,↓reduceIte,Nat.reduceEqDiff,reduceCtorEq,decide_true,decide_false, he1, Nat.add_zero]
    · simpa using hz
    clear he0 he1 he4 he10 he11 hz e hlo hhi
    rintro e wz ⟨⟨he0, he10⟩, t, ht, he13, hz⟩
    rcases Nat.lt_or_ge t u with hlt | hge
    · have hd : decide (((p + t : Nat) : Int) < ((p + u : Nat) : Int)) = true := decide_eq_true (by omega)
      have hmu : (envInt (e 13)).toNat = p + t := by rw [he13]; exact Int.toNat_natCast _
      have v3 : IntKind.i64.wrap (((p + t : Nat) : Int) + 1) = ((p + (t + 1) : Nat) : Int) := by rw [wrap_i64_in (by omega) (by omega)]; omega
      obtain ⟨y, hy⟩ : ∃ y, y = Y[t]'(by omega) := ⟨_, rfl⟩
      have eD : Y.drop t = y :: Y.drop (t + 1) := by rw [List.drop_eq_getElem_cons (by omega), ← hy]
      have eT : Y.take (t + 1) = Y.take t ++ [y] := by rw [List.take_succ_eq_append_getElem (by omega), ← hy]
      have e1 : P ++ (Y.take t ++ x :: (Y.drop t ++ S)) = (P ++ Y.take t) ++ x :: ([] ++ y :: (Y.drop (t + 1) ++ S)) := by rw [eD]; simp [List.append_assoc]
      have e2 : P ++ (Y.take (t + 1) ++ x :: (Y.drop (t + 1) ++ S)) = (P ++ Y.take t) ++ y :: ([] ++ x :: (Y.drop (t + 1) ++ S)) := by rw [eT]; simp [List.append_assoc]
      obtain ⟨s1, s2, s3, s4⟩ := swap_at (P ++ Y.take t) [] (Y.drop (t + 1) ++ S) x y
      rw [← e1, ← e2] at s3
      rw [← e1] at s1 s2
      have l1 : (P ++ Y.take t).length = p + t := by rw [List.length_append, List.length_take, hp]; omega
      rw [l1] at s1 s2 s3
      rw [List.length_nil, Nat.add_zero] at s2 s3
      have hxm := hz.mem _ (List.mem_of_getElem? s1)
      have hym := hz.mem _ (List.mem_of_getElem? s2)
      repeat (first | rw [c_seq] | simp -dsimp only [↓RE,RU,RL,if_true,if_false,forall_const,implies_true,Nat.reduceLeDiff,Nat.reduceLT,pureOp,binPure,intBin,strBin,eqPure,isConstO,unPure,sliceLo,sliceHi,slicePure,slice3Pure,lenPure,capPure,minPure,maxPure,buildP,resK,endV,yieldE,↓reduceIte,Nat.reduceEqDiff,reduceCtorEq,Nat.reduceAdd,Nat.reduceMul,Nat.reduceSub,Int.reduceLT,Int.reduceLE,Int.reduceToNat,Int.reduceAdd,Int.reduceSub,Int.reduceMul,ne_eq,decide_true,decide_false,tf67, he13, he10, v2, hd])
      refine wpDraw_swap (Sr w0 ad n c l0 · _) [0, 1, 2, 3, 4, 5, 6, 7, 8, 9, 10, 11, 12, 13, 14] 15 [15, 16, 17] (by kernel_rfl) (hz.grow (Grow.drew wz)) ?_
      simp only [List.filterMap_cons, List.filterMap_nil, planL, List.getElem?_toArray, List.getElem?_cons_zero, List.getElem?_cons_succ, Option.toList_some, List.map_cons, List.map_nil, List.cons_append, List.nil_append]
      repeat (first | rw [c_seq] | simp -dsimp only [↓RE,RU,RL,if_true,if_false,forall_const,implies_true,Nat.reduceLeDiff,Nat.reduceLT,pureOp,binPure,intBin,strBin,eqPure,isConstO,unPure,sliceLo,sliceHi,slicePure,slice3Pure,lenPure,capPure,minPure,maxPure,buildP,resK,endV,yieldE,↓reduceIte,Nat.reduceEqDiff,reduceCtorEq,Nat.reduceAdd,Nat.reduceMul,Nat.reduceSub,Int.reduceLT,Int.reduceLE,Int.reduceToNat,Int.reduceAdd,Int.reduceSub,Int.reduceMul,ne_eq,decide_true,decide_false,tf67, he0, he13, v3, Int.toNat_natCast])
      refine ⟨⟨by omega, by omega⟩, y.cells, rfl, fun w' hw' => hw'.cells (k := p + (t + 1)) s2, ?_⟩
      repeat (first | rw [c_seq] | simp -dsimp only [↓RE,RU,RL,if_true,if_false,forall_const,implies_true,Nat.reduceLeDiff,Nat.reduceLT,pureOp,binPure,intBin,strBin,eqPure,isConstO,unPure,sliceLo,sliceHi,slicePure,slice3Pure,lenPure,capPure,minPure,maxPure,buildP,resK,endV,yieldE,↓reduceIte,Nat.reduceEqDiff,reduceCtorEq,Nat.reduceAdd,Nat.reduceMul,Nat.reduceSub,Int.reduceLT,Int.reduceLE,Int.reduceToNat,Int.reduceAdd,Int.reduceSub,Int.reduceMul,ne_eq,decide_true,decide_false,tf67, he0, he13, v3, Int.toNat_natCast])
      refine ⟨⟨by omega, by omega⟩, x.cells, rfl, fun w' hw' => hw'.cells s1, ?_⟩
      repeat (first | rw [c_seq] | simp -dsimp only [↓RE,RU,RL,if_true,if_false,forall_const,implies_true,Nat.reduceLeDiff,Nat.reduceLT,pureOp,binPure,intBin,strBin,eqPure,isConstO,unPure,sliceLo,sliceHi,slicePure,slice3Pure,lenPure,capPure,minPure,maxPure,buildP,resK,endV,yieldE,↓reduceIte,Nat.reduceEqDiff,reduceCtorEq,Nat.reduceAdd,Nat.reduceMul,Nat.reduceSub,Int.reduceLT,Int.reduceLE,Int.reduceToNat,Int.reduceAdd,Int.reduceSub,Int.reduceMul,ne_eq,decide_true,decide_false,tf67, he0, he13, v3, Int.toNat_natCast])
      refine ⟨⟨by omega, by omega⟩, rfl, (hz.grow (Grow.drew wz)).set (k := p + t) (by omega) hym (fun w6 h6 => ?_)⟩
      repeat (first | rw [c_seq] | simp -dsimp only [↓RE,RU,RL,if_true,if_false,forall_const,implies_true,Nat.reduceLeDiff,Nat.reduceLT,pureOp,binPure,intBin,strBin,eqPure,isConstO,unPure,sliceLo,sliceHi,slicePure,slice3Pure,lenPure,capPure,minPure,maxPure,buildP,resK,endV,yieldE,↓reduceIte,Nat.reduceEqDiff,reduceCtorEq,Nat.reduceAdd,Nat.reduceMul,Nat.reduceSub,Int.reduceLT,Int.reduceLE,Int.reduceToNat,Int.reduceAdd,Int.reduceSub,Int.reduceMul,ne_eq,decide_true,decide_false,tf67, he0, he13, v3, Int.toNat_natCast])
      refine ⟨⟨by omega, by omega⟩, rfl, h6.set (k := p + (t + 1)) (by omega) hxm (fun w7 h7 => ?_)⟩
      have h7 : Sr w0 ad n c l0 w7 (P ++ (Y.take (t + 1) ++ x :: (Y.drop (t + 1) ++ S))) := by rw [← s3]; exact h7
      repeat (first | rw [c_seq] | simp -dsimp only [↓RE,RU,RL,if_true,if_false,forall_const,implies_true,Nat.reduceLeDiff,Nat.reduceLT,pureOp,binPure,intBin,strBin,eqPure,isConstO,unPure,sliceLo,sliceHi,slicePure,slice3Pure,lenPure,capPure,minPure,maxPure,buildP,resK,endV,yieldE,↓reduceIte,Nat.reduceEqDiff,reduceCtorEq,Nat.reduceAdd,Nat.reduceMul,Nat.reduceSub,Int.reduceLT,Int.reduceLE,Int.reduceToNat,Int.reduceAdd,Int.reduceSub,Int.reduceMul,ne_eq,decide_true,decide_false,tf67, he13, v3])
      refine hold_intro ⟨⟨⟨?_, ?_⟩, t + 1, hlt, ?_, h7⟩, ?_⟩
      · simp -dsimp only [↓RE,RU,RL,if_true,if_false,↓reduceIte,Nat.reduceEqDiff,reduceCtorEq,decide_true,decide_false, he0]
      · simp -dsimp only [↓RE,RU,RL,if_true,if_false,↓reduceIte,Nat.reduceEqDiff,reduceCtorEq,decide_true,decide_false, he10]
      · simp -dsimp only [↓RE,RU,RL,if_true,if_false,↓reduceIte,Nat.reduceEqDiff,reduceCtorEq,decide_true,decide_false, he13, v3]
      · rw [hmu]
        simp -dsimp only [↓RE,↓c_seq,RU,RL,if_true,if_false,forall_const,implies_true,Nat.reduceLeDiff,Nat.reduceLT,pureOp,binPure,intBin,strBin,eqPure,isConstO,unPure,sliceLo,sliceHi,slicePure,slice3Pure,lenPure,capPure,minPure,maxPure,buildP,resK,endV,yieldE,↓reduceIte,Nat.reduceEqDiff,reduceCtorEq,Nat.reduceAdd,Nat.reduceMul,Nat.reduceSub,Int.reduceLT,Int.reduceLE,Int.reduceToNat,Int.reduceAdd,Int.reduceSub,Int.reduceMul,ne_eq,decide_true,decide_false,tf67, he13, v3, envInt, Int.toNat_natCast]
        omega
    · have htu : t = u := by omega
      subst htu
      have hd : decide (((p + t : Nat) : Int) < ((p + t : Nat) : Int)) = false := decide_eq_false (by omega)
      repeat (first | rw [c_seq] | simp -dsimp only [↓RE,RU,RL,if_true,if_false,forall_const,implies_true,Nat.reduceLeDiff,Nat.reduceLT,pureOp,binPure,intBin,strBin,eqPure,isConstO,unPure,sliceLo,sliceHi,slicePure,slice3Pure,lenPure,capPure,minPure,maxPure,buildP,resK,endV,yieldE,↓reduceIte,Nat.reduceEqDiff,reduceCtorEq,Nat.reduceAdd,Nat.reduceMul,Nat.reduceSub,Int.reduceLT,Int.reduceLE,Int.reduceToNat,Int.reduceAdd,Int.reduceSub,Int.reduceMul,ne_eq,decide_true,decide_false,tf67, he13, he10, v2, hd])
      refine hR wz _ f1 f2 ?_
      rw [List.append_assoc]
      exact hz

end Go.Proofs.Ytifaobnemnbfhaa
