/- slices.symMergeCmpFunc of writes: where one of the two parts has one place. -/
/- slices.symMergeCmpFunc of writes: where the second of the two parts has one place. -/
/- slices.symMergeCmpFunc of writes: all of it. -/
import Derived.Test.YtljgnocpijniiaaGreatDoorSrts
import Derived.Test.YtljgnocpijniiaaGreatDoorCmpI
set_option linter.unusedVariables false
set_option linter.unusedSimpArgs false
set_option maxRecDepth 100000
namespace Go.Proofs.YtljgnocpijniiaaGreatDoor
open Go

def w00 : WrV := ⟨⟨⟨.empty, [], .empty⟩, none, 0, 0⟩, (0, 0, 0)⟩
theorem getD_some {l : List WrV} {k : Nat} (h : k < l.length) : l[k]? = some (l.getD k w00) := by
  rw [List.getD_eq_getElem?_getD, List.getElem?_eq_getElem h]; rfl
theorem getD_mem {l : List WrV} {k : Nat} (h : k < l.length) : l.getD k w00 ∈ l := List.mem_of_getElem? (getD_some h)
theorem take_all {l : List WrV} {u : Nat} {p : WrV → Prop} (h : ∀ k, k < u → p (l.getD k w00)) (hu : u ≤ l.length) : ∀ x ∈ l.take u, p x := by
  intro x hx
  obtain ⟨i, hi, rfl⟩ := List.mem_iff_getElem.1 hx
  rw [List.length_take] at hi
  rw [List.getElem_take]
  have := h i (by omega)
  rwa [List.getD_eq_getElem?_getD, List.getElem?_eq_getElem (by omega)] at this
theorem drop_all {l : List WrV} {u : Nat} {p : WrV → Prop} (h : ∀ k, u ≤ k → k < l.length → p (l.getD k w00)) : ∀ x ∈ l.drop u, p x := by
  intro x hx
  obtain ⟨i, hi, rfl⟩ := List.mem_iff_getElem.1 hx
  rw [List.length_drop] at hi
  rw [List.getElem_drop]
  have := h (u + i) (by omega) (by omega)
  rwa [List.getD_eq_getElem?_getD, List.getElem?_eq_getElem (by omega)] at this
theorem at_mid {P X S : List WrV} {k : Nat} (h : k < X.length) : (P ++ (X ++ S))[P.length + k]? = some (X.getD k w00) := by
  rw [List.getElem?_append_right (by omega), show P.length + k - P.length = k by omega, List.getElem?_append_left h, getD_some h]
theorem symm1_ok {w0 w : World} {ad : Addr} {n c : Nat} {l0 : List WrV} {P Y S : List WrV} {x : WrV} {f : FuncId} {cf : WrV → WrV → Int} (hcmp : CmpOk w0 ad l0 f cf) (hc : Cmp cf) (h : Sr w0 ad n c l0 w (P ++ (x :: (Y ++ S)))) (hY : SortedC cf Y) (hn : n ≤ 5864062014634)
    {a m b : Int} (ha : a = P.length) (hm : m = P.length + 1) (hb : b = P.length + 1 + Y.length) {R : VWK}
    (hR : ∀ w' Z, SortedC cf Z → SameK cf (x :: Y) Z → Sr w0 ad n c l0 w' (P ++ (Z ++ S)) → R (.tuple #[]) w') :
    CallsV Tryz.prog 140 [.slice (some ad) n c, .int .i64 a, .int .i64 m, .int .i64 b, .func (.func f) #[] #[]] w R := by
  have hlen := h.len
  simp only [List.length_append, List.length_cons] at hlen
  subst ha hm hb
  have hcall := fun xs w K tk => callK_func hcmp.can xs w (K := K) (tk := tk)
  obtain ⟨p, hp⟩ : ∃ p, p = P.length := ⟨_, rfl⟩
  have w1 : IntKind.i64.wrap ((P.length : Int) + 1 - P.length) = 1 := by rw [wrap_i64_in (by omega) (by omega)]; omega
  have hd1 : decide ((1 : Int) = 1) = true := rfl
  refine calls_of_wpC mixed Tryz.func140 rfl (by kernel_rfl) ?_
  intro e he
  have he0 := he 0
  have he1 := he 1
  have he2 := he 2
  have he3 := he 3
  have he4 := he 4
  simp only [List.getD_cons_zero, List.getD_cons_succ] at he0 he1 he2 he3 he4
  clear he
  repeat (first | rw [c_seq] | simp -dsimp only [↓RE,RU,RL,forall_const,implies_true,Nat.reduceLeDiff,Nat.reduceLT,pureOp,binPure,intBin,strBin,eqPure,isConstO,unPure,resK,endV,yieldE,↓reduceIte,Nat.reduceEqDiff,reduceCtorEq,Nat.reduceAdd,Nat.reduceMul,Int.reduceLT,Int.reduceLE,Int.reduceToNat,Int.reduceAdd,Int.reduceSub,decide_true,decide_false,tf140, he1, he2, he3, w1, hd1])
  refine wpLoop_intro (fun e' w' => (e' 0 = .slice (some ad) n c ∧ e' 1 = .int .i64 (p : Int) ∧ e' 4 = .func (.func f) #[] #[]) ∧ Grow w w' ∧ ∃ u v, u ≤ v ∧ v ≤ Y.length ∧ e' 10 = .int .i64 ((p + 1 + u : Nat) : Int) ∧ e' 11 = .int .i64 ((p + 1 + v : Nat) : Int) ∧ (∀ k, k < u → cf (Y.getD k w00) x < 0) ∧ (∀ k, v ≤ k → k < Y.length → ¬ cf (Y.getD k w00) x < 0))
    (fun e' _ => (envInt (e' 11)).toNat - (envInt (e' 10)).toNat) ⟨⟨?_, ?_, ?_⟩, Keep.refl _ _, 0, Y.length, Nat.zero_le _, Nat.le_refl _, ?_, ?_, fun k hk => absurd hk (by omega), fun k h1 h2 => absurd h2 (by omega)⟩ ?_
  · simp -dsimp only [↓RE,RU,RL,↓reduceIte,Nat.reduceEqDiff,reduceCtorEq,decide_true,decide_false, he0]
  · rw [hp]; simp -dsimp only [↓RE,↓c_seq,RU,RL,forall_const,implies_true,Nat.reduceLeDiff,Nat.reduceLT,pureOp,binPure,intBin,strBin,eqPure,isConstO,unPure,resK,endV,yieldE,↓reduceIte,Nat.reduceEqDiff,reduceCtorEq,Nat.reduceAdd,Nat.reduceMul,Int.reduceLT,Int.reduceLE,Int.reduceToNat,Int.reduceAdd,Int.reduceSub,decide_true,decide_false,tf140, he1]
  · simp -dsimp only [↓RE,RU,RL,↓reduceIte,Nat.reduceEqDiff,reduceCtorEq,decide_true,decide_false, he4]
  · rw [hp]; simp -dsimp only [↓RE,↓c_seq,RU,RL,forall_const,implies_true,Nat.reduceLeDiff,Nat.reduceLT,pureOp,binPure,intBin,strBin,eqPure,isConstO,unPure,resK,endV,yieldE,↓reduceIte,Nat.reduceEqDiff,reduceCtorEq,Nat.reduceAdd,Nat.reduceMul,Int.reduceLT,Int.reduceLE,Int.reduceToNat,Int.reduceAdd,Int.reduceSub,decide_true,decide_false,tf140, he2, Int.natCast_add, Int.cast_ofNat_Int, Int.add_zero]
  · rw [hp]; simp -dsimp only [↓RE,↓c_seq,RU,RL,forall_const,implies_true,Nat.reduceLeDiff,Nat.reduceLT,pureOp,binPure,intBin,strBin,eqPure,isConstO,unPure,resK,endV,yieldE,↓reduceIte,Nat.reduceEqDiff,reduceCtorEq,Nat.reduceAdd,Nat.reduceMul,Int.reduceLT,Int.reduceLE,Int.reduceToNat,Int.reduceAdd,Int.reduceSub,decide_true,decide_false,tf140, he3, Int.natCast_add, Int.cast_ofNat_Int]
  clear he0 he1 he2 he3 he4 e w1 hd1
  rintro e wz ⟨⟨he0, he1, he4⟩, gz, u, v, huv, hv, he10, he11, hlo, hhi⟩
  have hz := h.grow gz
  rcases Nat.lt_or_ge u v with hlt | hge
  · have hd : decide (((p + 1 + u : Nat) : Int) < ((p + 1 + v : Nat) : Int)) = true := decide_eq_true (by omega)
    have hh := half_ok (i := p + 1 + u) (j := p + 1 + v) (by omega) (by omega)
    obtain ⟨k, hk⟩ : ∃ k, (p + 1 + u + (p + 1 + v)) / 2 = p + 1 + k := ⟨(p + 1 + u + (p + 1 + v)) / 2 - (p + 1), by omega⟩
    rw [hk] at hh
    have hk1 : u ≤ k := by omega
    have hk2 : k < v := by omega
    have hmu : (envInt (e 11)).toNat - (envInt (e 10)).toNat = v - u := by rw [he10, he11]; simp only [envInt_int]; omega
    have s1 : (P ++ (x :: (Y ++ S)))[p + 1 + k]? = some (Y.getD k w00) := by
      have := at_mid (P := P ++ [x]) (X := Y) (S := S) (k := k) (by omega)
      rw [show (P ++ [x]).length = p + 1 by simp [hp]] at this
      rw [← this]; simp
    have s2 : (P ++ (x :: (Y ++ S)))[p]? = some x := by rw [hp]; simp
    have hym := h.mem _ (List.mem_of_getElem? s1)
    have hxm := h.mem _ (List.mem_of_getElem? s2)
    repeat (first | rw [c_seq] | simp -dsimp only [↓RE,RU,RL,forall_const,implies_true,Nat.reduceLeDiff,Nat.reduceLT,pureOp,binPure,intBin,strBin,eqPure,isConstO,unPure,resK,endV,yieldE,↓reduceIte,Nat.reduceEqDiff,reduceCtorEq,Nat.reduceAdd,Nat.reduceMul,Int.reduceLT,Int.reduceLE,Int.reduceToNat,Int.reduceAdd,Int.reduceSub,decide_true,decide_false,tf140, he10, he11, hd, hh])
    refine wpDraw_by (Grow wz ·) [(0, true), (1, true), (2, true), (3, true), (4, true), (5, true), (6, true), (7, true), (8, true), (9, false), (10, true)] (by kernel_rfl) (Grow.drew wz) ?_
    simp only [planL, List.getElem?_toArray, List.getElem?_cons_zero, List.getElem?_cons_succ, Option.toList_some, List.map_cons, List.map_nil, List.cons_append, List.nil_append]
    repeat (first | rw [c_seq] | simp -dsimp only [↓RE,RU,RL,forall_const,implies_true,Nat.reduceLeDiff,Nat.reduceLT,pureOp,binPure,intBin,strBin,eqPure,isConstO,unPure,resK,endV,yieldE,↓reduceIte,Nat.reduceEqDiff,reduceCtorEq,Nat.reduceAdd,Nat.reduceMul,Int.reduceLT,Int.reduceLE,Int.reduceToNat,Int.reduceAdd,Int.reduceSub,decide_true,decide_false,tf140, he0, he1, he4, hh, Int.toNat_natCast])
    refine ⟨⟨by omega, by omega⟩, (Y.getD k w00).cells, rfl, fun w' g' => (hz.grow g').cells s1, ?_⟩
    repeat (first | rw [c_seq] | simp -dsimp only [↓RE,RU,RL,forall_const,implies_true,Nat.reduceLeDiff,Nat.reduceLT,pureOp,binPure,intBin,strBin,eqPure,isConstO,unPure,resK,endV,yieldE,↓reduceIte,Nat.reduceEqDiff,reduceCtorEq,Nat.reduceAdd,Nat.reduceMul,Int.reduceLT,Int.reduceLE,Int.reduceToNat,Int.reduceAdd,Int.reduceSub,decide_true,decide_false,tf140, he0, he1, he4, hh, Int.toNat_natCast])
    refine ⟨⟨by omega, by omega⟩, x.cells, rfl, fun w' g' => (hz.grow g').cells s2, ?_⟩
    repeat (first | rw [c_seq] | simp -dsimp only [↓RE,RU,RL,forall_const,implies_true,Nat.reduceLeDiff,Nat.reduceLT,pureOp,binPure,intBin,strBin,eqPure,isConstO,unPure,resK,endV,yieldE,↓reduceIte,Nat.reduceEqDiff,reduceCtorEq,Nat.reduceAdd,Nat.reduceMul,Int.reduceLT,Int.reduceLE,Int.reduceToNat,Int.reduceAdd,Int.reduceSub,decide_true,decide_false,tf140, he0, he4, hcall])
    refine hcmp.cmp wz.drew (hz.keep.then_grow (Grow.drew wz)) _ hym x hxm _ (fun w5 g5 => ?_)
    refine ⟨(Grow.drew wz).trans g5, ?_⟩
    have g6 := (gz.trans (Grow.drew wz)).trans g5
    have v1 : IntKind.i64.wrap (((p + 1 + k : Nat) : Int) + 1) = ((p + 1 + (k + 1) : Nat) : Int) := by rw [wrap_i64_in (by omega) (by omega)]; omega
    by_cases hlt2 : cf (Y.getD k w00) x < 0
    · have hd3 : decide (cf (Y.getD k w00) x < 0) = true := decide_eq_true hlt2
      repeat (first | rw [c_seq] | simp -dsimp only [↓RE,RU,RL,forall_const,implies_true,Nat.reduceLeDiff,Nat.reduceLT,pureOp,binPure,intBin,strBin,eqPure,isConstO,unPure,resK,endV,yieldE,↓reduceIte,Nat.reduceEqDiff,reduceCtorEq,Nat.reduceAdd,Nat.reduceMul,Int.reduceLT,Int.reduceLE,Int.reduceToNat,Int.reduceAdd,Int.reduceSub,decide_true,decide_false,tf140, hd3, hh, v1])
      refine hold_intro ⟨⟨⟨?_, ?_, ?_⟩, g6, k + 1, v, by omega, hv, ?_, ?_, fun i hi => ?_, hhi⟩, ?_⟩
      · simp -dsimp only [↓RE,RU,RL,↓reduceIte,Nat.reduceEqDiff,reduceCtorEq,decide_true,decide_false, he0]
      · simp -dsimp only [↓RE,RU,RL,↓reduceIte,Nat.reduceEqDiff,reduceCtorEq,decide_true,decide_false, he1]
      · simp -dsimp only [↓RE,RU,RL,↓reduceIte,Nat.reduceEqDiff,reduceCtorEq,decide_true,decide_false, he4]
      · simp -dsimp only [↓RE,RU,RL,↓reduceIte,Nat.reduceEqDiff,reduceCtorEq,decide_true,decide_false, hh, v1]
      · simp -dsimp only [↓RE,RU,RL,↓reduceIte,Nat.reduceEqDiff,reduceCtorEq,decide_true,decide_false, he11]
      · rcases Nat.lt_or_eq_of_le (Nat.lt_succ_iff.1 hi) with h1 | rfl
        · have := hY.at (d := w00) (i := i) (j := k) h1 (by omega)
          exact hc.le_lt this hlt2
        · exact hlt2
      · rw [hmu]
        simp -dsimp only [↓RE,↓c_seq,RU,RL,forall_const,implies_true,Nat.reduceLeDiff,Nat.reduceLT,pureOp,binPure,intBin,strBin,eqPure,isConstO,unPure,resK,endV,yieldE,↓reduceIte,Nat.reduceEqDiff,reduceCtorEq,Nat.reduceAdd,Nat.reduceMul,Int.reduceLT,Int.reduceLE,Int.reduceToNat,Int.reduceAdd,Int.reduceSub,decide_true,decide_false,tf140, he11, hh, v1, envInt, Int.toNat_natCast]
        omega
    · have hd3 : decide (cf (Y.getD k w00) x < 0) = false := decide_eq_false hlt2
      repeat (first | rw [c_seq] | simp -dsimp only [↓RE,RU,RL,forall_const,implies_true,Nat.reduceLeDiff,Nat.reduceLT,pureOp,binPure,intBin,strBin,eqPure,isConstO,unPure,resK,endV,yieldE,↓reduceIte,Nat.reduceEqDiff,reduceCtorEq,Nat.reduceAdd,Nat.reduceMul,Int.reduceLT,Int.reduceLE,Int.reduceToNat,Int.reduceAdd,Int.reduceSub,decide_true,decide_false,tf140, hd3, hh, v1])
      refine hold_intro ⟨⟨⟨?_, ?_, ?_⟩, g6, u, k, hk1, by omega, ?_, ?_, hlo, fun i h1 h2 => ?_⟩, ?_⟩
      · simp -dsimp only [↓RE,RU,RL,↓reduceIte,Nat.reduceEqDiff,reduceCtorEq,decide_true,decide_false, he0]
      · simp -dsimp only [↓RE,RU,RL,↓reduceIte,Nat.reduceEqDiff,reduceCtorEq,decide_true,decide_false, he1]
      · simp -dsimp only [↓RE,RU,RL,↓reduceIte,Nat.reduceEqDiff,reduceCtorEq,decide_true,decide_false, he4]
      · simp -dsimp only [↓RE,RU,RL,↓reduceIte,Nat.reduceEqDiff,reduceCtorEq,decide_true,decide_false, he10]
      · simp -dsimp only [↓RE,RU,RL,↓reduceIte,Nat.reduceEqDiff,reduceCtorEq,decide_true,decide_false, hh, v1]
      · rcases Nat.lt_or_eq_of_le h1 with h1 | rfl
        · intro hlt3
          have := hY.at (d := w00) (i := k) (j := i) h1 (by omega)
          exact hlt2 (hc.le_lt this hlt3)
        · exact hlt2
      · rw [hmu]
        simp -dsimp only [↓RE,↓c_seq,RU,RL,forall_const,implies_true,Nat.reduceLeDiff,Nat.reduceLT,pureOp,binPure,intBin,strBin,eqPure,isConstO,unPure,resK,endV,yieldE,↓reduceIte,Nat.reduceEqDiff,reduceCtorEq,Nat.reduceAdd,Nat.reduceMul,Int.reduceLT,Int.reduceLE,Int.reduceToNat,Int.reduceAdd,Int.reduceSub,decide_true,decide_false,tf140, he10, hh, v1, envInt, Int.toNat_natCast]
        omega
  · have huv' : u = v := by omega
    subst huv'
    have hd : decide (((p + 1 + u : Nat) : Int) < ((p + 1 + u : Nat) : Int)) = false := decide_eq_false (by omega)
    have h1 := take_all (p := fun z => cf z x < 0) hlo hv
    have h2 : ∀ z ∈ Y.drop u, cf x z ≤ 0 := drop_all (p := fun z => cf x z ≤ 0) (fun k h1 h2 => by have := hhi k h1 h2; have := hc.neg (Y.getD k w00) x; omega)
    have eY : Y.take u ++ Y.drop u = Y := List.take_append_drop _ _
    obtain ⟨f1, f2⟩ := ins_front hc (Y1 := Y.take u) (Y2 := Y.drop u) (x := x) (by rw [eY]; exact hY) h1 h2
    rw [eY] at f2
    have v2 : IntKind.i64.wrap (((p + 1 + u : Nat) : Int) - 1) = ((p + u : Nat) : Int) := by rw [wrap_i64_in (by omega) (by omega)]; omega
    repeat (first | rw [c_seq] | simp -dsimp only [↓RE,RU,RL,forall_const,implies_true,Nat.reduceLeDiff,Nat.reduceLT,pureOp,binPure,intBin,strBin,eqPure,isConstO,unPure,resK,endV,yieldE,↓reduceIte,Nat.reduceEqDiff,reduceCtorEq,Nat.reduceAdd,Nat.reduceMul,Int.reduceLT,Int.reduceLE,Int.reduceToNat,Int.reduceAdd,Int.reduceSub,decide_true,decide_false,tf140, he10, he11, hd, he1])
    refine wpLoop_intro (fun e' w' => (e' 0 = .slice (some ad) n c ∧ e' 10 = .int .i64 ((p + 1 + u : Nat) : Int)) ∧ ∃ t, t ≤ u ∧ e' 13 = .int .i64 ((p + t : Nat) : Int) ∧ Sr w0 ad n c l0 w' (P ++ (Y.take t ++ x :: (Y.drop t ++ S))))
      (fun e' _ => p + u - (envInt (e' 13)).toNat) ⟨⟨?_, ?_⟩, 0, Nat.zero_le _, ?_, ?_⟩ ?_
    · simp -dsimp only [↓RE,RU,RL,↓reduceIte,Nat.reduceEqDiff,reduceCtorEq,decide_true,decide_false, he0]
    · simp -dsimp only [↓RE,RU,RL,↓reduceIte,Nat.reduceEqDiff,reduceCtorEq,decide_true,decide_false, he10]
    · simp -dsimp only [↓RE,RU,RL,↓reduceIte,Nat.reduceEqDiff,reduceCtorEq,decide_true,decide_false, he1, Nat.add_zero]
    · simpa using hz
    clear he0 he1 he4 he10 he11 hz e hlo hhi
    rintro e wz ⟨⟨he0, he10⟩, t, ht, he13, hz⟩
    rcases Nat.lt_or_ge t u with hlt | hge
    · have hd : decide (((p + t : Nat) : Int) < ((p + u : Nat) : Int)) = true := decide_eq_true (by omega)
      have hmu : (envInt (e 13)).toNat = p + t := by rw [he13]; exact Int.toNat_natCast _
      have v3 : IntKind.i64.wrap (((p + t : Nat) : Int) + 1) = ((p + (t + 1) : Nat) : Int) := by rw [wrap_i64_in (by omega) (by omega)]; omega
      obtain ⟨y, hy⟩ : ∃ y, y = Y[t]'(by omega) := ⟨_, rfl⟩
      have eD : Y.drop t = y :: Y.drop (t + 1) := by rw [List.drop_eq_getElem_cons (by omega), ← hy]
      have eT : Y.take (t + 1) = Y.take t ++ [y] := by rw [List.take_succ_eq_append_getElem (by omega), ← hy]
      have e1 : P ++ (Y.take t ++ x :: (Y.drop t ++ S)) = (P ++ Y.take t) ++ x :: ([] ++ y :: (Y.drop (t + 1) ++ S)) := by rw [eD]; simp [List.append_assoc]
      have e2 : P ++ (Y.take (t + 1) ++ x :: (Y.drop (t + 1) ++ S)) = (P ++ Y.take t) ++ y :: ([] ++ x :: (Y.drop (t + 1) ++ S)) := by rw [eT]; simp [List.append_assoc]
      obtain ⟨s1, s2, s3, s4⟩ := swap_at (P ++ Y.take t) [] (Y.drop (t + 1) ++ S) x y
      rw [← e1, ← e2] at s3
      rw [← e1] at s1 s2
      have l1 : (P ++ Y.take t).length = p + t := by rw [List.length_append, List.length_take, hp]; omega
      rw [l1] at s1 s2 s3
      rw [List.length_nil, Nat.add_zero] at s2 s3
      have hxm := hz.mem _ (List.mem_of_getElem? s1)
      have hym := hz.mem _ (List.mem_of_getElem? s2)
      repeat (first | rw [c_seq] | simp -dsimp only [↓RE,RU,RL,forall_const,implies_true,Nat.reduceLeDiff,Nat.reduceLT,pureOp,binPure,intBin,strBin,eqPure,isConstO,unPure,resK,endV,yieldE,↓reduceIte,Nat.reduceEqDiff,reduceCtorEq,Nat.reduceAdd,Nat.reduceMul,Int.reduceLT,Int.reduceLE,Int.reduceToNat,Int.reduceAdd,Int.reduceSub,decide_true,decide_false,tf140, he13, he10, v2, hd])
      refine wpDraw_swap (Sr w0 ad n c l0 · _) [0, 1, 2, 3, 4, 5, 6, 7, 8, 9, 10, 11, 12, 13, 14] 15 [15, 16, 17] (by kernel_rfl) (hz.grow (Grow.drew wz)) ?_
      simp only [List.filterMap_cons, List.filterMap_nil, planL, List.getElem?_toArray, List.getElem?_cons_zero, List.getElem?_cons_succ, Option.toList_some, List.map_cons, List.map_nil, List.cons_append, List.nil_append]
      repeat (first | rw [c_seq] | simp -dsimp only [↓RE,RU,RL,forall_const,implies_true,Nat.reduceLeDiff,Nat.reduceLT,pureOp,binPure,intBin,strBin,eqPure,isConstO,unPure,resK,endV,yieldE,↓reduceIte,Nat.reduceEqDiff,reduceCtorEq,Nat.reduceAdd,Nat.reduceMul,Int.reduceLT,Int.reduceLE,Int.reduceToNat,Int.reduceAdd,Int.reduceSub,decide_true,decide_false,tf140, he0, he13, v3, Int.toNat_natCast])
      refine ⟨⟨by omega, by omega⟩, y.cells, rfl, fun w' hw' => hw'.cells (k := p + (t + 1)) s2, ?_⟩
      repeat (first | rw [c_seq] | simp -dsimp only [↓RE,RU,RL,forall_const,implies_true,Nat.reduceLeDiff,Nat.reduceLT,pureOp,binPure,intBin,strBin,eqPure,isConstO,unPure,resK,endV,yieldE,↓reduceIte,Nat.reduceEqDiff,reduceCtorEq,Nat.reduceAdd,Nat.reduceMul,Int.reduceLT,Int.reduceLE,Int.reduceToNat,Int.reduceAdd,Int.reduceSub,decide_true,decide_false,tf140, he0, he13, v3, Int.toNat_natCast])
      refine ⟨⟨by omega, by omega⟩, x.cells, rfl, fun w' hw' => hw'.cells s1, ?_⟩
      repeat (first | rw [c_seq] | simp -dsimp only [↓RE,RU,RL,forall_const,implies_true,Nat.reduceLeDiff,Nat.reduceLT,pureOp,binPure,intBin,strBin,eqPure,isConstO,unPure,resK,endV,yieldE,↓reduceIte,Nat.reduceEqDiff,reduceCtorEq,Nat.reduceAdd,Nat.reduceMul,Int.reduceLT,Int.reduceLE,Int.reduceToNat,Int.reduceAdd,Int.reduceSub,decide_true,decide_false,tf140, he0, he13, v3, Int.toNat_natCast])
      refine ⟨⟨by omega, by omega⟩, rfl, (hz.grow (Grow.drew wz)).set (k := p + t) (by omega) hym (fun w6 h6 => ?_)⟩
      repeat (first | rw [c_seq] | simp -dsimp only [↓RE,RU,RL,forall_const,implies_true,Nat.reduceLeDiff,Nat.reduceLT,pureOp,binPure,intBin,strBin,eqPure,isConstO,unPure,resK,endV,yieldE,↓reduceIte,Nat.reduceEqDiff,reduceCtorEq,Nat.reduceAdd,Nat.reduceMul,Int.reduceLT,Int.reduceLE,Int.reduceToNat,Int.reduceAdd,Int.reduceSub,decide_true,decide_false,tf140, he0, he13, v3, Int.toNat_natCast])
      refine ⟨⟨by omega, by omega⟩, rfl, h6.set (k := p + (t + 1)) (by omega) hxm (fun w7 h7 => ?_)⟩
      have h7 : Sr w0 ad n c l0 w7 (P ++ (Y.take (t + 1) ++ x :: (Y.drop (t + 1) ++ S))) := by rw [← s3]; exact h7
      repeat (first | rw [c_seq] | simp -dsimp only [↓RE,RU,RL,forall_const,implies_true,Nat.reduceLeDiff,Nat.reduceLT,pureOp,binPure,intBin,strBin,eqPure,isConstO,unPure,resK,endV,yieldE,↓reduceIte,Nat.reduceEqDiff,reduceCtorEq,Nat.reduceAdd,Nat.reduceMul,Int.reduceLT,Int.reduceLE,Int.reduceToNat,Int.reduceAdd,Int.reduceSub,decide_true,decide_false,tf140, he13, v3])
      refine hold_intro ⟨⟨⟨?_, ?_⟩, t + 1, hlt, ?_, h7⟩, ?_⟩
      · simp -dsimp only [↓RE,RU,RL,↓reduceIte,Nat.reduceEqDiff,reduceCtorEq,decide_true,decide_false, he0]
      · simp -dsimp only [↓RE,RU,RL,↓reduceIte,Nat.reduceEqDiff,reduceCtorEq,decide_true,decide_false, he10]
      · simp -dsimp only [↓RE,RU,RL,↓reduceIte,Nat.reduceEqDiff,reduceCtorEq,decide_true,decide_false, he13, v3]
      · rw [hmu]
        simp -dsimp only [↓RE,↓c_seq,RU,RL,forall_const,implies_true,Nat.reduceLeDiff,Nat.reduceLT,pureOp,binPure,intBin,strBin,eqPure,isConstO,unPure,resK,endV,yieldE,↓reduceIte,Nat.reduceEqDiff,reduceCtorEq,Nat.reduceAdd,Nat.reduceMul,Int.reduceLT,Int.reduceLE,Int.reduceToNat,Int.reduceAdd,Int.reduceSub,decide_true,decide_false,tf140, he13, v3, envInt, Int.toNat_natCast]
        omega
    · have htu : t = u := by omega
      subst htu
      have hd : decide (((p + t : Nat) : Int) < ((p + t : Nat) : Int)) = false := decide_eq_false (by omega)
      repeat (first | rw [c_seq] | simp -dsimp only [↓RE,RU,RL,forall_const,implies_true,Nat.reduceLeDiff,Nat.reduceLT,pureOp,binPure,intBin,strBin,eqPure,isConstO,unPure,resK,endV,yieldE,↓reduceIte,Nat.reduceEqDiff,reduceCtorEq,Nat.reduceAdd,Nat.reduceMul,Int.reduceLT,Int.reduceLE,Int.reduceToNat,Int.reduceAdd,Int.reduceSub,decide_true,decide_false,tf140, he13, he10, v2, hd])
      refine hR wz _ f1 f2 ?_
      rw [List.append_assoc]
      exact hz

end Go.Proofs.YtljgnocpijniiaaGreatDoor

namespace Go.Proofs.YtljgnocpijniiaaGreatDoor
open Go

theorem symm2_ok {w0 w : World} {ad : Addr} {n c : Nat} {l0 : List WrV} {P X S : List WrV} {y : WrV} {f : FuncId} {cf : WrV → WrV → Int} (hcmp : CmpOk w0 ad l0 f cf) (hc : Cmp cf) (h : Sr w0 ad n c l0 w (P ++ (X ++ (y :: S)))) (hX : SortedC cf X) (hX2 : 2 ≤ X.length) (hn : n ≤ 5864062014634)
    {a m b : Int} (ha : a = P.length) (hm : m = P.length + X.length) (hb : b = P.length + X.length + 1) {R : VWK}
    (hR : ∀ w' Z, SortedC cf Z → SameK cf (X ++ [y]) Z → Sr w0 ad n c l0 w' (P ++ (Z ++ S)) → R (.tuple #[]) w') :
    CallsV Tryz.prog 140 [.slice (some ad) n c, .int .i64 a, .int .i64 m, .int .i64 b, .func (.func f) #[] #[]] w R := by
  have hlen := h.len
  simp only [List.length_append, List.length_cons] at hlen
  subst ha hm hb
  have hcall := fun xs w K tk => callK_func hcmp.can xs w (K := K) (tk := tk)
  obtain ⟨p, hp⟩ : ∃ p, p = P.length := ⟨_, rfl⟩
  have w1 : IntKind.i64.wrap ((P.length : Int) + X.length - P.length) = (X.length : Int) := by rw [wrap_i64_in (by omega) (by omega)]; omega
  have hd1 : decide ((X.length : Int) = 1) = false := decide_eq_false (by omega)
  have w2 : IntKind.i64.wrap ((P.length : Int) + X.length + 1 - (P.length + X.length)) = 1 := by rw [wrap_i64_in (by omega) (by omega)]; omega
  have hd2 : decide ((1 : Int) = 1) = true := rfl
  refine calls_of_wpC mixed Tryz.func140 rfl (by kernel_rfl) ?_
  intro e he
  have he0 := he 0
  have he1 := he 1
  have he2 := he 2
  have he3 := he 3
  have he4 := he 4
  simp only [List.getD_cons_zero, List.getD_cons_succ] at he0 he1 he2 he3 he4
  clear he
  repeat (first | rw [c_seq] | simp -dsimp only [↓RE,RU,RL,forall_const,implies_true,Nat.reduceLeDiff,Nat.reduceLT,pureOp,binPure,intBin,strBin,eqPure,isConstO,unPure,resK,endV,yieldE,↓reduceIte,Nat.reduceEqDiff,reduceCtorEq,Nat.reduceAdd,Nat.reduceMul,Int.reduceLT,Int.reduceLE,Int.reduceToNat,Int.reduceAdd,Int.reduceSub,decide_true,decide_false,tf140, he1, he2, he3, w1, hd1, w2, hd2])
  refine wpLoop_intro (fun e' w' => (e' 0 = .slice (some ad) n c ∧ e' 2 = .int .i64 ((p + X.length : Nat) : Int) ∧ e' 4 = .func (.func f) #[] #[]) ∧ Grow w w' ∧ ∃ u v, u ≤ v ∧ v ≤ X.length ∧ e' 14 = .int .i64 ((p + u : Nat) : Int) ∧ e' 15 = .int .i64 ((p + v : Nat) : Int) ∧ (∀ k, k < u → cf (X.getD k w00) y ≤ 0) ∧ (∀ k, v ≤ k → k < X.length → cf y (X.getD k w00) < 0))
    (fun e' _ => (envInt (e' 15)).toNat - (envInt (e' 14)).toNat) ⟨⟨?_, ?_, ?_⟩, Keep.refl _ _, 0, X.length, Nat.zero_le _, Nat.le_refl _, ?_, ?_, fun k hk => absurd hk (by omega), fun k h1 h2 => absurd h2 (by omega)⟩ ?_
  · simp -dsimp only [↓RE,RU,RL,↓reduceIte,Nat.reduceEqDiff,reduceCtorEq,decide_true,decide_false, he0]
  · rw [hp]; simp -dsimp only [↓RE,↓c_seq,RU,RL,forall_const,implies_true,Nat.reduceLeDiff,Nat.reduceLT,pureOp,binPure,intBin,strBin,eqPure,isConstO,unPure,resK,endV,yieldE,↓reduceIte,Nat.reduceEqDiff,reduceCtorEq,Nat.reduceAdd,Nat.reduceMul,Int.reduceLT,Int.reduceLE,Int.reduceToNat,Int.reduceAdd,Int.reduceSub,decide_true,decide_false,tf140, he2, Int.natCast_add]
  · simp -dsimp only [↓RE,RU,RL,↓reduceIte,Nat.reduceEqDiff,reduceCtorEq,decide_true,decide_false, he4]
  · rw [hp]; simp -dsimp only [↓RE,↓c_seq,RU,RL,forall_const,implies_true,Nat.reduceLeDiff,Nat.reduceLT,pureOp,binPure,intBin,strBin,eqPure,isConstO,unPure,resK,endV,yieldE,↓reduceIte,Nat.reduceEqDiff,reduceCtorEq,Nat.reduceAdd,Nat.reduceMul,Int.reduceLT,Int.reduceLE,Int.reduceToNat,Int.reduceAdd,Int.reduceSub,decide_true,decide_false,tf140, he1, Int.natCast_add, Int.cast_ofNat_Int, Int.add_zero]
  · rw [hp]; simp -dsimp only [↓RE,↓c_seq,RU,RL,forall_const,implies_true,Nat.reduceLeDiff,Nat.reduceLT,pureOp,binPure,intBin,strBin,eqPure,isConstO,unPure,resK,endV,yieldE,↓reduceIte,Nat.reduceEqDiff,reduceCtorEq,Nat.reduceAdd,Nat.reduceMul,Int.reduceLT,Int.reduceLE,Int.reduceToNat,Int.reduceAdd,Int.reduceSub,decide_true,decide_false,tf140, he2, Int.natCast_add, Int.cast_ofNat_Int]
  clear he0 he1 he2 he3 he4 e w1 hd1 w2 hd2
  rintro e wz ⟨⟨he0, he2, he4⟩, gz, u, v, huv, hv, he14, he15, hlo, hhi⟩
  have hz := h.grow gz
  rcases Nat.lt_or_ge u v with hlt | hge
  · have hd : decide (((p + u : Nat) : Int) < ((p + v : Nat) : Int)) = true := decide_eq_true (by omega)
    have hh := half_ok (i := p + u) (j := p + v) (by omega) (by omega)
    obtain ⟨k, hk⟩ : ∃ k, (p + u + (p + v)) / 2 = p + k := ⟨(p + u + (p + v)) / 2 - p, by omega⟩
    rw [hk] at hh
    have hk1 : u ≤ k := by omega
    have hk2 : k < v := by omega
    have hmu : (envInt (e 15)).toNat - (envInt (e 14)).toNat = v - u := by rw [he14, he15]; simp only [envInt_int]; omega
    have s1 : (P ++ (X ++ (y :: S)))[p + k]? = some (X.getD k w00) := by
      rw [hp]; exact at_mid (by omega)
    have s2 : (P ++ (X ++ (y :: S)))[p + X.length]? = some y := by
      rw [hp, ← List.append_assoc, List.getElem?_append_right (by simp)]; simp
    have hxm := h.mem _ (List.mem_of_getElem? s1)
    have hym := h.mem _ (List.mem_of_getElem? s2)
    repeat (first | rw [c_seq] | simp -dsimp only [↓RE,RU,RL,forall_const,implies_true,Nat.reduceLeDiff,Nat.reduceLT,pureOp,binPure,intBin,strBin,eqPure,isConstO,unPure,resK,endV,yieldE,↓reduceIte,Nat.reduceEqDiff,reduceCtorEq,Nat.reduceAdd,Nat.reduceMul,Int.reduceLT,Int.reduceLE,Int.reduceToNat,Int.reduceAdd,Int.reduceSub,decide_true,decide_false,tf140, he14, he15, hd, hh])
    refine wpDraw_by (Grow wz ·) [(0, true), (1, true), (2, true), (3, true), (4, true), (5, true), (6, true), (7, true), (8, true), (9, false), (10, true), (11, true)] (by kernel_rfl) (Grow.drew wz) ?_
    simp only [planL, List.getElem?_toArray, List.getElem?_cons_zero, List.getElem?_cons_succ, Option.toList_some, List.map_cons, List.map_nil, List.cons_append, List.nil_append]
    repeat (first | rw [c_seq] | simp -dsimp only [↓RE,RU,RL,forall_const,implies_true,Nat.reduceLeDiff,Nat.reduceLT,pureOp,binPure,intBin,strBin,eqPure,isConstO,unPure,resK,endV,yieldE,↓reduceIte,Nat.reduceEqDiff,reduceCtorEq,Nat.reduceAdd,Nat.reduceMul,Int.reduceLT,Int.reduceLE,Int.reduceToNat,Int.reduceAdd,Int.reduceSub,decide_true,decide_false,tf140, he0, he2, he4, hh, Int.toNat_natCast])
    refine ⟨⟨by omega, by omega⟩, y.cells, rfl, fun w' g' => (hz.grow g').cells s2, ?_⟩
    repeat (first | rw [c_seq] | simp -dsimp only [↓RE,RU,RL,forall_const,implies_true,Nat.reduceLeDiff,Nat.reduceLT,pureOp,binPure,intBin,strBin,eqPure,isConstO,unPure,resK,endV,yieldE,↓reduceIte,Nat.reduceEqDiff,reduceCtorEq,Nat.reduceAdd,Nat.reduceMul,Int.reduceLT,Int.reduceLE,Int.reduceToNat,Int.reduceAdd,Int.reduceSub,decide_true,decide_false,tf140, he0, he2, he4, hh, Int.toNat_natCast])
    refine ⟨⟨by omega, by omega⟩, (X.getD k w00).cells, rfl, fun w' g' => (hz.grow g').cells s1, ?_⟩
    repeat (first | rw [c_seq] | simp -dsimp only [↓RE,RU,RL,forall_const,implies_true,Nat.reduceLeDiff,Nat.reduceLT,pureOp,binPure,intBin,strBin,eqPure,isConstO,unPure,resK,endV,yieldE,↓reduceIte,Nat.reduceEqDiff,reduceCtorEq,Nat.reduceAdd,Nat.reduceMul,Int.reduceLT,Int.reduceLE,Int.reduceToNat,Int.reduceAdd,Int.reduceSub,decide_true,decide_false,tf140, he0, he4, hcall])
    refine hcmp.cmp wz.drew (hz.keep.then_grow (Grow.drew wz)) y hym _ hxm _ (fun w5 g5 => ?_)
    refine ⟨(Grow.drew wz).trans g5, ?_⟩
    have g6 := (gz.trans (Grow.drew wz)).trans g5
    have v1 : IntKind.i64.wrap (((p + k : Nat) : Int) + 1) = ((p + (k + 1) : Nat) : Int) := by rw [wrap_i64_in (by omega) (by omega)]; omega
    by_cases hlt2 : cf y (X.getD k w00) < 0
    · have hd3 : decide (cf y (X.getD k w00) < 0) = true := decide_eq_true hlt2
      repeat (first | rw [c_seq] | simp -dsimp only [↓RE,RU,RL,forall_const,implies_true,Nat.reduceLeDiff,Nat.reduceLT,pureOp,binPure,intBin,strBin,eqPure,isConstO,unPure,resK,endV,yieldE,↓reduceIte,Nat.reduceEqDiff,reduceCtorEq,Nat.reduceAdd,Nat.reduceMul,Int.reduceLT,Int.reduceLE,Int.reduceToNat,Int.reduceAdd,Int.reduceSub,decide_true,decide_false,tf140, hd3, hh, v1, Bool.not_true])
      refine hold_intro ⟨⟨⟨?_, ?_, ?_⟩, g6, u, k, hk1, by omega, ?_, ?_, hlo, fun i h1 h2 => ?_⟩, ?_⟩
      · simp -dsimp only [↓RE,RU,RL,↓reduceIte,Nat.reduceEqDiff,reduceCtorEq,decide_true,decide_false, he0]
      · simp -dsimp only [↓RE,RU,RL,↓reduceIte,Nat.reduceEqDiff,reduceCtorEq,decide_true,decide_false, he2]
      · simp -dsimp only [↓RE,RU,RL,↓reduceIte,Nat.reduceEqDiff,reduceCtorEq,decide_true,decide_false, he4]
      · simp -dsimp only [↓RE,RU,RL,↓reduceIte,Nat.reduceEqDiff,reduceCtorEq,decide_true,decide_false, he14]
      · simp -dsimp only [↓RE,RU,RL,↓reduceIte,Nat.reduceEqDiff,reduceCtorEq,decide_true,decide_false, hh, v1]
      · rcases Nat.lt_or_eq_of_le h1 with h1 | rfl
        · have := hX.at (d := w00) (i := k) (j := i) h1 (by omega)
          exact hc.lt_le hlt2 this
        · exact hlt2
      · rw [hmu]
        simp -dsimp only [↓RE,↓c_seq,RU,RL,forall_const,implies_true,Nat.reduceLeDiff,Nat.reduceLT,pureOp,binPure,intBin,strBin,eqPure,isConstO,unPure,resK,endV,yieldE,↓reduceIte,Nat.reduceEqDiff,reduceCtorEq,Nat.reduceAdd,Nat.reduceMul,Int.reduceLT,Int.reduceLE,Int.reduceToNat,Int.reduceAdd,Int.reduceSub,decide_true,decide_false,tf140, he14, hh, v1, envInt, Int.toNat_natCast]
        omega
    · have hd3 : decide (cf y (X.getD k w00) < 0) = false := decide_eq_false hlt2
      have hxy : cf (X.getD k w00) y ≤ 0 := by have := hc.neg y (X.getD k w00); omega
      repeat (first | rw [c_seq] | simp -dsimp only [↓RE,RU,RL,forall_const,implies_true,Nat.reduceLeDiff,Nat.reduceLT,pureOp,binPure,intBin,strBin,eqPure,isConstO,unPure,resK,endV,yieldE,↓reduceIte,Nat.reduceEqDiff,reduceCtorEq,Nat.reduceAdd,Nat.reduceMul,Int.reduceLT,Int.reduceLE,Int.reduceToNat,Int.reduceAdd,Int.reduceSub,decide_true,decide_false,tf140, hd3, hh, v1, Bool.not_false])
      refine hold_intro ⟨⟨⟨?_, ?_, ?_⟩, g6, k + 1, v, by omega, hv, ?_, ?_, fun i hi => ?_, hhi⟩, ?_⟩
      · simp -dsimp only [↓RE,RU,RL,↓reduceIte,Nat.reduceEqDiff,reduceCtorEq,decide_true,decide_false, he0]
      · simp -dsimp only [↓RE,RU,RL,↓reduceIte,Nat.reduceEqDiff,reduceCtorEq,decide_true,decide_false, he2]
      · simp -dsimp only [↓RE,RU,RL,↓reduceIte,Nat.reduceEqDiff,reduceCtorEq,decide_true,decide_false, he4]
      · simp -dsimp only [↓RE,RU,RL,↓reduceIte,Nat.reduceEqDiff,reduceCtorEq,decide_true,decide_false, hh, v1]
      · simp -dsimp only [↓RE,RU,RL,↓reduceIte,Nat.reduceEqDiff,reduceCtorEq,decide_true,decide_false, he15]
      · rcases Nat.lt_or_eq_of_le (Nat.lt_succ_iff.1 hi) with h1 | rfl
        · have := hX.at (d := w00) (i := i) (j := k) h1 (by omega)
          exact hc.tr _ _ _ this hxy
        · exact hxy
      · rw [hmu]
        simp -dsimp only [↓RE,↓c_seq,RU,RL,forall_const,implies_true,Nat.reduceLeDiff,Nat.reduceLT,pureOp,binPure,intBin,strBin,eqPure,isConstO,unPure,resK,endV,yieldE,↓reduceIte,Nat.reduceEqDiff,reduceCtorEq,Nat.reduceAdd,Nat.reduceMul,Int.reduceLT,Int.reduceLE,Int.reduceToNat,Int.reduceAdd,Int.reduceSub,decide_true,decide_false,tf140, he15, hh, v1, envInt, Int.toNat_natCast]
        omega
  · have huv' : u = v := by omega
    subst huv'
    have hd : decide (((p + u : Nat) : Int) < ((p + u : Nat) : Int)) = false := decide_eq_false (by omega)
    have h1 := take_all (p := fun z => cf z y ≤ 0) hlo hv
    have h2 := drop_all (p := fun z => cf y z < 0) hhi
    have eX : X.take u ++ X.drop u = X := List.take_append_drop _ _
    obtain ⟨f1, f2⟩ := ins_done hc (X1 := X.take u) (X2 := X.drop u) (x := y) (by rw [eX]; exact hX) h2 h1
    rw [eX] at f2
    repeat (first | rw [c_seq] | simp -dsimp only [↓RE,RU,RL,forall_const,implies_true,Nat.reduceLeDiff,Nat.reduceLT,pureOp,binPure,intBin,strBin,eqPure,isConstO,unPure,resK,endV,yieldE,↓reduceIte,Nat.reduceEqDiff,reduceCtorEq,Nat.reduceAdd,Nat.reduceMul,Int.reduceLT,Int.reduceLE,Int.reduceToNat,Int.reduceAdd,Int.reduceSub,decide_true,decide_false,tf140, he14, he15, hd, he2])
    refine wpLoop_intro (fun e' w' => (e' 0 = .slice (some ad) n c ∧ e' 14 = .int .i64 ((p + u : Nat) : Int)) ∧ ∃ t, u ≤ t ∧ t ≤ X.length ∧ e' 17 = .int .i64 ((p + t : Nat) : Int) ∧ Sr w0 ad n c l0 w' (P ++ (X.take t ++ y :: (X.drop t ++ S))))
      (fun e' _ => (envInt (e' 17)).toNat) ⟨⟨?_, ?_⟩, X.length, hv, Nat.le_refl _, ?_, ?_⟩ ?_
    · simp -dsimp only [↓RE,RU,RL,↓reduceIte,Nat.reduceEqDiff,reduceCtorEq,decide_true,decide_false, he0]
    · simp -dsimp only [↓RE,RU,RL,↓reduceIte,Nat.reduceEqDiff,reduceCtorEq,decide_true,decide_false, he14]
    · simp -dsimp only [↓RE,RU,RL,↓reduceIte,Nat.reduceEqDiff,reduceCtorEq,decide_true,decide_false, he2]
    · rw [List.take_of_length_le (Nat.le_refl _), List.drop_eq_nil_of_le (Nat.le_refl _), List.nil_append]; exact hz
    clear he0 he2 he4 he14 he15 hz e hlo hhi
    rintro e wz ⟨⟨he0, he14⟩, t, hut, ht, he17, hz⟩
    rcases Nat.lt_or_ge u t with hlt | hge
    · have hd : decide (((p + u : Nat) : Int) < ((p + t : Nat) : Int)) = true := decide_eq_true (by omega)
      have hmu : (envInt (e 17)).toNat = p + t := by rw [he17]; exact Int.toNat_natCast _
      obtain ⟨s, rfl⟩ : ∃ s, t = s + 1 := ⟨t - 1, by omega⟩
      have v3 : IntKind.i64.wrap (((p + (s + 1) : Nat) : Int) - 1) = ((p + s : Nat) : Int) := by rw [wrap_i64_in (by omega) (by omega)]; omega
      obtain ⟨x, hx⟩ : ∃ x, x = X[s]'(by omega) := ⟨_, rfl⟩
      have eD : X.drop s = x :: X.drop (s + 1) := by rw [List.drop_eq_getElem_cons (by omega), ← hx]
      have eT : X.take (s + 1) = X.take s ++ [x] := by rw [List.take_succ_eq_append_getElem (by omega), ← hx]
      have e1 : P ++ (X.take (s + 1) ++ y :: (X.drop (s + 1) ++ S)) = (P ++ X.take s) ++ x :: ([] ++ y :: (X.drop (s + 1) ++ S)) := by rw [eT]; simp [List.append_assoc]
      have e2 : P ++ (X.take s ++ y :: (X.drop s ++ S)) = (P ++ X.take s) ++ y :: ([] ++ x :: (X.drop (s + 1) ++ S)) := by rw [eD]; simp [List.append_assoc]
      obtain ⟨s1, s2, s3, s4⟩ := swap_at (P ++ X.take s) [] (X.drop (s + 1) ++ S) x y
      rw [← e1, ← e2] at s4
      rw [← e1] at s1 s2
      have l1 : (P ++ X.take s).length = p + s := by rw [List.length_append, List.length_take, hp]; omega
      rw [l1] at s1 s2 s4
      rw [List.length_nil, Nat.add_zero] at s2 s4
      have hxm := hz.mem _ (List.mem_of_getElem? s1)
      have hym := hz.mem _ (List.mem_of_getElem? s2)
      repeat (first | rw [c_seq] | simp -dsimp only [↓RE,RU,RL,forall_const,implies_true,Nat.reduceLeDiff,Nat.reduceLT,pureOp,binPure,intBin,strBin,eqPure,isConstO,unPure,resK,endV,yieldE,↓reduceIte,Nat.reduceEqDiff,reduceCtorEq,Nat.reduceAdd,Nat.reduceMul,Int.reduceLT,Int.reduceLE,Int.reduceToNat,Int.reduceAdd,Int.reduceSub,decide_true,decide_false,tf140, he17, he14, hd])
      refine wpDraw_swap (Sr w0 ad n c l0 · _) [0, 1, 2, 3, 4, 5, 6, 7, 8, 9, 10, 11, 12, 13, 14] 15 [15, 16, 17] (by kernel_rfl) (hz.grow (Grow.drew wz)) ?_
      simp only [List.filterMap_cons, List.filterMap_nil, planL, List.getElem?_toArray, List.getElem?_cons_zero, List.getElem?_cons_succ, Option.toList_some, List.map_cons, List.map_nil, List.cons_append, List.nil_append]
      repeat (first | rw [c_seq] | simp -dsimp only [↓RE,RU,RL,forall_const,implies_true,Nat.reduceLeDiff,Nat.reduceLT,pureOp,binPure,intBin,strBin,eqPure,isConstO,unPure,resK,endV,yieldE,↓reduceIte,Nat.reduceEqDiff,reduceCtorEq,Nat.reduceAdd,Nat.reduceMul,Int.reduceLT,Int.reduceLE,Int.reduceToNat,Int.reduceAdd,Int.reduceSub,decide_true,decide_false,tf140, he0, he17, v3, Int.toNat_natCast])
      refine ⟨⟨by omega, by omega⟩, x.cells, rfl, fun w' hw' => hw'.cells s1, ?_⟩
      repeat (first | rw [c_seq] | simp -dsimp only [↓RE,RU,RL,forall_const,implies_true,Nat.reduceLeDiff,Nat.reduceLT,pureOp,binPure,intBin,strBin,eqPure,isConstO,unPure,resK,endV,yieldE,↓reduceIte,Nat.reduceEqDiff,reduceCtorEq,Nat.reduceAdd,Nat.reduceMul,Int.reduceLT,Int.reduceLE,Int.reduceToNat,Int.reduceAdd,Int.reduceSub,decide_true,decide_false,tf140, he0, he17, v3, Int.toNat_natCast])
      refine ⟨⟨by omega, by omega⟩, y.cells, rfl, fun w' hw' => hw'.cells (k := p + (s + 1)) s2, ?_⟩
      repeat (first | rw [c_seq] | simp -dsimp only [↓RE,RU,RL,forall_const,implies_true,Nat.reduceLeDiff,Nat.reduceLT,pureOp,binPure,intBin,strBin,eqPure,isConstO,unPure,resK,endV,yieldE,↓reduceIte,Nat.reduceEqDiff,reduceCtorEq,Nat.reduceAdd,Nat.reduceMul,Int.reduceLT,Int.reduceLE,Int.reduceToNat,Int.reduceAdd,Int.reduceSub,decide_true,decide_false,tf140, he0, he17, v3, Int.toNat_natCast])
      refine ⟨⟨by omega, by omega⟩, rfl, (hz.grow (Grow.drew wz)).set (k := p + (s + 1)) (by omega) hxm (fun w6 h6 => ?_)⟩
      repeat (first | rw [c_seq] | simp -dsimp only [↓RE,RU,RL,forall_const,implies_true,Nat.reduceLeDiff,Nat.reduceLT,pureOp,binPure,intBin,strBin,eqPure,isConstO,unPure,resK,endV,yieldE,↓reduceIte,Nat.reduceEqDiff,reduceCtorEq,Nat.reduceAdd,Nat.reduceMul,Int.reduceLT,Int.reduceLE,Int.reduceToNat,Int.reduceAdd,Int.reduceSub,decide_true,decide_false,tf140, he0, he17, v3, Int.toNat_natCast])
      refine ⟨⟨by omega, by omega⟩, rfl, h6.set (k := p + s) (by omega) hym (fun w7 h7 => ?_)⟩
      have h7 : Sr w0 ad n c l0 w7 (P ++ (X.take s ++ y :: (X.drop s ++ S))) := by rw [← s4]; exact h7
      repeat (first | rw [c_seq] | simp -dsimp only [↓RE,RU,RL,forall_const,implies_true,Nat.reduceLeDiff,Nat.reduceLT,pureOp,binPure,intBin,strBin,eqPure,isConstO,unPure,resK,endV,yieldE,↓reduceIte,Nat.reduceEqDiff,reduceCtorEq,Nat.reduceAdd,Nat.reduceMul,Int.reduceLT,Int.reduceLE,Int.reduceToNat,Int.reduceAdd,Int.reduceSub,decide_true,decide_false,tf140, he17, v3])
      refine hold_intro ⟨⟨⟨?_, ?_⟩, s, by omega, by omega, ?_, h7⟩, ?_⟩
      · simp -dsimp only [↓RE,RU,RL,↓reduceIte,Nat.reduceEqDiff,reduceCtorEq,decide_true,decide_false, he0]
      · simp -dsimp only [↓RE,RU,RL,↓reduceIte,Nat.reduceEqDiff,reduceCtorEq,decide_true,decide_false, he14]
      · simp -dsimp only [↓RE,RU,RL,↓reduceIte,Nat.reduceEqDiff,reduceCtorEq,decide_true,decide_false, he17, v3]
      · rw [hmu]
        simp -dsimp only [↓RE,↓c_seq,RU,RL,forall_const,implies_true,Nat.reduceLeDiff,Nat.reduceLT,pureOp,binPure,intBin,strBin,eqPure,isConstO,unPure,resK,endV,yieldE,↓reduceIte,Nat.reduceEqDiff,reduceCtorEq,Nat.reduceAdd,Nat.reduceMul,Int.reduceLT,Int.reduceLE,Int.reduceToNat,Int.reduceAdd,Int.reduceSub,decide_true,decide_false,tf140, he17, v3, envInt, Int.toNat_natCast]
        omega
    · have htu : t = u := by omega
      subst htu
      have hd : decide (((p + t : Nat) : Int) < ((p + t : Nat) : Int)) = false := decide_eq_false (by omega)
      repeat (first | rw [c_seq] | simp -dsimp only [↓RE,RU,RL,forall_const,implies_true,Nat.reduceLeDiff,Nat.reduceLT,pureOp,binPure,intBin,strBin,eqPure,isConstO,unPure,resK,endV,yieldE,↓reduceIte,Nat.reduceEqDiff,reduceCtorEq,Nat.reduceAdd,Nat.reduceMul,Int.reduceLT,Int.reduceLE,Int.reduceToNat,Int.reduceAdd,Int.reduceSub,decide_true,decide_false,tf140, he17, he14, hd])
      refine hR wz _ f1 f2 ?_
      rw [List.append_assoc]
      exact hz

end Go.Proofs.YtljgnocpijniiaaGreatDoor

namespace Go.Proofs.YtljgnocpijniiaaGreatDoor
open Go

theorem SortedC.le_at {cf : WrV → WrV → Int} (hc : Cmp cf) {l : List WrV} (h : SortedC cf l) {i j : Nat} (hij : i ≤ j) (hj : j < l.length) : cf (l.getD i w00) (l.getD j w00) ≤ 0 := by
  rcases Nat.lt_or_eq_of_le hij with h1 | rfl
  · exact h.at h1 hj
  · exact Int.le_of_eq (hc.self _)
theorem split_12 {cf : WrV → WrV → Int} (hc : Cmp cf) {X Y : List WrV} (hX : SortedC cf X) (hY : SortedC cf Y) {u v : Nat} (hu : u ≤ X.length) (hv : v ≤ Y.length) (h : 0 < u → v < Y.length → cf (X.getD (u - 1) w00) (Y.getD v w00) ≤ 0) : ∀ a ∈ X.take u, ∀ b ∈ Y.drop v, cf a b ≤ 0 := by
  refine take_all (p := fun a => ∀ b ∈ Y.drop v, cf a b ≤ 0) (fun k hk => drop_all (p := fun b => cf (X.getD k w00) b ≤ 0) (fun j h1 h2 => ?_)) hu
  exact hc.tr _ _ _ (hX.le_at hc (i := k) (j := u - 1) (by omega) (by omega)) (hc.tr _ _ _ (h (by omega) (by omega)) (hY.le_at hc h1 h2))
theorem split_21 {cf : WrV → WrV → Int} (hc : Cmp cf) {X Y : List WrV} (hX : SortedC cf X) (hY : SortedC cf Y) {u v : Nat} (hu : u ≤ X.length) (hv : v ≤ Y.length) (h : 0 < v → u < X.length → cf (Y.getD (v - 1) w00) (X.getD u w00) < 0) : ∀ b ∈ Y.take v, ∀ a ∈ X.drop u, cf b a < 0 := by
  refine take_all (p := fun b => ∀ a ∈ X.drop u, cf b a < 0) (fun k hk => drop_all (p := fun a => cf (Y.getD k w00) a < 0) (fun j h1 h2 => ?_)) hv
  exact hc.lt_le (hc.le_lt (hY.le_at hc (i := k) (j := v - 1) (by omega) (by omega)) (h (by omega) (by omega))) (hX.le_at hc h1 h2)
/-- what a merge of two sorted parts does. -/
def SymOk (w0 : World) (ad : Addr) (n c : Nat) (l0 : List WrV) (f : FuncId) (cf : WrV → WrV → Int) (k : Nat) : Prop :=
  ∀ (w : World) (P X Y S : List WrV), X.length + Y.length < k → 0 < X.length → 0 < Y.length → Sr w0 ad n c l0 w (P ++ (X ++ (Y ++ S))) → SortedC cf X → SortedC cf Y →
    ∀ (a m b : Int), a = P.length → m = P.length + X.length → b = P.length + X.length + Y.length → ∀ R : VWK, (∀ w' Z, SortedC cf Z → SameK cf (X ++ Y) Z → Sr w0 ad n c l0 w' (P ++ (Z ++ S)) → R (.tuple #[]) w') →
      CallsV Tryz.prog 140 [.slice (some ad) n c, .int .i64 a, .int .i64 m, .int .i64 b, .func (.func f) #[] #[]] w R
set_option maxHeartbeats 4000000 in
theorem symm3_ok {w0 w : World} {ad : Addr} {n c : Nat} {l0 : List WrV} {P X Y S : List WrV} {f : FuncId} {cf : WrV → WrV → Int} (hcmp : CmpOk w0 ad l0 f cf) (hc : Cmp cf) (ih : SymOk w0 ad n c l0 f cf (X.length + Y.length)) (h : Sr w0 ad n c l0 w (P ++ (X ++ (Y ++ S)))) (hX : SortedC cf X) (hY : SortedC cf Y) (hX2 : 2 ≤ X.length) (hY2 : 2 ≤ Y.length) (hn : n ≤ 2000000000000)
    {a m b : Int} (ha : a = P.length) (hm : m = P.length + X.length) (hb : b = P.length + X.length + Y.length) {R : VWK}
    (hR : ∀ w' Z, SortedC cf Z → SameK cf (X ++ Y) Z → Sr w0 ad n c l0 w' (P ++ (Z ++ S)) → R (.tuple #[]) w') :
    CallsV Tryz.prog 140 [.slice (some ad) n c, .int .i64 a, .int .i64 m, .int .i64 b, .func (.func f) #[] #[]] w R := by
  have hlen := h.len
  simp only [List.length_append] at hlen
  have hcall := fun xs w K tk => callK_func hcmp.can xs w (K := K) (tk := tk)
  obtain ⟨p, hp⟩ : ∃ p, p = P.length := ⟨_, rfl⟩
  obtain ⟨x, hx⟩ : ∃ x, x = X.length := ⟨_, rfl⟩
  obtain ⟨y, hy⟩ : ∃ y, y = Y.length := ⟨_, rfl⟩
  obtain ⟨M, hM⟩ : ∃ M, (p + (p + x + y)) / 2 = M := ⟨_, rfl⟩
  have ea : a = ((p : Nat) : Int) := by omega
  have em : m = ((p + x : Nat) : Int) := by omega
  have eb : b = ((p + x + y : Nat) : Int) := by omega
  subst ea em eb
  clear ha hm hb
  have w1 : IntKind.i64.wrap (((p + x : Nat) : Int) - (p : Int)) = (x : Int) := by rw [wrap_i64_in (by omega) (by omega)]; omega
  have d1 : decide ((x : Int) = 1) = false := decide_eq_false (by omega)
  have w2 : IntKind.i64.wrap (((p + x + y : Nat) : Int) - ((p + x : Nat) : Int)) = (y : Int) := by rw [wrap_i64_in (by omega) (by omega)]; omega
  have d2 : decide ((y : Int) = 1) = false := decide_eq_false (by omega)
  have hh := half_ok (i := p) (j := p + x + y) (by omega) (by omega)
  rw [hM] at hh
  have w3 : IntKind.i64.wrap ((M : Int) + ((p + x : Nat) : Int)) = ((M + (p + x) : Nat) : Int) := by rw [wrap_i64_in (by omega) (by omega)]; omega
  have w5 : IntKind.i64.wrap (((M + (p + x) : Nat) : Int) - 1) = ((M + (p + x) - 1 : Nat) : Int) := by rw [wrap_i64_in (by omega) (by omega)]; omega
  refine calls_of_wpC mixed Tryz.func140 rfl (by kernel_rfl) ?_
  intro e he
  have he0 := he 0
  have he1 := he 1
  have he2 := he 2
  have he3 := he 3
  have he4 := he 4
  simp only [List.getD_cons_zero, List.getD_cons_succ] at he0 he1 he2 he3 he4
  clear he
  ((repeat rw [c_seq]); try simp -dsimp only [↓RE,RU,RL,forall_const,implies_true,Nat.reduceLeDiff,Nat.reduceLT,pureOp,binPure,intBin,strBin,eqPure,isConstO,unPure,resK,endV,yieldE,↓reduceIte,Nat.reduceEqDiff,reduceCtorEq,Nat.reduceAdd,Nat.reduceMul,Int.reduceLT,Int.reduceLE,Int.reduceToNat,Int.reduceAdd,Int.reduceSub,decide_true,decide_false,tf140, he1, he2, w1, d1])
  ((repeat rw [c_seq]); try simp -dsimp only [↓RE,RU,RL,forall_const,implies_true,Nat.reduceLeDiff,Nat.reduceLT,pureOp,binPure,intBin,strBin,eqPure,isConstO,unPure,resK,endV,yieldE,↓reduceIte,Nat.reduceEqDiff,reduceCtorEq,Nat.reduceAdd,Nat.reduceMul,Int.reduceLT,Int.reduceLE,Int.reduceToNat,Int.reduceAdd,Int.reduceSub,decide_true,decide_false,tf140, he2, he3, w2, d2])
  ((repeat rw [c_seq]); try simp -dsimp only [↓RE,RU,RL,forall_const,implies_true,Nat.reduceLeDiff,Nat.reduceLT,pureOp,binPure,intBin,strBin,eqPure,isConstO,unPure,resK,endV,yieldE,↓reduceIte,Nat.reduceEqDiff,reduceCtorEq,Nat.reduceAdd,Nat.reduceMul,Int.reduceLT,Int.reduceLE,Int.reduceToNat,Int.reduceAdd,Int.reduceSub,decide_true,decide_false,tf140, he1, he3, hh])
  ((repeat rw [c_seq]); try simp -dsimp only [↓RE,RU,RL,forall_const,implies_true,Nat.reduceLeDiff,Nat.reduceLT,pureOp,binPure,intBin,strBin,eqPure,isConstO,unPure,resK,endV,yieldE,↓reduceIte,Nat.reduceEqDiff,reduceCtorEq,Nat.reduceAdd,Nat.reduceMul,Int.reduceLT,Int.reduceLE,Int.reduceToNat,Int.reduceAdd,Int.reduceSub,decide_true,decide_false,tf140, he2, hh, w3])
  ((repeat rw [c_seq]); try simp -dsimp only [↓RE,RU,RL,forall_const,implies_true,Nat.reduceLeDiff,Nat.reduceLT,pureOp,binPure,intBin,strBin,eqPure,isConstO,unPure,resK,endV,yieldE,↓reduceIte,Nat.reduceEqDiff,reduceCtorEq,Nat.reduceAdd,Nat.reduceMul,Int.reduceLT,Int.reduceLE,Int.reduceToNat,Int.reduceAdd,Int.reduceSub,decide_true,decide_false,tf140, he1])
  refine c_seq_cut (fun e' w' => w' = w ∧ (e' 0 = .slice (some ad) n c ∧ e' 1 = .int .i64 (p : Int) ∧ e' 2 = .int .i64 ((p + x : Nat) : Int) ∧ e' 3 = .int .i64 ((p + x + y : Nat) : Int) ∧ e' 4 = .func (.func f) #[] #[] ∧ e' 18 = .int .i64 (M : Int) ∧ e' 19 = .int .i64 ((M + (p + x) : Nat) : Int)) ∧
    ∃ s0 r0, (p ≤ s0 ∧ s0 ≤ r0 ∧ r0 ≤ p + x ∧ r0 ≤ M ∧ M - s0 ≤ y ∧ (s0 = p ∨ M - s0 = y) ∧ (r0 = p + x ∨ r0 = M)) ∧ e' 20 = .int .i64 (s0 : Int) ∧ e' 21 = .int .i64 (r0 : Int)) ?_ ?_
  · rcases Nat.lt_or_ge M (p + x) with hlt | hge
    · have d3 : decide ((M : Int) < ((p + x : Nat) : Int)) = true := decide_eq_true (by omega)
      have w4 : IntKind.i64.wrap (((M + (p + x) : Nat) : Int) - ((p + x + y : Nat) : Int)) = ((M - y : Nat) : Int) := by rw [wrap_i64_in (by omega) (by omega)]; omega
      repeat (first | rw [c_seq] | simp -dsimp only [↓RE,RU,RL,forall_const,implies_true,Nat.reduceLeDiff,Nat.reduceLT,pureOp,binPure,intBin,strBin,eqPure,isConstO,unPure,resK,endV,yieldE,↓reduceIte,Nat.reduceEqDiff,reduceCtorEq,Nat.reduceAdd,Nat.reduceMul,Int.reduceLT,Int.reduceLE,Int.reduceToNat,Int.reduceAdd,Int.reduceSub,decide_true,decide_false,tf140, he2, he3, hh, w3, d3, w4])
      refine hold_intro ⟨rfl, ⟨?_, ?_, ?_, ?_, ?_, ?_, ?_⟩, M - y, M, ⟨by omega, by omega, by omega, by omega, by omega, by omega, by omega⟩, ?_, ?_⟩
      · simp -dsimp only [↓RE,RU,RL,↓reduceIte,Nat.reduceEqDiff,reduceCtorEq,decide_true,decide_false, he0]
      · simp -dsimp only [↓RE,RU,RL,↓reduceIte,Nat.reduceEqDiff,reduceCtorEq,decide_true,decide_false, he1]
      · simp -dsimp only [↓RE,RU,RL,↓reduceIte,Nat.reduceEqDiff,reduceCtorEq,decide_true,decide_false, he2]
      · simp -dsimp only [↓RE,RU,RL,↓reduceIte,Nat.reduceEqDiff,reduceCtorEq,decide_true,decide_false, he3]
      · simp -dsimp only [↓RE,RU,RL,↓reduceIte,Nat.reduceEqDiff,reduceCtorEq,decide_true,decide_false, he4]
      · simp -dsimp only [↓RE,RU,RL,↓reduceIte,Nat.reduceEqDiff,reduceCtorEq,decide_true,decide_false, hh]
      · simp -dsimp only [↓RE,RU,RL,↓reduceIte,Nat.reduceEqDiff,reduceCtorEq,decide_true,decide_false, hh, w3]
      · simp -dsimp only [↓RE,RU,RL,↓reduceIte,Nat.reduceEqDiff,reduceCtorEq,decide_true,decide_false, hh, w3, w4]
      · simp -dsimp only [↓RE,RU,RL,↓reduceIte,Nat.reduceEqDiff,reduceCtorEq,decide_true,decide_false, hh]
    · have d3 : decide ((M : Int) < ((p + x : Nat) : Int)) = false := decide_eq_false (by omega)
      repeat (first | rw [c_seq] | simp -dsimp only [↓RE,RU,RL,forall_const,implies_true,Nat.reduceLeDiff,Nat.reduceLT,pureOp,binPure,intBin,strBin,eqPure,isConstO,unPure,resK,endV,yieldE,↓reduceIte,Nat.reduceEqDiff,reduceCtorEq,Nat.reduceAdd,Nat.reduceMul,Int.reduceLT,Int.reduceLE,Int.reduceToNat,Int.reduceAdd,Int.reduceSub,decide_true,decide_false,tf140, he1, he2, he3, hh, w3, d3])
      refine hold_intro ⟨rfl, ⟨?_, ?_, ?_, ?_, ?_, ?_, ?_⟩, p, p + x, ⟨by omega, by omega, by omega, by omega, by omega, by omega, by omega⟩, ?_, ?_⟩
      · simp -dsimp only [↓RE,RU,RL,↓reduceIte,Nat.reduceEqDiff,reduceCtorEq,decide_true,decide_false, he0]
      · simp -dsimp only [↓RE,RU,RL,↓reduceIte,Nat.reduceEqDiff,reduceCtorEq,decide_true,decide_false, he1]
      · simp -dsimp only [↓RE,RU,RL,↓reduceIte,Nat.reduceEqDiff,reduceCtorEq,decide_true,decide_false, he2]
      · simp -dsimp only [↓RE,RU,RL,↓reduceIte,Nat.reduceEqDiff,reduceCtorEq,decide_true,decide_false, he3]
      · simp -dsimp only [↓RE,RU,RL,↓reduceIte,Nat.reduceEqDiff,reduceCtorEq,decide_true,decide_false, he4]
      · simp -dsimp only [↓RE,RU,RL,↓reduceIte,Nat.reduceEqDiff,reduceCtorEq,decide_true,decide_false, hh]
      · simp -dsimp only [↓RE,RU,RL,↓reduceIte,Nat.reduceEqDiff,reduceCtorEq,decide_true,decide_false, hh, w3]
      · simp -dsimp only [↓RE,RU,RL,↓reduceIte,Nat.reduceEqDiff,reduceCtorEq,decide_true,decide_false, he1]
      · simp -dsimp only [↓RE,RU,RL,↓reduceIte,Nat.reduceEqDiff,reduceCtorEq,decide_true,decide_false, he2]
  · clear he0 he1 he2 he3 he4 e
    rintro e w ⟨rfl, ⟨he0, he1, he2, he3, he4, he18, he19⟩, s0, r0, ⟨q1, q2, q3, q4, q5, q6, q7⟩, he20, he21⟩
    ((repeat rw [c_seq]); try simp -dsimp only [↓RE,RU,RL,forall_const,implies_true,Nat.reduceLeDiff,Nat.reduceLT,pureOp,binPure,intBin,strBin,eqPure,isConstO,unPure,resK,endV,yieldE,↓reduceIte,Nat.reduceEqDiff,reduceCtorEq,Nat.reduceAdd,Nat.reduceMul,Int.reduceLT,Int.reduceLE,Int.reduceToNat,Int.reduceAdd,Int.reduceSub,decide_true,decide_false,tf140, he19, w5])
    refine c_seq_cut (fun e' w' => Grow w w' ∧ (e' 0 = .slice (some ad) n c ∧ e' 1 = .int .i64 (p : Int) ∧ e' 2 = .int .i64 ((p + x : Nat) : Int) ∧ e' 3 = .int .i64 ((p + x + y : Nat) : Int) ∧ e' 4 = .func (.func f) #[] #[] ∧ e' 18 = .int .i64 (M : Int) ∧ e' 19 = .int .i64 ((M + (p + x) : Nat) : Int)) ∧
      ∃ s, (s0 ≤ s ∧ s ≤ r0) ∧ e' 20 = .int .i64 (s : Int) ∧ (s = s0 ∨ cf (X.getD (s - 1 - p) w00) (Y.getD (M - s) w00) ≤ 0) ∧ (s = r0 ∨ cf (Y.getD (M - 1 - s) w00) (X.getD (s - p) w00) < 0)) ?_ ?_
    · repeat (first | rw [c_seq] | simp -dsimp only [↓RE,RU,RL,forall_const,implies_true,Nat.reduceLeDiff,Nat.reduceLT,pureOp,binPure,intBin,strBin,eqPure,isConstO,unPure,resK,endV,yieldE,↓reduceIte,Nat.reduceEqDiff,reduceCtorEq,Nat.reduceAdd,Nat.reduceMul,Int.reduceLT,Int.reduceLE,Int.reduceToNat,Int.reduceAdd,Int.reduceSub,decide_true,decide_false,tf140, he20])
      refine wpLoop_intro (fun e' w' => Grow w w' ∧ (e' 0 = .slice (some ad) n c ∧ e' 1 = .int .i64 (p : Int) ∧ e' 2 = .int .i64 ((p + x : Nat) : Int) ∧ e' 3 = .int .i64 ((p + x + y : Nat) : Int) ∧ e' 4 = .func (.func f) #[] #[] ∧ e' 18 = .int .i64 (M : Int) ∧ e' 19 = .int .i64 ((M + (p + x) : Nat) : Int) ∧ e' 22 = .int .i64 ((M + (p + x) - 1 : Nat) : Int)) ∧
        ∃ s r, (s0 ≤ s ∧ s ≤ r ∧ r ≤ r0) ∧ e' 20 = .int .i64 (s : Int) ∧ e' 21 = .int .i64 (r : Int) ∧ (s = s0 ∨ cf (X.getD (s - 1 - p) w00) (Y.getD (M - s) w00) ≤ 0) ∧ (r = r0 ∨ cf (Y.getD (M - 1 - r) w00) (X.getD (r - p) w00) < 0))
        (fun e' _ => (envInt (e' 21)).toNat - (envInt (e' 20)).toNat) ⟨Keep.refl _ _, ⟨?_, ?_, ?_, ?_, ?_, ?_, ?_, ?_⟩, s0, r0, ⟨Nat.le_refl _, q2, Nat.le_refl _⟩, ?_, ?_, .inl rfl, .inl rfl⟩ ?_
      · simp -dsimp only [↓RE,RU,RL,↓reduceIte,Nat.reduceEqDiff,reduceCtorEq,decide_true,decide_false, he0]
      · simp -dsimp only [↓RE,RU,RL,↓reduceIte,Nat.reduceEqDiff,reduceCtorEq,decide_true,decide_false, he1]
      · simp -dsimp only [↓RE,RU,RL,↓reduceIte,Nat.reduceEqDiff,reduceCtorEq,decide_true,decide_false, he2]
      · simp -dsimp only [↓RE,RU,RL,↓reduceIte,Nat.reduceEqDiff,reduceCtorEq,decide_true,decide_false, he3]
      · simp -dsimp only [↓RE,RU,RL,↓reduceIte,Nat.reduceEqDiff,reduceCtorEq,decide_true,decide_false, he4]
      · simp -dsimp only [↓RE,RU,RL,↓reduceIte,Nat.reduceEqDiff,reduceCtorEq,decide_true,decide_false, he18]
      · simp -dsimp only [↓RE,RU,RL,↓reduceIte,Nat.reduceEqDiff,reduceCtorEq,decide_true,decide_false, he19]
      · simp -dsimp only [↓RE,RU,RL,↓reduceIte,Nat.reduceEqDiff,reduceCtorEq,decide_true,decide_false, he19, w5]
      · simp -dsimp only [↓RE,RU,RL,↓reduceIte,Nat.reduceEqDiff,reduceCtorEq,decide_true,decide_false, he20]
      · simp -dsimp only [↓RE,RU,RL,↓reduceIte,Nat.reduceEqDiff,reduceCtorEq,decide_true,decide_false, he21]
      clear he0 he1 he2 he3 he4 he18 he19 he20 he21 e
      rintro e wz ⟨gz, ⟨he0, he1, he2, he3, he4, he18, he19, he22⟩, s, r, ⟨r1, r2, r3⟩, he20, he21, hs, hr⟩
      have hz := h.grow gz
      rcases Nat.lt_or_ge s r with hlt | hge
      · have hd : decide ((s : Int) < (r : Int)) = true := decide_eq_true (by omega)
        have hh := half_ok (i := s) (j := r) hlt (by omega)
        obtain ⟨k, hk⟩ : ∃ k, (s + r) / 2 = k := ⟨_, rfl⟩
        rw [hk] at hh
        have k1 : s ≤ k := by omega
        have k2 : k < r := by omega
        have hmu : (envInt (e 21)).toNat - (envInt (e 20)).toNat = r - s := by rw [he20, he21]; simp only [envInt_int]; omega
        have v1 : IntKind.i64.wrap (((M + (p + x) - 1 : Nat) : Int) - (k : Int)) = ((p + x + (M - 1 - k) : Nat) : Int) := by rw [wrap_i64_in (by omega) (by omega)]; omega
        have v2 : IntKind.i64.wrap ((k : Int) + 1) = ((k + 1 : Nat) : Int) := by rw [wrap_i64_in (by omega) (by omega)]; omega
        have s1 : (P ++ (X ++ (Y ++ S)))[k]? = some (X.getD (k - p) w00) := by
          have := at_mid (P := P) (X := X) (S := Y ++ S) (k := k - p) (by omega)
          rwa [show P.length + (k - p) = k by omega] at this
        have s2 : (P ++ (X ++ (Y ++ S)))[p + x + (M - 1 - k)]? = some (Y.getD (M - 1 - k) w00) := by
          have := at_mid (P := P ++ X) (X := Y) (S := S) (k := M - 1 - k) (by omega)
          rw [List.append_assoc, show (P ++ X).length = p + x by rw [List.length_append]; omega] at this
          exact this
        have hxm := h.mem _ (List.mem_of_getElem? s1)
        have hym := h.mem _ (List.mem_of_getElem? s2)
        repeat (first | rw [c_seq] | simp -dsimp only [↓RE,RU,RL,forall_const,implies_true,Nat.reduceLeDiff,Nat.reduceLT,pureOp,binPure,intBin,strBin,eqPure,isConstO,unPure,resK,endV,yieldE,↓reduceIte,Nat.reduceEqDiff,reduceCtorEq,Nat.reduceAdd,Nat.reduceMul,Int.reduceLT,Int.reduceLE,Int.reduceToNat,Int.reduceAdd,Int.reduceSub,decide_true,decide_false,tf140, he20, he21, hd, hh])
        refine wpDraw_by (Grow wz ·) [(0, true), (1, true), (2, true), (3, true), (4, true), (5, true), (6, true), (7, true), (8, true), (9, true), (10, true), (11, false), (12, true), (13, true)] (by kernel_rfl) (Grow.drew wz) ?_
        simp only [planL, List.getElem?_toArray, List.getElem?_cons_zero, List.getElem?_cons_succ, Option.toList_some, List.map_cons, List.map_nil, List.cons_append, List.nil_append]
        repeat (first | rw [c_seq] | simp -dsimp only [↓RE,RU,RL,forall_const,implies_true,Nat.reduceLeDiff,Nat.reduceLT,pureOp,binPure,intBin,strBin,eqPure,isConstO,unPure,resK,endV,yieldE,↓reduceIte,Nat.reduceEqDiff,reduceCtorEq,Nat.reduceAdd,Nat.reduceMul,Int.reduceLT,Int.reduceLE,Int.reduceToNat,Int.reduceAdd,Int.reduceSub,decide_true,decide_false,tf140, he0, he4, he22, hh, v1, Int.toNat_natCast])
        refine ⟨⟨by omega, by omega⟩, (Y.getD (M - 1 - k) w00).cells, rfl, fun w' g' => (hz.grow g').cells s2, ?_⟩
        repeat (first | rw [c_seq] | simp -dsimp only [↓RE,RU,RL,forall_const,implies_true,Nat.reduceLeDiff,Nat.reduceLT,pureOp,binPure,intBin,strBin,eqPure,isConstO,unPure,resK,endV,yieldE,↓reduceIte,Nat.reduceEqDiff,reduceCtorEq,Nat.reduceAdd,Nat.reduceMul,Int.reduceLT,Int.reduceLE,Int.reduceToNat,Int.reduceAdd,Int.reduceSub,decide_true,decide_false,tf140, he0, he4, he22, hh, v1, Int.toNat_natCast])
        refine ⟨⟨by omega, by omega⟩, (X.getD (k - p) w00).cells, rfl, fun w' g' => (hz.grow g').cells s1, ?_⟩
        repeat (first | rw [c_seq] | simp -dsimp only [↓RE,RU,RL,forall_const,implies_true,Nat.reduceLeDiff,Nat.reduceLT,pureOp,binPure,intBin,strBin,eqPure,isConstO,unPure,resK,endV,yieldE,↓reduceIte,Nat.reduceEqDiff,reduceCtorEq,Nat.reduceAdd,Nat.reduceMul,Int.reduceLT,Int.reduceLE,Int.reduceToNat,Int.reduceAdd,Int.reduceSub,decide_true,decide_false,tf140, he0, he4, hcall])
        refine hcmp.cmp wz.drew (hz.keep.then_grow (Grow.drew wz)) _ hym _ hxm _ (fun w5 g5 => ?_)
        refine ⟨(Grow.drew wz).trans g5, ?_⟩
        have g6 := (gz.trans (Grow.drew wz)).trans g5
        by_cases hlt2 : cf (Y.getD (M - 1 - k) w00) (X.getD (k - p) w00) < 0
        · have hd3 : decide (cf (Y.getD (M - 1 - k) w00) (X.getD (k - p) w00) < 0) = true := decide_eq_true hlt2
          repeat (first | rw [c_seq] | simp -dsimp only [↓RE,RU,RL,forall_const,implies_true,Nat.reduceLeDiff,Nat.reduceLT,pureOp,binPure,intBin,strBin,eqPure,isConstO,unPure,resK,endV,yieldE,↓reduceIte,Nat.reduceEqDiff,reduceCtorEq,Nat.reduceAdd,Nat.reduceMul,Int.reduceLT,Int.reduceLE,Int.reduceToNat,Int.reduceAdd,Int.reduceSub,decide_true,decide_false,tf140, hd3, hh, Bool.not_true])
          refine hold_intro ⟨⟨g6, ⟨?_, ?_, ?_, ?_, ?_, ?_, ?_, ?_⟩, s, k, ⟨r1, k1, by omega⟩, ?_, ?_, hs, .inr hlt2⟩, ?_⟩
          · simp -dsimp only [↓RE,RU,RL,↓reduceIte,Nat.reduceEqDiff,reduceCtorEq,decide_true,decide_false, he0]
          · simp -dsimp only [↓RE,RU,RL,↓reduceIte,Nat.reduceEqDiff,reduceCtorEq,decide_true,decide_false, he1]
          · simp -dsimp only [↓RE,RU,RL,↓reduceIte,Nat.reduceEqDiff,reduceCtorEq,decide_true,decide_false, he2]
          · simp -dsimp only [↓RE,RU,RL,↓reduceIte,Nat.reduceEqDiff,reduceCtorEq,decide_true,decide_false, he3]
          · simp -dsimp only [↓RE,RU,RL,↓reduceIte,Nat.reduceEqDiff,reduceCtorEq,decide_true,decide_false, he4]
          · simp -dsimp only [↓RE,RU,RL,↓reduceIte,Nat.reduceEqDiff,reduceCtorEq,decide_true,decide_false, he18]
          · simp -dsimp only [↓RE,RU,RL,↓reduceIte,Nat.reduceEqDiff,reduceCtorEq,decide_true,decide_false, he19]
          · simp -dsimp only [↓RE,RU,RL,↓reduceIte,Nat.reduceEqDiff,reduceCtorEq,decide_true,decide_false, he22]
          · simp -dsimp only [↓RE,RU,RL,↓reduceIte,Nat.reduceEqDiff,reduceCtorEq,decide_true,decide_false, he20]
          · simp -dsimp only [↓RE,RU,RL,↓reduceIte,Nat.reduceEqDiff,reduceCtorEq,decide_true,decide_false, hh]
          · rw [hmu]
            simp -dsimp only [↓RE,↓c_seq,RU,RL,forall_const,implies_true,Nat.reduceLeDiff,Nat.reduceLT,pureOp,binPure,intBin,strBin,eqPure,isConstO,unPure,resK,endV,yieldE,↓reduceIte,Nat.reduceEqDiff,reduceCtorEq,Nat.reduceAdd,Nat.reduceMul,Int.reduceLT,Int.reduceLE,Int.reduceToNat,Int.reduceAdd,Int.reduceSub,decide_true,decide_false,tf140, he20, hh, envInt, Int.toNat_natCast]
            omega
        · have hd3 : decide (cf (Y.getD (M - 1 - k) w00) (X.getD (k - p) w00) < 0) = false := decide_eq_false hlt2
          have hxy : cf (X.getD (k + 1 - 1 - p) w00) (Y.getD (M - (k + 1)) w00) ≤ 0 := by
            rw [show k + 1 - 1 - p = k - p by omega, show M - (k + 1) = M - 1 - k by omega]
            have := hc.neg (Y.getD (M - 1 - k) w00) (X.getD (k - p) w00); omega
          repeat (first | rw [c_seq] | simp -dsimp only [↓RE,RU,RL,forall_const,implies_true,Nat.reduceLeDiff,Nat.reduceLT,pureOp,binPure,intBin,strBin,eqPure,isConstO,unPure,resK,endV,yieldE,↓reduceIte,Nat.reduceEqDiff,reduceCtorEq,Nat.reduceAdd,Nat.reduceMul,Int.reduceLT,Int.reduceLE,Int.reduceToNat,Int.reduceAdd,Int.reduceSub,decide_true,decide_false,tf140, hd3, hh, v2, Bool.not_false])
          refine hold_intro ⟨⟨g6, ⟨?_, ?_, ?_, ?_, ?_, ?_, ?_, ?_⟩, k + 1, r, ⟨by omega, by omega, r3⟩, ?_, ?_, .inr hxy, hr⟩, ?_⟩
          · simp -dsimp only [↓RE,RU,RL,↓reduceIte,Nat.reduceEqDiff,reduceCtorEq,decide_true,decide_false, he0]
          · simp -dsimp only [↓RE,RU,RL,↓reduceIte,Nat.reduceEqDiff,reduceCtorEq,decide_true,decide_false, he1]
          · simp -dsimp only [↓RE,RU,RL,↓reduceIte,Nat.reduceEqDiff,reduceCtorEq,decide_true,decide_false, he2]
          · simp -dsimp only [↓RE,RU,RL,↓reduceIte,Nat.reduceEqDiff,reduceCtorEq,decide_true,decide_false, he3]
          · simp -dsimp only [↓RE,RU,RL,↓reduceIte,Nat.reduceEqDiff,reduceCtorEq,decide_true,decide_false, he4]
          · simp -dsimp only [↓RE,RU,RL,↓reduceIte,Nat.reduceEqDiff,reduceCtorEq,decide_true,decide_false, he18]
          · simp -dsimp only [↓RE,RU,RL,↓reduceIte,Nat.reduceEqDiff,reduceCtorEq,decide_true,decide_false, he19]
          · simp -dsimp only [↓RE,RU,RL,↓reduceIte,Nat.reduceEqDiff,reduceCtorEq,decide_true,decide_false, he22]
          · simp -dsimp only [↓RE,RU,RL,↓reduceIte,Nat.reduceEqDiff,reduceCtorEq,decide_true,decide_false, hh, v2]
          · simp -dsimp only [↓RE,RU,RL,↓reduceIte,Nat.reduceEqDiff,reduceCtorEq,decide_true,decide_false, he21]
          · rw [hmu]
            simp -dsimp only [↓RE,↓c_seq,RU,RL,forall_const,implies_true,Nat.reduceLeDiff,Nat.reduceLT,pureOp,binPure,intBin,strBin,eqPure,isConstO,unPure,resK,endV,yieldE,↓reduceIte,Nat.reduceEqDiff,reduceCtorEq,Nat.reduceAdd,Nat.reduceMul,Int.reduceLT,Int.reduceLE,Int.reduceToNat,Int.reduceAdd,Int.reduceSub,decide_true,decide_false,tf140, he21, hh, v2, envInt, Int.toNat_natCast]
            omega
      · have hsr : s = r := by omega
        subst hsr
        have hd : decide ((s : Int) < (s : Int)) = false := decide_eq_false (by omega)
        repeat (first | rw [c_seq] | simp -dsimp only [↓RE,RU,RL,forall_const,implies_true,Nat.reduceLeDiff,Nat.reduceLT,pureOp,binPure,intBin,strBin,eqPure,isConstO,unPure,resK,endV,yieldE,↓reduceIte,Nat.reduceEqDiff,reduceCtorEq,Nat.reduceAdd,Nat.reduceMul,Int.reduceLT,Int.reduceLE,Int.reduceToNat,Int.reduceAdd,Int.reduceSub,decide_true,decide_false,tf140, he20, he21, hd])
        refine hold_intro ⟨gz, ⟨?_, ?_, ?_, ?_, ?_, ?_, ?_⟩, s, ⟨r1, r3⟩, ?_, hs, hr⟩
        · simp -dsimp only [↓RE,RU,RL,↓reduceIte,Nat.reduceEqDiff,reduceCtorEq,decide_true,decide_false, he0]
        · simp -dsimp only [↓RE,RU,RL,↓reduceIte,Nat.reduceEqDiff,reduceCtorEq,decide_true,decide_false, he1]
        · simp -dsimp only [↓RE,RU,RL,↓reduceIte,Nat.reduceEqDiff,reduceCtorEq,decide_true,decide_false, he2]
        · simp -dsimp only [↓RE,RU,RL,↓reduceIte,Nat.reduceEqDiff,reduceCtorEq,decide_true,decide_false, he3]
        · simp -dsimp only [↓RE,RU,RL,↓reduceIte,Nat.reduceEqDiff,reduceCtorEq,decide_true,decide_false, he4]
        · simp -dsimp only [↓RE,RU,RL,↓reduceIte,Nat.reduceEqDiff,reduceCtorEq,decide_true,decide_false, he18]
        · simp -dsimp only [↓RE,RU,RL,↓reduceIte,Nat.reduceEqDiff,reduceCtorEq,decide_true,decide_false, he19]
        · simp -dsimp only [↓RE,RU,RL,↓reduceIte,Nat.reduceEqDiff,reduceCtorEq,decide_true,decide_false, he20]
    · clear he0 he1 he2 he3 he4 he18 he19 he20 he21 e
      rintro e wz ⟨gz, ⟨he0, he1, he2, he3, he4, he18, he19⟩, s, ⟨r1, r2⟩, he20, hs, hr⟩
      have hz := h.grow gz
      obtain ⟨u, rfl⟩ : ∃ u, s = p + u := ⟨s - p, by omega⟩
      obtain ⟨v, rfl⟩ : ∃ v, M = p + u + v := ⟨M - (p + u), by omega⟩
      have hux : u ≤ X.length := by omega
      have hvy : v ≤ Y.length := by omega
      have h12 := split_12 hc hX hY hux hvy (fun h0 h1 => by
        rcases hs with hs | hs
        · rcases q6 with q6 | q6 <;> omega
        · rwa [show p + u - 1 - p = u - 1 by omega, show p + u + v - (p + u) = v by omega] at hs)
      have h21 := split_21 hc hX hY hux hvy (fun h0 h1 => by
        rcases hr with hr | hr
        · rcases q7 with q7 | q7 <;> omega
        · rwa [show p + u + v - 1 - (p + u) = v - 1 by omega, show p + u - p = u by omega] at hr)
      clear hs hr q6 q7
      obtain ⟨X1, hX1⟩ : ∃ X1, X1 = X.take u := ⟨_, rfl⟩
      obtain ⟨X2, hX2'⟩ : ∃ X2, X2 = X.drop u := ⟨_, rfl⟩
      obtain ⟨Y1, hY1⟩ : ∃ Y1, Y1 = Y.take v := ⟨_, rfl⟩
      obtain ⟨Y2, hY2'⟩ : ∃ Y2, Y2 = Y.drop v := ⟨_, rfl⟩
      have lX1 : X1.length = u := by rw [hX1, List.length_take]; omega
      have lX2 : X2.length = x - u := by rw [hX2', List.length_drop]; omega
      have lY1 : Y1.length = v := by rw [hY1, List.length_take]; omega
      have lY2 : Y2.length = y - v := by rw [hY2', List.length_drop]; omega
      have eX : X = X1 ++ X2 := by rw [hX1, hX2', List.take_append_drop]
      have eY : Y = Y1 ++ Y2 := by rw [hY1, hY2', List.take_append_drop]
      rw [← hX1, ← hY2'] at h12
      rw [← hY1, ← hX2'] at h21
      clear hX1 hX2' hY1 hY2'
      subst eX eY
      obtain ⟨sX1, sX2, _⟩ := sorted_app.1 hX
      obtain ⟨sY1, sY2, _⟩ := sorted_app.1 hY
      have hz1 : Sr w0 ad n c l0 wz (P ++ (X1 ++ (X2 ++ (Y1 ++ (Y2 ++ S))))) := by rw [List.append_assoc, List.append_assoc] at hz; exact hz
      have v5 : IntKind.i64.wrap (((p + u + v + (p + x) : Nat) : Int) - ((p + u : Nat) : Int)) = ((p + x + v : Nat) : Int) := by rw [wrap_i64_in (by omega) (by omega)]; omega
      ((repeat rw [c_seq]); try simp -dsimp only [↓RE,RU,RL,forall_const,implies_true,Nat.reduceLeDiff,Nat.reduceLT,pureOp,binPure,intBin,strBin,eqPure,isConstO,unPure,resK,endV,yieldE,↓reduceIte,Nat.reduceEqDiff,reduceCtorEq,Nat.reduceAdd,Nat.reduceMul,Int.reduceLT,Int.reduceLE,Int.reduceToNat,Int.reduceAdd,Int.reduceSub,decide_true,decide_false,tf140, he19, he20, v5])
      refine c_seq_cut (fun e' w' => (e' 0 = .slice (some ad) n c ∧ e' 1 = .int .i64 (p : Int) ∧ e' 3 = .int .i64 ((p + x + y : Nat) : Int) ∧ e' 4 = .func (.func f) #[] #[] ∧ e' 18 = .int .i64 ((p + u + v : Nat) : Int) ∧ e' 20 = .int .i64 ((p + u : Nat) : Int) ∧ e' 24 = .int .i64 ((p + x + v : Nat) : Int)) ∧ Sr w0 ad n c l0 w' (P ++ (X1 ++ (Y1 ++ (X2 ++ (Y2 ++ S)))))) ?_ ?_
      · have fin : ∀ w', Sr w0 ad n c l0 w' (P ++ (X1 ++ (X2 ++ (Y1 ++ (Y2 ++ S))))) → (X2 = [] ∨ Y1 = []) → Sr w0 ad n c l0 w' (P ++ (X1 ++ (Y1 ++ (X2 ++ (Y2 ++ S))))) := fun w' hq he => by
          rcases he with he | he
          · subst he; rw [List.nil_append] at hq ⊢; exact hq
          · subst he; rw [List.nil_append] at hq ⊢; exact hq
        rcases Nat.lt_or_ge u x with hu1 | hu1
        · have d3 : decide (((p + u : Nat) : Int) < ((p + x : Nat) : Int)) = true := decide_eq_true (by omega)
          rcases Nat.eq_zero_or_pos v with hv1 | hv1
          · have d4 : decide (((p + x : Nat) : Int) < ((p + x + v : Nat) : Int)) = false := decide_eq_false (by omega)
            repeat (first | rw [c_seq] | simp -dsimp only [↓RE,RU,RL,forall_const,implies_true,Nat.reduceLeDiff,Nat.reduceLT,pureOp,binPure,intBin,strBin,eqPure,isConstO,unPure,resK,endV,yieldE,↓reduceIte,Nat.reduceEqDiff,reduceCtorEq,Nat.reduceAdd,Nat.reduceMul,Int.reduceLT,Int.reduceLE,Int.reduceToNat,Int.reduceAdd,Int.reduceSub,decide_true,decide_false,tf140, he2, he19, he20, v5, d3, d4])
            refine hold_intro ⟨⟨?_, ?_, ?_, ?_, ?_, ?_, ?_⟩, fin _ hz1 (.inr (List.eq_nil_of_length_eq_zero (by omega)))⟩
            · simp -dsimp only [↓RE,RU,RL,↓reduceIte,Nat.reduceEqDiff,reduceCtorEq,decide_true,decide_false, he0]
            · simp -dsimp only [↓RE,RU,RL,↓reduceIte,Nat.reduceEqDiff,reduceCtorEq,decide_true,decide_false, he1]
            · simp -dsimp only [↓RE,RU,RL,↓reduceIte,Nat.reduceEqDiff,reduceCtorEq,decide_true,decide_false, he3]
            · simp -dsimp only [↓RE,RU,RL,↓reduceIte,Nat.reduceEqDiff,reduceCtorEq,decide_true,decide_false, he4]
            · simp -dsimp only [↓RE,RU,RL,↓reduceIte,Nat.reduceEqDiff,reduceCtorEq,decide_true,decide_false, he18]
            · simp -dsimp only [↓RE,RU,RL,↓reduceIte,Nat.reduceEqDiff,reduceCtorEq,decide_true,decide_false, he20]
            · simp -dsimp only [↓RE,RU,RL,↓reduceIte,Nat.reduceEqDiff,reduceCtorEq,decide_true,decide_false, he19, he20, v5]
          · have d4 : decide (((p + x : Nat) : Int) < ((p + x + v : Nat) : Int)) = true := decide_eq_true (by omega)
            have hz2 : Sr w0 ad n c l0 wz ((P ++ X1) ++ (X2 ++ (Y1 ++ (Y2 ++ S)))) := by rw [List.append_assoc]; exact hz1
            have lP : (P ++ X1).length = p + u := by rw [List.length_append]; omega
            repeat (first | rw [c_seq] | simp -dsimp only [↓RE,RU,RL,forall_const,implies_true,Nat.reduceLeDiff,Nat.reduceLT,pureOp,binPure,intBin,strBin,eqPure,isConstO,unPure,resK,endV,yieldE,↓reduceIte,Nat.reduceEqDiff,reduceCtorEq,Nat.reduceAdd,Nat.reduceMul,Int.reduceLT,Int.reduceLE,Int.reduceToNat,Int.reduceAdd,Int.reduceSub,decide_true,decide_false,tf140, he0, he2, he4, he19, he20, v5, d3, d4])
            refine rotate_ok hz2 (by omega) (by omega) (by omega) (by rw [lP]) (by rw [lP]; omega) (by rw [lP]; omega) (fun w6 h6 => ?_)
            rw [List.append_assoc] at h6
            repeat (first | rw [c_seq] | simp -dsimp only [↓RE,RU,RL,forall_const,implies_true,Nat.reduceLeDiff,Nat.reduceLT,pureOp,binPure,intBin,strBin,eqPure,isConstO,unPure,resK,endV,yieldE,↓reduceIte,Nat.reduceEqDiff,reduceCtorEq,Nat.reduceAdd,Nat.reduceMul,Int.reduceLT,Int.reduceLE,Int.reduceToNat,Int.reduceAdd,Int.reduceSub,decide_true,decide_false,tf140, he0])
            refine hold_intro ⟨⟨?_, ?_, ?_, ?_, ?_, ?_, ?_⟩, h6⟩
            · simp -dsimp only [↓RE,RU,RL,↓reduceIte,Nat.reduceEqDiff,reduceCtorEq,decide_true,decide_false, he0]
            · simp -dsimp only [↓RE,RU,RL,↓reduceIte,Nat.reduceEqDiff,reduceCtorEq,decide_true,decide_false, he1]
            · simp -dsimp only [↓RE,RU,RL,↓reduceIte,Nat.reduceEqDiff,reduceCtorEq,decide_true,decide_false, he3]
            · simp -dsimp only [↓RE,RU,RL,↓reduceIte,Nat.reduceEqDiff,reduceCtorEq,decide_true,decide_false, he4]
            · simp -dsimp only [↓RE,RU,RL,↓reduceIte,Nat.reduceEqDiff,reduceCtorEq,decide_true,decide_false, he18]
            · simp -dsimp only [↓RE,RU,RL,↓reduceIte,Nat.reduceEqDiff,reduceCtorEq,decide_true,decide_false, he20]
            · simp -dsimp only [↓RE,RU,RL,↓reduceIte,Nat.reduceEqDiff,reduceCtorEq,decide_true,decide_false, he19, he20, v5]
        · have d3 : decide (((p + u : Nat) : Int) < ((p + x : Nat) : Int)) = false := decide_eq_false (by omega)
          repeat (first | rw [c_seq] | simp -dsimp only [↓RE,RU,RL,forall_const,implies_true,Nat.reduceLeDiff,Nat.reduceLT,pureOp,binPure,intBin,strBin,eqPure,isConstO,unPure,resK,endV,yieldE,↓reduceIte,Nat.reduceEqDiff,reduceCtorEq,Nat.reduceAdd,Nat.reduceMul,Int.reduceLT,Int.reduceLE,Int.reduceToNat,Int.reduceAdd,Int.reduceSub,decide_true,decide_false,tf140, he2, he19, he20, v5, d3, undef])
          refine hold_intro ⟨⟨?_, ?_, ?_, ?_, ?_, ?_, ?_⟩, fin _ hz1 (.inl (List.eq_nil_of_length_eq_zero (by omega)))⟩
          · simp -dsimp only [↓RE,RU,RL,↓reduceIte,Nat.reduceEqDiff,reduceCtorEq,decide_true,decide_false, he0]
          · simp -dsimp only [↓RE,RU,RL,↓reduceIte,Nat.reduceEqDiff,reduceCtorEq,decide_true,decide_false, he1]
          · simp -dsimp only [↓RE,RU,RL,↓reduceIte,Nat.reduceEqDiff,reduceCtorEq,decide_true,decide_false, he3]
          · simp -dsimp only [↓RE,RU,RL,↓reduceIte,Nat.reduceEqDiff,reduceCtorEq,decide_true,decide_false, he4]
          · simp -dsimp only [↓RE,RU,RL,↓reduceIte,Nat.reduceEqDiff,reduceCtorEq,decide_true,decide_false, he18]
          · simp -dsimp only [↓RE,RU,RL,↓reduceIte,Nat.reduceEqDiff,reduceCtorEq,decide_true,decide_false, he20]
          · simp -dsimp only [↓RE,RU,RL,↓reduceIte,Nat.reduceEqDiff,reduceCtorEq,decide_true,decide_false, he19, he20, v5]
      · clear he0 he1 he2 he3 he4 he18 he19 he20 hz hz1 v5 e
        rintro e wy ⟨⟨he0, he1, he3, he4, he18, he20, he24⟩, hz⟩
        refine c_seq_cut (fun e' w' => (e' 0 = .slice (some ad) n c ∧ e' 3 = .int .i64 ((p + x + y : Nat) : Int) ∧ e' 4 = .func (.func f) #[] #[] ∧ e' 18 = .int .i64 ((p + u + v : Nat) : Int) ∧ e' 24 = .int .i64 ((p + x + v : Nat) : Int)) ∧ ∃ Z1, SortedC cf Z1 ∧ SameK cf (X1 ++ Y1) Z1 ∧ Sr w0 ad n c l0 w' (P ++ (Z1 ++ (X2 ++ (Y2 ++ S))))) ?_ ?_
        · have fin : (X1 = [] ∨ Y1 = []) → ∃ Z1, SortedC cf Z1 ∧ SameK cf (X1 ++ Y1) Z1 ∧ Sr w0 ad n c l0 wy (P ++ (Z1 ++ (X2 ++ (Y2 ++ S)))) := fun he => by
            refine ⟨X1 ++ Y1, ?_, SameK.refl _, by rw [List.append_assoc]; exact hz⟩
            rcases he with he | he
            · subst he; exact sY1
            · subst he; rw [List.append_nil]; exact sX1
          rcases Nat.eq_zero_or_pos u with hu1 | hu1
          · have d3 : decide ((p : Int) < ((p + u : Nat) : Int)) = false := decide_eq_false (by omega)
            repeat (first | rw [c_seq] | simp -dsimp only [↓RE,RU,RL,forall_const,implies_true,Nat.reduceLeDiff,Nat.reduceLT,pureOp,binPure,intBin,strBin,eqPure,isConstO,unPure,resK,endV,yieldE,↓reduceIte,Nat.reduceEqDiff,reduceCtorEq,Nat.reduceAdd,Nat.reduceMul,Int.reduceLT,Int.reduceLE,Int.reduceToNat,Int.reduceAdd,Int.reduceSub,decide_true,decide_false,tf140, he1, he20, d3, undef])
            refine hold_intro ⟨⟨?_, ?_, ?_, ?_, ?_⟩, fin (.inl (List.eq_nil_of_length_eq_zero (by omega)))⟩
            · simp -dsimp only [↓RE,RU,RL,↓reduceIte,Nat.reduceEqDiff,reduceCtorEq,decide_true,decide_false, he0]
            · simp -dsimp only [↓RE,RU,RL,↓reduceIte,Nat.reduceEqDiff,reduceCtorEq,decide_true,decide_false, he3]
            · simp -dsimp only [↓RE,RU,RL,↓reduceIte,Nat.reduceEqDiff,reduceCtorEq,decide_true,decide_false, he4]
            · simp -dsimp only [↓RE,RU,RL,↓reduceIte,Nat.reduceEqDiff,reduceCtorEq,decide_true,decide_false, he18]
            · simp -dsimp only [↓RE,RU,RL,↓reduceIte,Nat.reduceEqDiff,reduceCtorEq,decide_true,decide_false, he24]
          · have d3 : decide ((p : Int) < ((p + u : Nat) : Int)) = true := decide_eq_true (by omega)
            rcases Nat.eq_zero_or_pos v with hv1 | hv1
            · have d4 : decide (((p + u : Nat) : Int) < ((p + u + v : Nat) : Int)) = false := decide_eq_false (by omega)
              repeat (first | rw [c_seq] | simp -dsimp only [↓RE,RU,RL,forall_const,implies_true,Nat.reduceLeDiff,Nat.reduceLT,pureOp,binPure,intBin,strBin,eqPure,isConstO,unPure,resK,endV,yieldE,↓reduceIte,Nat.reduceEqDiff,reduceCtorEq,Nat.reduceAdd,Nat.reduceMul,Int.reduceLT,Int.reduceLE,Int.reduceToNat,Int.reduceAdd,Int.reduceSub,decide_true,decide_false,tf140, he1, he18, he20, d3, d4])
              refine hold_intro ⟨⟨?_, ?_, ?_, ?_, ?_⟩, fin (.inr (List.eq_nil_of_length_eq_zero (by omega)))⟩
              · simp -dsimp only [↓RE,RU,RL,↓reduceIte,Nat.reduceEqDiff,reduceCtorEq,decide_true,decide_false, he0]
              · simp -dsimp only [↓RE,RU,RL,↓reduceIte,Nat.reduceEqDiff,reduceCtorEq,decide_true,decide_false, he3]
              · simp -dsimp only [↓RE,RU,RL,↓reduceIte,Nat.reduceEqDiff,reduceCtorEq,decide_true,decide_false, he4]
              · simp -dsimp only [↓RE,RU,RL,↓reduceIte,Nat.reduceEqDiff,reduceCtorEq,decide_true,decide_false, he18]
              · simp -dsimp only [↓RE,RU,RL,↓reduceIte,Nat.reduceEqDiff,reduceCtorEq,decide_true,decide_false, he24]
            · have d4 : decide (((p + u : Nat) : Int) < ((p + u + v : Nat) : Int)) = true := decide_eq_true (by omega)
              repeat (first | rw [c_seq] | simp -dsimp only [↓RE,RU,RL,forall_const,implies_true,Nat.reduceLeDiff,Nat.reduceLT,pureOp,binPure,intBin,strBin,eqPure,isConstO,unPure,resK,endV,yieldE,↓reduceIte,Nat.reduceEqDiff,reduceCtorEq,Nat.reduceAdd,Nat.reduceMul,Int.reduceLT,Int.reduceLE,Int.reduceToNat,Int.reduceAdd,Int.reduceSub,decide_true,decide_false,tf140, he0, he1, he4, he18, he20, d3, d4])
              refine ih wy P X1 Y1 _ (by simp only [List.length_append]; omega) (by omega) (by omega) hz sX1 sY1 _ _ _ (by omega) (by omega) (by omega) _ (fun w6 Z1 z1 z2 h6 => ?_)
              repeat (first | rw [c_seq] | simp -dsimp only [↓RE,RU,RL,forall_const,implies_true,Nat.reduceLeDiff,Nat.reduceLT,pureOp,binPure,intBin,strBin,eqPure,isConstO,unPure,resK,endV,yieldE,↓reduceIte,Nat.reduceEqDiff,reduceCtorEq,Nat.reduceAdd,Nat.reduceMul,Int.reduceLT,Int.reduceLE,Int.reduceToNat,Int.reduceAdd,Int.reduceSub,decide_true,decide_false,tf140, he0])
              refine hold_intro ⟨⟨?_, ?_, ?_, ?_, ?_⟩, Z1, z1, z2, h6⟩
              · simp -dsimp only [↓RE,RU,RL,↓reduceIte,Nat.reduceEqDiff,reduceCtorEq,decide_true,decide_false, he0]
              · simp -dsimp only [↓RE,RU,RL,↓reduceIte,Nat.reduceEqDiff,reduceCtorEq,decide_true,decide_false, he3]
              · simp -dsimp only [↓RE,RU,RL,↓reduceIte,Nat.reduceEqDiff,reduceCtorEq,decide_true,decide_false, he4]
              · simp -dsimp only [↓RE,RU,RL,↓reduceIte,Nat.reduceEqDiff,reduceCtorEq,decide_true,decide_false, he18]
              · simp -dsimp only [↓RE,RU,RL,↓reduceIte,Nat.reduceEqDiff,reduceCtorEq,decide_true,decide_false, he24]
        · clear he0 he1 he3 he4 he18 he20 he24 hz e
          rintro e wx ⟨⟨he0, he3, he4, he18, he24⟩, Z1, z1, z2, hz⟩
          have lZ1 : Z1.length = u + v := by have := z2.1; rw [List.length_append] at this; omega
          have done2 : ∀ Z2, SortedC cf Z2 → SameK cf (X2 ++ Y2) Z2 → SortedC cf (Z1 ++ Z2) ∧ SameK cf ((X1 ++ X2) ++ (Y1 ++ Y2)) (Z1 ++ Z2) := fun Z2 a b => sm_split hc hX hY h12 h21 z1 z2 a b
          have fin : (X2 = [] ∨ Y2 = []) → R (.tuple #[]) wx := fun he => by
            obtain ⟨a1, a2⟩ := done2 (X2 ++ Y2) (by
              rcases he with he | he
              · subst he; exact sY2
              · subst he; rw [List.append_nil]; exact sX2) (SameK.refl _)
            exact hR wx _ a1 a2 (by rw [List.append_assoc, List.append_assoc]; exact hz)
          rcases Nat.lt_or_ge u x with hu1 | hu1
          · have d3 : decide (((p + u + v : Nat) : Int) < ((p + x + v : Nat) : Int)) = true := decide_eq_true (by omega)
            rcases Nat.lt_or_ge v y with hv1 | hv1
            · have d4 : decide (((p + x + v : Nat) : Int) < ((p + x + y : Nat) : Int)) = true := decide_eq_true (by omega)
              have hz2 : Sr w0 ad n c l0 wx ((P ++ Z1) ++ (X2 ++ (Y2 ++ S))) := by rw [List.append_assoc]; exact hz
              have lP : (P ++ Z1).length = p + u + v := by rw [List.length_append]; omega
              repeat (first | rw [c_seq] | simp -dsimp only [↓RE,RU,RL,forall_const,implies_true,Nat.reduceLeDiff,Nat.reduceLT,pureOp,binPure,intBin,strBin,eqPure,isConstO,unPure,resK,endV,yieldE,↓reduceIte,Nat.reduceEqDiff,reduceCtorEq,Nat.reduceAdd,Nat.reduceMul,Int.reduceLT,Int.reduceLE,Int.reduceToNat,Int.reduceAdd,Int.reduceSub,decide_true,decide_false,tf140, he0, he3, he4, he18, he24, d3, d4])
              refine ih wx (P ++ Z1) X2 Y2 S (by simp only [List.length_append]; omega) (by omega) (by omega) hz2 sX2 sY2 _ _ _ (by rw [lP]) (by rw [lP]; omega) (by rw [lP]; omega) _ (fun w6 Z2 y1 y2 h6 => ?_)
              obtain ⟨a1, a2⟩ := done2 Z2 y1 y2
              repeat (first | rw [c_seq] | simp -dsimp only [↓RE,RU,RL,forall_const,implies_true,Nat.reduceLeDiff,Nat.reduceLT,pureOp,binPure,intBin,strBin,eqPure,isConstO,unPure,resK,endV,yieldE,↓reduceIte,Nat.reduceEqDiff,reduceCtorEq,Nat.reduceAdd,Nat.reduceMul,Int.reduceLT,Int.reduceLE,Int.reduceToNat,Int.reduceAdd,Int.reduceSub,decide_true,decide_false,tf140, he0])
              exact hR w6 _ a1 a2 (by rw [List.append_assoc]; rw [List.append_assoc] at h6; exact h6)
            · have d4 : decide (((p + x + v : Nat) : Int) < ((p + x + y : Nat) : Int)) = false := decide_eq_false (by omega)
              repeat (first | rw [c_seq] | simp -dsimp only [↓RE,RU,RL,forall_const,implies_true,Nat.reduceLeDiff,Nat.reduceLT,pureOp,binPure,intBin,strBin,eqPure,isConstO,unPure,resK,endV,yieldE,↓reduceIte,Nat.reduceEqDiff,reduceCtorEq,Nat.reduceAdd,Nat.reduceMul,Int.reduceLT,Int.reduceLE,Int.reduceToNat,Int.reduceAdd,Int.reduceSub,decide_true,decide_false,tf140, he3, he18, he24, d3, d4])
              exact fin (.inr (List.eq_nil_of_length_eq_zero (by omega)))
          · have d3 : decide (((p + u + v : Nat) : Int) < ((p + x + v : Nat) : Int)) = false := decide_eq_false (by omega)
            repeat (first | rw [c_seq] | simp -dsimp only [↓RE,RU,RL,forall_const,implies_true,Nat.reduceLeDiff,Nat.reduceLT,pureOp,binPure,intBin,strBin,eqPure,isConstO,unPure,resK,endV,yieldE,↓reduceIte,Nat.reduceEqDiff,reduceCtorEq,Nat.reduceAdd,Nat.reduceMul,Int.reduceLT,Int.reduceLE,Int.reduceToNat,Int.reduceAdd,Int.reduceSub,decide_true,decide_false,tf140, he3, he18, he24, d3, undef])
            exact fin (.inl (List.eq_nil_of_length_eq_zero (by omega)))
theorem sym_all {w0 : World} {ad : Addr} {n c : Nat} {l0 : List WrV} {f : FuncId} {cf : WrV → WrV → Int} (hcmp : CmpOk w0 ad l0 f cf) (hc : Cmp cf) (hn : n ≤ 2000000000000) : ∀ k, SymOk w0 ad n c l0 f cf k
  | 0 => fun _ _ _ _ _ h => by omega
  | k + 1 => by
    intro w P X Y S hk hX0 hY0 h hX hY a m b ha hm hb R hR
    rcases Nat.lt_or_ge X.length 2 with hx | hx
    · match X, hx, hX0 with
      | [x], _, _ => exact symm1_ok hcmp hc (by simpa using h) hY (by omega) ha (by simpa using hm) (by simpa using hb) hR
    rcases Nat.lt_or_ge Y.length 2 with hy | hy
    · match Y, hy, hY0 with
      | [y], _, _ => exact symm2_ok hcmp hc (by simpa using h) hX hx (by omega) ha hm (by simpa using hb) hR
    refine symm3_ok hcmp hc ?_ h hX hY hx hy hn ha hm hb hR
    intro w P' X' Y' S' hk'
    exact sym_all hcmp hc hn k w P' X' Y' S' (by omega)

end Go.Proofs.YtljgnocpijniiaaGreatDoor
