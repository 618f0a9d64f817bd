/- slices.symMergeCmpFunc of writes: where the second of the two parts has one place. -/
import Derived.Test.YtifaobnemnbfhaaSym1
set_option linter.unusedVariables false
set_option linter.unusedSimpArgs false
set_option maxRecDepth 100000
namespace Go.Proofs.Ytifaobnemnbfhaa
open Go

theorem symm2_ok {w0 w : World} {ad : Addr} {n c : Nat} {l0 : List WrV} {P X S : List WrV} {y : WrV} {f : FuncId} {cf : WrV → WrV → Int} (hcmp : CmpOk w0 ad l0 f cf) (hc : Cmp cf) (h : Sr w0 ad n c l0 w (P ++ (X ++ (y :: S)))) (hX : SortedC cf X) (hX2 : 2 ≤ X.length) (hn : n ≤ 5864062014634)
    {a m b : Int} (ha : a = P.length) (hm : m = P.length + X.length) (hb : b = P.length + X.length + 1) {R : VWK}
    (hR : ∀ w' Z, SortedC cf Z → SameK cf (X ++ [y]) Z → Sr w0 ad n c l0 w' (P ++ (Z ++ S)) → R (.tuple #[]) w') :
    CallsV Try.prog 67 [.slice (some ad) n c, .int .i64 a, .int .i64 m, .int .i64 b, .func (.func f) #[] #[]] w R := by
  have hlen := h.len
  simp only [List.length_append, List.length_cons] at hlen
  subst ha hm hb
  have hcall := fun xs w K tk => callK_func hcmp.can xs w (K := K) (tk := tk)
  obtain ⟨p, hp⟩ : ∃ p, p = P.length := ⟨_, rfl⟩
  have w1 : IntKind.i64.wrap ((P.length : Int) + X.length - P.length) = (X.length : Int) := by rw [wrap_i64_in (by omega) (by omega)]; omega
  have hd1 : decide ((X.length : Int) = 1) = false := decide_eq_false (by omega)
  have w2 : IntKind.i64.wrap ((P.length : Int) + X.length + 1 - (P.length + X.length)) = 1 := by rw [wrap_i64_in (by omega) (by omega)]; omega
  have hd2 : decide ((1 : Int) = 1) = true := rfl
  refine calls_of_wpC mixed Try.func67 rfl (by kernel_rfl) ?_
  intro e he
  have he0 := he 0
  have he1 := he 1
  have he2 := he 2
  have he3 := he 3
  have he4 := he 4
  simp only [List.getD_cons_zero, List.getD_cons_succ] at he0 he1 he2 he3 he4
  clear he
  repeat (first | rw [c_seq] | simp -dsimp only [↓RE,RU,RL,if_true,if_false,forall_const,implies_true,Nat.reduceLeDiff,Nat.reduceLT,pureOp,binPure,intBin,strBin,eqPure,isConstO,unPure,sliceLo,sliceHi,slicePure,slice3Pure,lenPure,capPure,minPure,maxPure,buildP,resK,endV,yieldE,↓reduceIte,Nat.reduceEqDiff,reduceCtorEq,Nat.reduceAdd,Nat.reduceMul,Nat.reduceSub,Int.reduceLT,Int.reduceLE,Int.reduceToNat,Int.reduceAdd,Int.reduceSub,Int.reduceMul,ne_eq,decide_true,decide_false,tf67, he1, he2, he3, w1, hd1, w2, hd2])
  refine wpLoop_intro (fun e' w' => (e' 0 = .slice (some ad) n c ∧ e' 2 = .int .i64 ((p + X.length : Nat) : Int) ∧ e' 4 = .func (.func f) #[] #[]) ∧ Grow w w' ∧ ∃ u v, u ≤ v ∧ v ≤ X.length ∧ e' 14 = .int .i64 ((p + u : Nat) : Int) ∧ e' 15 = .int .i64 ((p + v : Nat) : Int) ∧ (∀ k, k < u → cf (X.getD k w00) y ≤ 0) ∧ (∀ k, v ≤ k → k < X.length → cf y (X.getD k w00) < 0))
    (fun e' _ => (envInt (e' 15)).toNat - (envInt (e' 14)).toNat) ⟨⟨?_, ?_, ?_⟩, Keep.refl _ _, 0, X.length, Nat.zero_le _, Nat.le_refl _, ?_, ?_, fun k hk => absurd hk (by omega), fun k h1 h2 => absurd h2 (by omega)⟩ ?_
  · simp -dsimp only [↓RE,RU,RL,if_true,if_false,↓reduceIte,Nat.reduceEqDiff,reduceCtorEq,decide_true,decide_false, he0]
  · rw [hp]; simp -dsimp only [↓RE,↓c_seq,RU,RL,if_true,if_false,forall_const,implies_true,Nat.reduceLeDiff,Nat.reduceLT,pureOp,binPure,intBin,strBin,eqPure,isConstO,unPure,sliceLo,sliceHi,slicePure,slice3Pure,lenPure,capPure,minPure,maxPure,buildP,resK,endV,yieldE,↓reduceIte,Nat.reduceEqDiff,reduceCtorEq,Nat.reduceAdd,Nat.reduceMul,Nat.reduceSub,Int.reduceLT,Int.reduceLE,Int.reduceToNat,Int.reduceAdd,Int.reduceSub,Int.reduceMul,ne_eq,decide_true,decide_false,tf67, he2, Int.natCast_add]
  · simp -dsimp only [↓RE,RU,RL,if_true,if_false,↓reduceIte,Nat.reduceEqDiff,reduceCtorEq,decide_true,decide_false, he4]
  · rw [hp]; simp -dsimp only [↓RE,↓c_seq,RU,RL,if_true,if_false,forall_const,implies_true,Nat.reduceLeDiff,Nat.reduceLT,pureOp,binPure,intBin,strBin,eqPure,isConstO,unPure,sliceLo,sliceHi,slicePure,slice3Pure,lenPure,capPure,minPure,maxPure,buildP,resK,endV,yieldE,↓reduceIte,Nat.reduceEqDiff,reduceCtorEq,Nat.reduceAdd,Nat.reduceMul,Nat.reduceSub,Int.reduceLT,Int.reduceLE,Int.reduceToNat,Int.reduceAdd,Int.reduceSub,Int.reduceMul,ne_eq,decide_true,decide_false,tf67, he1, Int.natCast_add, Int.cast_ofNat_Int, Int.add_zero]
  · rw [hp]; simp -dsimp only [↓RE,↓c_seq,RU,RL,if_true,if_false,forall_const,implies_true,Nat.reduceLeDiff,Nat.reduceLT,pureOp,binPure,intBin,strBin,eqPure,isConstO,unPure,sliceLo,sliceHi,slicePure,slice3Pure,lenPure,capPure,minPure,maxPure,buildP,resK,endV,yieldE,↓reduceIte,Nat.reduceEqDiff,reduceCtorEq,Nat.reduceAdd,Nat.reduceMul,Nat.reduceSub,Int.reduceLT,Int.reduceLE,Int.reduceToNat,Int.reduceAdd,Int.reduceSub,Int.reduceMul,ne_eq,decide_true,decide_false,tf67, he2, Int.natCast_add, Int.cast_ofNat_Int]
  clear he0 he1 he2 he3 he4 e w1 hd1 w2 hd2
  rintro e wz ⟨⟨he0, he2, he4⟩, gz, u, v, huv, hv, he14, he15, hlo, hhi⟩
  have hz := h.grow gz
  rcases Nat.lt_or_ge u v with hlt | hge
  · have hd : decide (((p + u : Nat) : Int) < ((p + v : Nat) : Int)) = true := decide_eq_true (by omega)
    have hh := half_ok (i := p + u) (j := p + v) (by omega) (by omega)
    obtain ⟨k, hk⟩ : ∃ k, (p + u + (p + v)) / 2 = p + k := ⟨(p + u + (p + v)) / 2 - p, by omega⟩
    rw [hk] at hh
    have hk1 : u ≤ k := by omega
    have hk2 : k < v := by omega
    have hmu : (envInt (e 15)).toNat - (envInt (e 14)).toNat = v - u := by rw [he14, he15]; simp only [envInt_int]; omega
    have s1 : (P ++ (X ++ (y :: S)))[p + k]? = some (X.getD k w00) := by
      rw [hp]; exact at_mid (by omega)
    have s2 : (P ++ (X ++ (y :: S)))[p + X.length]? = some y := by
      rw [hp, ← List.append_assoc, List.getElem?_append_right (by simp)]; simp
    have hxm := h.mem _ (List.mem_of_getElem? s1)
    have hym := h.mem _ (List.mem_of_getElem? s2)
    repeat (first | rw [c_seq] | simp -dsimp only [↓RE,RU,RL,if_true,if_false,forall_const,implies_true,Nat.reduceLeDiff,Nat.reduceLT,pureOp,binPure,intBin,strBin,eqPure,isConstO,unPure,sliceLo,sliceHi,slicePure,slice3Pure,lenPure,capPure,minPure,maxPure,buildP,resK,endV,yieldE,↓reduceIte,Nat.reduceEqDiff,reduceCtorEq,Nat.reduceAdd,Nat.reduceMul,Nat.reduceSub,Int.reduceLT,Int.reduceLE,Int.reduceToNat,Int.reduceAdd,Int.reduceSub,Int.reduceMul,ne_eq,decide_true,decide_false,tf67, he14, he15, hd, hh])
    refine wpDraw_by (Grow wz ·) [(0, true), (1, true), (2, true), (3, true), (4, true), (5, true), (6, true), (7, true), (8, true), (9, false), (10, true), (11, true)] (by kernel_rfl) (Grow.drew wz) ?_
    simp only [planL, List.getElem?_toArray, List.getElem?_cons_zero, List.getElem?_cons_succ, Option.toList_some, List.map_cons, List.map_nil, List.cons_append, List.nil_append]
    repeat (first | rw [c_seq] | simp -dsimp only [↓RE,RU,RL,if_true,if_false,forall_const,implies_true,Nat.reduceLeDiff,Nat.reduceLT,pureOp,binPure,intBin,strBin,eqPure,isConstO,unPure,sliceLo,sliceHi,slicePure,slice3Pure,lenPure,capPure,minPure,maxPure,buildP,resK,endV,yieldE,↓reduceIte,Nat.reduceEqDiff,reduceCtorEq,Nat.reduceAdd,Nat.reduceMul,Nat.reduceSub,Int.reduceLT,Int.reduceLE,Int.reduceToNat,Int.reduceAdd,Int.reduceSub,Int.reduceMul,ne_eq,decide_true,decide_false,tf67, he0, he2, he4, hh, Int.toNat_natCast])
    refine ⟨⟨by omega, by omega⟩, y.cells, rfl, fun w' g' => (hz.grow g').cells s2, ?_⟩
    repeat (first | rw [c_seq] | simp -dsimp only [↓RE,RU,RL,if_true,if_false,forall_const,implies_true,Nat.reduceLeDiff,Nat.reduceLT,pureOp,binPure,intBin,strBin,eqPure,isConstO,unPure,sliceLo,sliceHi,slicePure,slice3Pure,lenPure,capPure,minPure,maxPure,buildP,resK,endV,yieldE,↓reduceIte,Nat.reduceEqDiff,reduceCtorEq,Nat.reduceAdd,Nat.reduceMul,Nat.reduceSub,Int.reduceLT,Int.reduceLE,Int.reduceToNat,Int.reduceAdd,Int.reduceSub,Int.reduceMul,ne_eq,decide_true,decide_false,tf67, he0, he2, he4, hh, Int.toNat_natCast])
    refine ⟨⟨by omega, by omega⟩, (X.getD k w00).cells, rfl, fun w' g' => (hz.grow g').cells s1, ?_⟩
    repeat (first | rw [c_seq] | simp -dsimp only [↓RE,RU,RL,if_true,if_false,forall_const,implies_true,Nat.reduceLeDiff,Nat.reduceLT,pureOp,binPure,intBin,strBin,eqPure,isConstO,unPure,sliceLo,sliceHi,slicePure,slice3Pure,lenPure,capPure,minPure,maxPure,buildP,resK,endV,yieldE,↓reduceIte,Nat.reduceEqDiff,reduceCtorEq,Nat.reduceAdd,Nat.reduceMul,Nat.reduceSub,Int.reduceLT,Int.reduceLE,Int.reduceToNat,Int.reduceAdd,Int.reduceSub,Int.reduceMul,ne_eq,decide_true,decide_false,tf67, he0, he4, hcall])
    refine hcmp.cmp wz.drew (hz.keep.then_grow (Grow.drew wz)) y hym _ hxm _ (fun w5 g5 => ?_)
    refine ⟨(Grow.drew wz).trans g5, ?_⟩
    have g6 := (gz.trans (Grow.drew wz)).trans g5
    have v1 : IntKind.i64.wrap (((p + k : Nat) : Int) + 1) = ((p + (k + 1) : Nat) : Int) := by rw [wrap_i64_in (by omega) (by omega)]; omega
    by_cases hlt2 : cf y (X.getD k w00) < 0
    · have hd3 : decide (cf y (X.getD k w00) < 0) = true := decide_eq_true hlt2
      repeat (first | rw [c_seq] | simp -dsimp only [↓RE,RU,RL,if_true,if_false,forall_const,implies_true,Nat.reduceLeDiff,Nat.reduceLT,pureOp,binPure,intBin,strBin,eqPure,isConstO,unPure,sliceLo,sliceHi,slicePure,slice3Pure,lenPure,capPure,minPure,maxPure,buildP,resK,endV,yieldE,↓reduceIte,Nat.reduceEqDiff,reduceCtorEq,Nat.reduceAdd,Nat.reduceMul,Nat.reduceSub,Int.reduceLT,Int.reduceLE,Int.reduceToNat,Int.reduceAdd,Int.reduceSub,Int.reduceMul,ne_eq,decide_true,decide_false,tf67, hd3, hh, v1, Bool.not_true])
      refine hold_intro ⟨⟨⟨?_, ?_, ?_⟩, g6, u, k, hk1, by omega, ?_, ?_, hlo, fun i h1 h2 => ?_⟩, ?_⟩
      · simp -dsimp only [↓RE,RU,RL,if_true,if_false,↓reduceIte,Nat.reduceEqDiff,reduceCtorEq,decide_true,decide_false, he0]
      · simp -dsimp only [↓RE,RU,RL,if_true,if_false,↓reduceIte,Nat.reduceEqDiff,reduceCtorEq,decide_true,decide_false, he2]
      · simp -dsimp only [↓RE,RU,RL,if_true,if_false,↓reduceIte,Nat.reduceEqDiff,reduceCtorEq,decide_true,decide_false, he4]
      · simp -dsimp only [↓RE,RU,RL,if_true,if_false,↓reduceIte,Nat.reduceEqDiff,reduceCtorEq,decide_true,decide_false, he14]
      · simp -dsimp only [↓RE,RU,RL,if_true,if_false,↓reduceIte,Nat.reduceEqDiff,reduceCtorEq,decide_true,decide_false, hh, v1]
      · rcases Nat.lt_or_eq_of_le h1 with h1 | rfl
        · have := hX.at (d := w00) (i := k) (j := i) h1 (by omega)
          exact hc.lt_le hlt2 this
        · exact hlt2
      · rw [hmu]
        simp -dsimp only [↓RE,↓c_seq,RU,RL,if_true,if_false,forall_const,implies_true,Nat.reduceLeDiff,Nat.reduceLT,pureOp,binPure,intBin,strBin,eqPure,isConstO,unPure,sliceLo,sliceHi,slicePure,slice3Pure,lenPure,capPure,minPure,maxPure,buildP,resK,endV,yieldE,↓reduceIte,Nat.reduceEqDiff,reduceCtorEq,Nat.reduceAdd,Nat.reduceMul,Nat.reduceSub,Int.reduceLT,Int.reduceLE,Int.reduceToNat,Int.reduceAdd,Int.reduceSub,Int.reduceMul,ne_eq,decide_true,decide_false,tf67, he14, hh, v1, envInt, Int.toNat_natCast]
        omega
    · have hd3 : decide (cf y (X.getD k w00) < 0) = false := decide_eq_false hlt2
      have hxy : cf (X.getD k w00) y ≤ 0 := by have := hc.neg y (X.getD k w00); omega
      repeat (first | rw [c_seq] | simp -dsimp only [↓RE,RU,RL,if_true,if_false,forall_const,implies_true,Nat.reduceLeDiff,Nat.reduceLT,pureOp,binPure,intBin,strBin,eqPure,isConstO,unPure,sliceLo,sliceHi,slicePure,slice3Pure,lenPure,capPure,minPure,maxPure,buildP,resK,endV,yieldE,↓reduceIte,Nat.reduceEqDiff,reduceCtorEq,Nat.reduceAdd,Nat.reduceMul,Nat.reduceSub,Int.reduceLT,Int.reduceLE,Int.reduceToNat,Int.reduceAdd,Int.reduceSub,Int.reduceMul,ne_eq,decide_true,decide_false,tf67, hd3, hh, v1, Bool.not_false])
      refine hold_intro ⟨⟨⟨?_, ?_, ?_⟩, g6, k + 1, v, by omega, hv, ?_, ?_, fun i hi => ?_, hhi⟩, ?_⟩
      · simp -dsimp only [↓RE,RU,RL,if_true,if_false,↓reduceIte,Nat.reduceEqDiff,reduceCtorEq,decide_true,decide_false, he0]
      · simp -dsimp only [↓RE,RU,RL,if_true,if_false,↓reduceIte,Nat.reduceEqDiff,reduceCtorEq,decide_true,decide_false, he2]
      · simp -dsimp only [↓RE,RU,RL,if_true,if_false,↓reduceIte,Nat.reduceEqDiff,reduceCtorEq,decide_true,decide_false, he4]
      · simp -dsimp only [↓RE,RU,RL,if_true,if_false,↓reduceIte,Nat.reduceEqDiff,reduceCtorEq,decide_true,decide_false, hh, v1]
      · simp -dsimp only [↓RE,RU,RL,if_true,if_false,↓reduceIte,Nat.reduceEqDiff,reduceCtorEq,decide_true,decide_false, he15]
      · rcases Nat.lt_or_eq_of_le (Nat.lt_succ_iff.1 hi) with h1 | rfl
        · have := hX.at (d := w00) (i := i) (j := k) h1 (by omega)
          exact hc.tr _ _ _ this hxy
        · exact hxy
      · rw [hmu]
        simp -dsimp only [↓RE,↓c_seq,RU,RL,if_true,if_false,forall_const,implies_true,Nat.reduceLeDiff,Nat.reduceLT,pureOp,binPure,intBin,strBin,eqPure,isConstO,unPure,sliceLo,sliceHi,slicePure,slice3Pure,lenPure,capPure,minPure,maxPure,buildP,resK,endV,yieldE,↓reduceIte,Nat.reduceEqDiff,reduceCtorEq,Nat.reduceAdd,Nat.reduceMul,Nat.reduceSub,Int.reduceLT,Int.reduceLE,Int.reduceToNat,Int.reduceAdd,Int.reduceSub,Int.reduceMul,ne_eq,decide_true,decide_false,tf67, he15, hh, v1, envInt, Int.toNat_natCast]
        omega
  · have huv' : u = v := by omega
    subst huv'
    have hd : decide (((p + u : Nat) : Int) < ((p + u : Nat) : Int)) = false := decide_eq_false (by omega)
    have h1 := take_all (p := fun z => cf z y ≤ 0) hlo hv
    have h2 := drop_all (p := fun z => cf y z < 0) hhi
    have eX : X.take u ++ X.drop u = X := List.take_append_drop _ _
    obtain ⟨f1, f2⟩ := ins_done hc (X1 := X.take u) (X2 := X.drop u) (x := y) (by rw [eX]; exact hX) h2 h1
    rw [eX] at f2
    repeat (first | rw [c_seq] | simp -dsimp only [↓RE,RU,RL,if_true,if_false,forall_const,implies_true,Nat.reduceLeDiff,Nat.reduceLT,pureOp,binPure,intBin,strBin,eqPure,isConstO,unPure,sliceLo,sliceHi,slicePure,slice3Pure,lenPure,capPure,minPure,maxPure,buildP,resK,endV,yieldE,↓reduceIte,Nat.reduceEqDiff,reduceCtorEq,Nat.reduceAdd,Nat.reduceMul,Nat.reduceSub,Int.reduceLT,Int.reduceLE,Int.reduceToNat,Int.reduceAdd,Int.reduceSub,Int.reduceMul,ne_eq,decide_true,decide_false,tf67, he14, he15, hd, he2])
    refine wpLoop_intro (fun e' w' => (e' 0 = .slice (some ad) n c ∧ e' 14 = .int .i64 ((p + u : Nat) : Int)) ∧ ∃ t, u ≤ t ∧ t ≤ X.length ∧ e' 17 = .int .i64 ((p + t : Nat) : Int) ∧ Sr w0 ad n c l0 w' (P ++ (X.take t ++ y :: (X.drop t ++ S))))
      (fun e' _ => (envInt (e' 17)).toNat) ⟨⟨?_, ?_⟩, X.length, hv, Nat.le_refl _, ?_, ?_⟩ ?_
    · simp -dsimp only [↓RE,RU,RL,if_true,if_false,↓reduceIte,Nat.reduceEqDiff,reduceCtorEq,decide_true,decide_false, he0]
    · simp -dsimp only [↓RE,RU,RL,if_true,if_false,↓reduceIte,Nat.reduceEqDiff,reduceCtorEq,decide_true,decide_false, he14]
    · simp -dsimp only [↓RE,RU,RL,if_true,if_false,↓reduceIte,Nat.reduceEqDiff,reduceCtorEq,decide_true,decide_false, he2]
    · rw [List.take_of_length_le (Nat.le_refl _), List.drop_eq_nil_of_le (Nat.le_refl _), List.nil_append]; exact hz
    clear he0 he2 he4 he14 he15 hz e hlo hhi
    rintro e wz ⟨⟨he0, he14⟩, t, hut, ht, he17, hz⟩
    rcases Nat.lt_or_ge u t with hlt | hge
    · have hd : decide (((p + u : Nat) : Int) < ((p + t : Nat) : Int)) = true := decide_eq_true (by omega)
      have hmu : (envInt (e 17)).toNat = p + t := by rw [he17]; exact Int.toNat_natCast _
      obtain ⟨s, rfl⟩ : ∃ s, t = s + 1 := ⟨t - 1, by omega⟩
      have v3 : IntKind.i64.wrap (((p + (s + 1) : Nat) : Int) - 1) = ((p + s : Nat) : Int) := by rw [wrap_i64_in (by omega) (by omega)]; omega
      obtain ⟨x, hx⟩ : ∃ x, x = X[s]'(by omega) := ⟨_, rfl⟩
      have eD : X.drop s = x :: X.drop (s + 1) := by rw [List.drop_eq_getElem_cons (by omega), ← hx]
      have eT : X.take (s + 1) = X.take s ++ [x] := by rw [List.take_succ_eq_append_getElem (by omega), ← hx]
      have e1 : P ++ (X.take (s + 1) ++ y :: (X.drop (s + 1) ++ S)) = (P ++ X.take s) ++ x :: ([] ++ y :: (X.drop (s + 1) ++ S)) := by rw [eT]; simp [List.append_assoc]
      have e2 : P ++ (X.take s ++ y :: (X.drop s ++ S)) = (P ++ X.take s) ++ y :: ([] ++ x :: (X.drop (s + 1) ++ S)) := by rw [eD]; simp [List.append_assoc]
      obtain ⟨s1, s2, s3, s4⟩ := swap_at (P ++ X.take s) [] (X.drop (s + 1) ++ S) x y
      rw [← e1, ← e2] at s4
      rw [← e1] at s1 s2
      have l1 : (P ++ X.take s).length = p + s := by rw [List.length_append, List.length_take, hp]; omega
      rw [l1] at s1 s2 s4
      rw [List.length_nil, Nat.add_zero] at s2 s4
      have hxm := hz.mem _ (List.mem_of_getElem? s1)
      have hym := hz.mem _ (List.mem_of_getElem? s2)
      repeat (first | rw [c_seq] | simp -dsimp only [↓RE,RU,RL,if_true,if_false,forall_const,implies_true,Nat.reduceLeDiff,Nat.reduceLT,pureOp,binPure,intBin,strBin,eqPure,isConstO,unPure,sliceLo,sliceHi,slicePure,slice3Pure,lenPure,capPure,minPure,maxPure,buildP,resK,endV,yieldE,↓reduceIte,Nat.reduceEqDiff,reduceCtorEq,Nat.reduceAdd,Nat.reduceMul,Nat.reduceSub,Int.reduceLT,Int.reduceLE,Int.reduceToNat,Int.reduceAdd,Int.reduceSub,Int.reduceMul,ne_eq,decide_true,decide_false,tf67, he17, he14, hd])
      refine wpDraw_swap (Sr w0 ad n c l0 · _) [0, 1, 2, 3, 4, 5, 6, 7, 8, 9, 10, 11, 12, 13, 14] 15 [15, 16, 17] (by kernel_rfl) (hz.grow (Grow.drew wz)) ?_
      simp only [List.filterMap_cons, List.filterMap_nil, planL, List.getElem?_toArray, List.getElem?_cons_zero, List.getElem?_cons_succ, Option.toList_some, List.map_cons, List.map_nil, List.cons_append, List.nil_append]
      repeat (first | rw [c_seq] | simp -dsimp only [↓RE,RU,RL,if_true,if_false,forall_const,implies_true,Nat.reduceLeDiff,Nat.reduceLT,pureOp,binPure,intBin,strBin,eqPure,isConstO,unPure,sliceLo,sliceHi,slicePure,slice3Pure,lenPure,capPure,minPure,maxPure,buildP,resK,endV,yieldE,↓reduceIte,Nat.reduceEqDiff,reduceCtorEq,Nat.reduceAdd,Nat.reduceMul,Nat.reduceSub,Int.reduceLT,Int.reduceLE,Int.reduceToNat,Int.reduceAdd,Int.reduceSub,Int.reduceMul,ne_eq,decide_true,decide_false,tf67, he0, he17, v3, Int.toNat_natCast])
      refine ⟨⟨by omega, by omega⟩, x.cells, rfl, fun w' hw' => hw'.cells s1, ?_⟩
      repeat (first | rw [c_seq] | simp -dsimp only [↓RE,RU,RL,if_true,if_false,forall_const,implies_true,Nat.reduceLeDiff,Nat.reduceLT,pureOp,binPure,intBin,strBin,eqPure,isConstO,unPure,sliceLo,sliceHi,slicePure,slice3Pure,lenPure,capPure,minPure,maxPure,buildP,resK,endV,yieldE,↓reduceIte,Nat.reduceEqDiff,reduceCtorEq,Nat.reduceAdd,Nat.reduceMul,Nat.reduceSub,Int.reduceLT,Int.reduceLE,Int.reduceToNat,Int.reduceAdd,Int.reduceSub,Int.reduceMul,ne_eq,decide_true,decide_false,tf67, he0, he17, v3, Int.toNat_natCast])
      refine ⟨⟨by omega, by omega⟩, y.cells, rfl, fun w' hw' => hw'.cells (k := p + (s + 1)) s2, ?_⟩
      repeat (first | rw [c_seq] | simp -dsimp only [↓RE,RU,RL,if_true,if_false,forall_const,implies_true,Nat.reduceLeDiff,Nat.reduceLT,pureOp,binPure,intBin,strBin,eqPure,isConstO,unPure,sliceLo,sliceHi,slicePure,slice3Pure,lenPure,capPure,minPure,maxPure,buildP,resK,endV,yieldE,↓reduceIte,Nat.reduceEqDiff,reduceCtorEq,Nat.reduceAdd,Nat.reduceMul,Nat.reduceSub,Int.reduceLT,Int.reduceLE,Int.reduceToNat,Int.reduceAdd,Int.reduceSub,Int.reduceMul,ne_eq,decide_true,decide_false,tf67, he0, he17, v3, Int.toNat_natCast])
      refine ⟨⟨by omega, by omega⟩, rfl, (hz.grow (Grow.drew wz)).set (k := p + (s + 1)) (by omega) hxm (fun w6 h6 => ?_)⟩
      repeat (first | rw [c_seq] | simp -dsimp only [↓RE,RU,RL,if_true,if_false,forall_const,implies_true,Nat.reduceLeDiff,Nat.reduceLT,pureOp,binPure,intBin,strBin,eqPure,isConstO,unPure,sliceLo,sliceHi,slicePure,slice3Pure,lenPure,capPure,minPure,maxPure,buildP,resK,endV,yieldE,↓reduceIte,Nat.reduceEqDiff,reduceCtorEq,Nat.reduceAdd,Nat.reduceMul,Nat.reduceSub,Int.reduceLT,Int.reduceLE,Int.reduceToNat,Int.reduceAdd,Int.reduceSub,Int.reduceMul,ne_eq,decide_true,decide_false,tf67, he0, he17, v3, Int.toNat_natCast])
      refine ⟨⟨by omega, by omega⟩, rfl, h6.set (k := p + s) (by omega) hym (fun w7 h7 => ?_)⟩
      have h7 : Sr w0 ad n c l0 w7 (P ++ (X.take s ++ y :: (X.drop s ++ S))) := by rw [← s4]; exact h7
      repeat (first | rw [c_seq] | simp -dsimp only [↓RE,RU,RL,if_true,if_false,forall_const,implies_true,Nat.reduceLeDiff,Nat.reduceLT,pureOp,binPure,intBin,strBin,eqPure,isConstO,unPure,sliceLo,sliceHi,slicePure,slice3Pure,lenPure,capPure,minPure,maxPure,buildP,resK,endV,yieldE,↓reduceIte,Nat.reduceEqDiff,reduceCtorEq,Nat.reduceAdd,Nat.reduceMul,Nat.reduceSub,Int.reduceLT,Int.reduceLE,Int.reduceToNat,Int.reduceAdd,Int.reduceSub,Int.reduceMul,ne_eq,decide_true,decide_false,tf67, he17, v3])
      refine hold_intro ⟨⟨⟨?_, ?_⟩, s, by omega, by omega, ?_, h7⟩, ?_⟩
      · simp -dsimp only [↓RE,RU,RL,if_true,if_false,↓reduceIte,Nat.reduceEqDiff,reduceCtorEq,decide_true,decide_false, he0]
      · simp -dsimp only [↓RE,RU,RL,if_true,if_false,↓reduceIte,Nat.reduceEqDiff,reduceCtorEq,decide_true,decide_false, he14]
      · simp -dsimp only [↓RE,RU,RL,if_true,if_false,↓reduceIte,Nat.reduceEqDiff,reduceCtorEq,decide_true,decide_false, he17, v3]
      · rw [hmu]
        simp -dsimp only [↓RE,↓c_seq,RU,RL,if_true,if_false,forall_const,implies_true,Nat.reduceLeDiff,Nat.reduceLT,pureOp,binPure,intBin,strBin,eqPure,isConstO,unPure,sliceLo,sliceHi,slicePure,slice3Pure,lenPure,capPure,minPure,maxPure,buildP,resK,endV,yieldE,↓reduceIte,Nat.reduceEqDiff,reduceCtorEq,Nat.reduceAdd,Nat.reduceMul,Nat.reduceSub,Int.reduceLT,Int.reduceLE,Int.reduceToNat,Int.reduceAdd,Int.reduceSub,Int.reduceMul,ne_eq,decide_true,decide_false,tf67, he17, v3, envInt, Int.toNat_natCast]
        omega
    · have htu : t = u := by omega
      subst htu
      have hd : decide (((p + t : Nat) : Int) < ((p + t : Nat) : Int)) = false := decide_eq_false (by omega)
      repeat (first | rw [c_seq] | simp -dsimp only [↓RE,RU,RL,if_true,if_false,forall_const,implies_true,Nat.reduceLeDiff,Nat.reduceLT,pureOp,binPure,intBin,strBin,eqPure,isConstO,unPure,sliceLo,sliceHi,slicePure,slice3Pure,lenPure,capPure,minPure,maxPure,buildP,resK,endV,yieldE,↓reduceIte,Nat.reduceEqDiff,reduceCtorEq,Nat.reduceAdd,Nat.reduceMul,Nat.reduceSub,Int.reduceLT,Int.reduceLE,Int.reduceToNat,Int.reduceAdd,Int.reduceSub,Int.reduceMul,ne_eq,decide_true,decide_false,tf67, he17, he14, hd])
      refine hR wz _ f1 f2 ?_
      rw [List.append_assoc]
      exact hz

end Go.Proofs.Ytifaobnemnbfhaa
