/- slices.insertionSortCmpFunc of writes. -/
import Derived.Test.YtifaobnemnbfhaaSrt
set_option linter.unusedVariables false
set_option linter.unusedSimpArgs false
set_option maxRecDepth 100000
namespace Go.Proofs.Ytifaobnemnbfhaa
open Go

theorem snoc_of {α : Type} {l : List α} (h : 0 < l.length) : ∃ l' y, l = l' ++ [y] := by
  rcases List.eq_nil_or_concat l with rfl | ⟨l', y, rfl⟩
  · simp at h
  · exact ⟨l', y, by simp⟩
theorem inss_ok {w0 w : World} {ad : Addr} {n c : Nat} {l0 : List WrV} {P X S : List WrV} {f : FuncId} {cf : WrV → WrV → Int} (hcmp : CmpOk w0 ad l0 f cf) (hc : Cmp cf) (h : Sr w0 ad n c l0 w (P ++ (X ++ S))) (hn : n ≤ 4611686018427387904) {a b : Int} (ha : a = P.length) (hb : b = P.length + X.length) {R : VWK}
    (hR : ∀ w' Z, SortedC cf Z → SameK cf X Z → Sr w0 ad n c l0 w' (P ++ (Z ++ S)) → R (.tuple #[]) w') :
    CallsV Try.prog 66 [.slice (some ad) n c, .int .i64 a, .int .i64 b, .func (.func f) #[] #[]] w R := by
  have hlen := h.len
  simp only [List.length_append] at hlen
  subst ha hb
  have w1 : IntKind.i64.wrap ((P.length : Int) + 1) = ((P.length + 1 : Nat) : Int) := by rw [wrap_i64_in (by omega) (by omega)]; omega
  have hcall := fun xs w K tk => callK_func hcmp.can xs w (K := K) (tk := tk)
  obtain ⟨p, hp⟩ : ∃ p, p = P.length := ⟨_, rfl⟩
  refine calls_of_wpC mixed Try.func66 rfl (by kernel_rfl) ?_
  intro e he
  have he0 := he 0
  have he1 := he 1
  have he2 := he 2
  have he3 := he 3
  simp only [List.getD_cons_zero, List.getD_cons_succ] at he0 he1 he2 he3
  clear he
  rcases Nat.eq_zero_or_pos X.length with h0 | h0
  · have hX : X = [] := List.eq_nil_of_length_eq_zero h0
    subst hX
    repeat (first | rw [c_seq] | simp -dsimp only [↓RE,RU,RL,if_true,if_false,forall_const,implies_true,Nat.reduceLeDiff,Nat.reduceLT,pureOp,binPure,intBin,strBin,eqPure,isConstO,unPure,sliceLo,sliceHi,slicePure,slice3Pure,lenPure,capPure,minPure,maxPure,buildP,resK,endV,yieldE,↓reduceIte,Nat.reduceEqDiff,reduceCtorEq,Nat.reduceAdd,Nat.reduceMul,Nat.reduceSub,Int.reduceLT,Int.reduceLE,Int.reduceToNat,Int.reduceAdd,Int.reduceSub,Int.reduceMul,ne_eq,decide_true,decide_false,tf66, he0, he1, he2, w1])
    refine wpLoop_intro (fun e' w' => w' = w ∧ e' 2 = .int .i64 (P.length : Int) ∧ e' 8 = .int .i64 ((P.length + 1 : Nat) : Int)) (fun e' _ => 0) ⟨rfl, ?_, ?_⟩ ?_
    · have : ((P.length : Int) + (([] : List WrV).length : Int)) = (P.length : Int) := by simp
      rw [this] at he2
      simp -dsimp only [↓RE,↓c_seq,RU,RL,if_true,if_false,forall_const,implies_true,Nat.reduceLeDiff,Nat.reduceLT,pureOp,binPure,intBin,strBin,eqPure,isConstO,unPure,sliceLo,sliceHi,slicePure,slice3Pure,lenPure,capPure,minPure,maxPure,buildP,resK,endV,yieldE,↓reduceIte,Nat.reduceEqDiff,reduceCtorEq,Nat.reduceAdd,Nat.reduceMul,Nat.reduceSub,Int.reduceLT,Int.reduceLE,Int.reduceToNat,Int.reduceAdd,Int.reduceSub,Int.reduceMul,ne_eq,decide_true,decide_false,tf66, he2]
    · simp -dsimp only [↓RE,RU,RL,if_true,if_false,↓reduceIte,Nat.reduceEqDiff,reduceCtorEq,decide_true,decide_false, he1, w1]
    clear he0 he1 he2 he3 e
    rintro e wz ⟨rfl, he2, he8⟩
    have hd : decide (((P.length + 1 : Nat) : Int) < (P.length : Int)) = false := decide_eq_false (by omega)
    repeat (first | rw [c_seq] | simp -dsimp only [↓RE,RU,RL,if_true,if_false,forall_const,implies_true,Nat.reduceLeDiff,Nat.reduceLT,pureOp,binPure,intBin,strBin,eqPure,isConstO,unPure,sliceLo,sliceHi,slicePure,slice3Pure,lenPure,capPure,minPure,maxPure,buildP,resK,endV,yieldE,↓reduceIte,Nat.reduceEqDiff,reduceCtorEq,Nat.reduceAdd,Nat.reduceMul,Nat.reduceSub,Int.reduceLT,Int.reduceLE,Int.reduceToNat,Int.reduceAdd,Int.reduceSub,Int.reduceMul,ne_eq,decide_true,decide_false,tf66, he2, he8, hd])
    exact hR _ [] List.Pairwise.nil (SameK.refl _) h
  repeat (first | rw [c_seq] | simp -dsimp only [↓RE,RU,RL,if_true,if_false,forall_const,implies_true,Nat.reduceLeDiff,Nat.reduceLT,pureOp,binPure,intBin,strBin,eqPure,isConstO,unPure,sliceLo,sliceHi,slicePure,slice3Pure,lenPure,capPure,minPure,maxPure,buildP,resK,endV,yieldE,↓reduceIte,Nat.reduceEqDiff,reduceCtorEq,Nat.reduceAdd,Nat.reduceMul,Nat.reduceSub,Int.reduceLT,Int.reduceLE,Int.reduceToNat,Int.reduceAdd,Int.reduceSub,Int.reduceMul,ne_eq,decide_true,decide_false,tf66, he0, he1, he2, w1])
  refine wpLoop_intro (fun e' w' => (e' 0 = .slice (some ad) n c ∧ e' 1 = .int .i64 (p : Int) ∧ e' 2 = .int .i64 ((p + X.length : Nat) : Int) ∧ e' 3 = .func (.func f) #[] #[]) ∧ ∃ V Z U, X = V ++ U ∧ SortedC cf Z ∧ SameK cf V Z ∧ 0 < Z.length ∧ e' 8 = .int .i64 ((p + Z.length : Nat) : Int) ∧ Sr w0 ad n c l0 w' (P ++ (Z ++ (U ++ S))))
    (fun e' _ => p + X.length - (envInt (e' 8)).toNat) ⟨⟨?_, ?_, ?_, ?_⟩, X.take 1, X.take 1, X.drop 1, (List.take_append_drop _ _).symm, ?_, SameK.refl _, by rw [List.length_take]; omega, ?_, ?_⟩ ?_
  · simp -dsimp only [↓RE,RU,RL,if_true,if_false,↓reduceIte,Nat.reduceEqDiff,reduceCtorEq,decide_true,decide_false, he0]
  · rw [hp]; simp -dsimp only [↓RE,↓c_seq,RU,RL,if_true,if_false,forall_const,implies_true,Nat.reduceLeDiff,Nat.reduceLT,pureOp,binPure,intBin,strBin,eqPure,isConstO,unPure,sliceLo,sliceHi,slicePure,slice3Pure,lenPure,capPure,minPure,maxPure,buildP,resK,endV,yieldE,↓reduceIte,Nat.reduceEqDiff,reduceCtorEq,Nat.reduceAdd,Nat.reduceMul,Nat.reduceSub,Int.reduceLT,Int.reduceLE,Int.reduceToNat,Int.reduceAdd,Int.reduceSub,Int.reduceMul,ne_eq,decide_true,decide_false,tf66, he1]
  · rw [hp]; simp -dsimp only [↓RE,↓c_seq,RU,RL,if_true,if_false,forall_const,implies_true,Nat.reduceLeDiff,Nat.reduceLT,pureOp,binPure,intBin,strBin,eqPure,isConstO,unPure,sliceLo,sliceHi,slicePure,slice3Pure,lenPure,capPure,minPure,maxPure,buildP,resK,endV,yieldE,↓reduceIte,Nat.reduceEqDiff,reduceCtorEq,Nat.reduceAdd,Nat.reduceMul,Nat.reduceSub,Int.reduceLT,Int.reduceLE,Int.reduceToNat,Int.reduceAdd,Int.reduceSub,Int.reduceMul,ne_eq,decide_true,decide_false,tf66, he2, Int.natCast_add]
  · simp -dsimp only [↓RE,RU,RL,if_true,if_false,↓reduceIte,Nat.reduceEqDiff,reduceCtorEq,decide_true,decide_false, he3]
  · cases X with
    | nil => exact List.Pairwise.nil
    | cons x X => exact List.pairwise_singleton _ _
  · rw [List.length_take, Nat.min_eq_left h0, hp]; simp -dsimp only [↓RE,↓c_seq,RU,RL,if_true,if_false,forall_const,implies_true,Nat.reduceLeDiff,Nat.reduceLT,pureOp,binPure,intBin,strBin,eqPure,isConstO,unPure,sliceLo,sliceHi,slicePure,slice3Pure,lenPure,capPure,minPure,maxPure,buildP,resK,endV,yieldE,↓reduceIte,Nat.reduceEqDiff,reduceCtorEq,Nat.reduceAdd,Nat.reduceMul,Nat.reduceSub,Int.reduceLT,Int.reduceLE,Int.reduceToNat,Int.reduceAdd,Int.reduceSub,Int.reduceMul,ne_eq,decide_true,decide_false,tf66, he1, w1]
  · rw [← List.append_assoc (X.take 1), List.take_append_drop]; exact h
  clear he0 he1 he2 he3 e h w1 hlen
  rintro e wz ⟨⟨he0, he1, he2, he3⟩, V, Z, U, hX, hZ, hVZ, hz0, he8, h⟩
  have hlen := h.len
  simp only [List.length_append] at hlen
  have hXl : X.length = V.length + U.length := by rw [hX, List.length_append]
  have hVl := hVZ.1
  cases U with
  | nil =>
    have hd : decide (((p + Z.length : Nat) : Int) < ((p + X.length : Nat) : Int)) = false := decide_eq_false (by simp only [List.length_nil] at hXl; omega)
    rw [List.append_nil] at hX
    subst hX
    repeat (first | rw [c_seq] | simp -dsimp only [↓RE,RU,RL,if_true,if_false,forall_const,implies_true,Nat.reduceLeDiff,Nat.reduceLT,pureOp,binPure,intBin,strBin,eqPure,isConstO,unPure,sliceLo,sliceHi,slicePure,slice3Pure,lenPure,capPure,minPure,maxPure,buildP,resK,endV,yieldE,↓reduceIte,Nat.reduceEqDiff,reduceCtorEq,Nat.reduceAdd,Nat.reduceMul,Nat.reduceSub,Int.reduceLT,Int.reduceLE,Int.reduceToNat,Int.reduceAdd,Int.reduceSub,Int.reduceMul,ne_eq,decide_true,decide_false,tf66, he8, he2, hd])
    exact hR wz Z hZ hVZ h
  | cons x U =>
    have hd : decide (((p + Z.length : Nat) : Int) < ((p + X.length : Nat) : Int)) = true := decide_eq_true (by simp only [List.length_cons] at hXl; omega)
    have hmu : (envInt (e 8)).toNat = p + Z.length := by rw [he8]; exact Int.toNat_natCast _
    have w3 : IntKind.i64.wrap (((p + Z.length : Nat) : Int) + 1) = ((p + Z.length + 1 : Nat) : Int) := by rw [wrap_i64_in (by omega) (by omega)]; omega
    repeat (first | rw [c_seq] | simp -dsimp only [↓RE,RU,RL,if_true,if_false,forall_const,implies_true,Nat.reduceLeDiff,Nat.reduceLT,pureOp,binPure,intBin,strBin,eqPure,isConstO,unPure,sliceLo,sliceHi,slicePure,slice3Pure,lenPure,capPure,minPure,maxPure,buildP,resK,endV,yieldE,↓reduceIte,Nat.reduceEqDiff,reduceCtorEq,Nat.reduceAdd,Nat.reduceMul,Nat.reduceSub,Int.reduceLT,Int.reduceLE,Int.reduceToNat,Int.reduceAdd,Int.reduceSub,Int.reduceMul,ne_eq,decide_true,decide_false,tf66, he8, he2, hd])
    refine wpLoop_intro (fun e' w' => (e' 0 = .slice (some ad) n c ∧ e' 1 = .int .i64 (p : Int) ∧ e' 2 = .int .i64 ((p + X.length : Nat) : Int) ∧ e' 3 = .func (.func f) #[] #[] ∧ e' 8 = .int .i64 ((p + Z.length : Nat) : Int)) ∧ ∃ Z1 Z2, Z = Z1 ++ Z2 ∧ (∀ z ∈ Z2, cf x z < 0) ∧ e' 9 = .int .i64 ((p + Z1.length : Nat) : Int) ∧ Sr w0 ad n c l0 w' (P ++ ((Z1 ++ x :: Z2) ++ (U ++ S))))
      (fun e' _ => (envInt (e' 9)).toNat) ⟨⟨?_, ?_, ?_, ?_, ?_⟩, Z, [], (List.append_nil _).symm, fun z hz => (by cases hz), ?_, ?_⟩ ?_
    · simp -dsimp only [↓RE,RU,RL,if_true,if_false,↓reduceIte,Nat.reduceEqDiff,reduceCtorEq,decide_true,decide_false, he0]
    · simp -dsimp only [↓RE,RU,RL,if_true,if_false,↓reduceIte,Nat.reduceEqDiff,reduceCtorEq,decide_true,decide_false, he1]
    · simp -dsimp only [↓RE,RU,RL,if_true,if_false,↓reduceIte,Nat.reduceEqDiff,reduceCtorEq,decide_true,decide_false, he2]
    · simp -dsimp only [↓RE,RU,RL,if_true,if_false,↓reduceIte,Nat.reduceEqDiff,reduceCtorEq,decide_true,decide_false, he3]
    · simp -dsimp only [↓RE,RU,RL,if_true,if_false,↓reduceIte,Nat.reduceEqDiff,reduceCtorEq,decide_true,decide_false, he8]
    · simp -dsimp only [↓RE,RU,RL,if_true,if_false,↓reduceIte,Nat.reduceEqDiff,reduceCtorEq,decide_true,decide_false, he8]
    · simpa [List.append_assoc] using h
    clear he0 he1 he2 he3 he8 h
    rintro e1 wy ⟨⟨he0, he1, he2, he3, he8⟩, Z1, Z2, hZe, hZ2, he9, h⟩
    subst hZe
    have fin : (∀ y ∈ Z1, cf y x ≤ 0) → SortedC cf (Z1 ++ x :: Z2) ∧ SameK cf (V ++ [x]) (Z1 ++ x :: Z2) := fun hy => by
      obtain ⟨a1, a2⟩ := ins_done hc hZ hZ2 hy
      exact ⟨a1, (hVZ.app (SameK.refl [x])).trans a2⟩
    have hX2 : X = (V ++ [x]) ++ U := by rw [hX, List.append_assoc]; rfl
    have hlz : (Z1 ++ x :: Z2).length = (Z1 ++ Z2).length + 1 := by simp; omega
    rcases Nat.eq_zero_or_pos Z1.length with hz1 | hz1
    · have hd2 : decide ((p : Int) < ((p + Z1.length : Nat) : Int)) = false := decide_eq_false (by omega)
      obtain ⟨f1, f2⟩ := fin (fun y hy => by rw [List.eq_nil_of_length_eq_zero hz1] at hy; cases hy)
      repeat (first | rw [c_seq] | simp -dsimp only [↓RE,RU,RL,if_true,if_false,forall_const,implies_true,Nat.reduceLeDiff,Nat.reduceLT,pureOp,binPure,intBin,strBin,eqPure,isConstO,unPure,sliceLo,sliceHi,slicePure,slice3Pure,lenPure,capPure,minPure,maxPure,buildP,resK,endV,yieldE,↓reduceIte,Nat.reduceEqDiff,reduceCtorEq,Nat.reduceAdd,Nat.reduceMul,Nat.reduceSub,Int.reduceLT,Int.reduceLE,Int.reduceToNat,Int.reduceAdd,Int.reduceSub,Int.reduceMul,ne_eq,decide_true,decide_false,tf66, he0, he1, he9])
      refine wpDraw_by (Grow wy ·) [(0, true), (1, true), (2, true), (3, true), (4, true), (5, true), (6, true), (7, true), (8, true), (9, true), (10, true), (11, true), (12, true), (13, true), (14, false), (15, true), (16, true)] (by kernel_rfl) (Grow.drew wy) ?_
      simp only [planL, List.getElem?_toArray, List.getElem?_cons_zero, List.getElem?_cons_succ, Option.toList_some, List.map_cons, List.map_nil, List.cons_append, List.nil_append]
      repeat (first | rw [c_seq] | simp -dsimp only [↓RE,RU,RL,if_true,if_false,forall_const,implies_true,Nat.reduceLeDiff,Nat.reduceLT,pureOp,binPure,intBin,strBin,eqPure,isConstO,unPure,sliceLo,sliceHi,slicePure,slice3Pure,lenPure,capPure,minPure,maxPure,buildP,resK,endV,yieldE,↓reduceIte,Nat.reduceEqDiff,reduceCtorEq,Nat.reduceAdd,Nat.reduceMul,Nat.reduceSub,Int.reduceLT,Int.reduceLE,Int.reduceToNat,Int.reduceAdd,Int.reduceSub,Int.reduceMul,ne_eq,decide_true,decide_false,tf66, he0, he1, he9, hd2, undef])
      refine ⟨Grow.drew wy, ?_⟩
      repeat (first | rw [c_seq] | simp -dsimp only [↓RE,RU,RL,if_true,if_false,forall_const,implies_true,Nat.reduceLeDiff,Nat.reduceLT,pureOp,binPure,intBin,strBin,eqPure,isConstO,unPure,sliceLo,sliceHi,slicePure,slice3Pure,lenPure,capPure,minPure,maxPure,buildP,resK,endV,yieldE,↓reduceIte,Nat.reduceEqDiff,reduceCtorEq,Nat.reduceAdd,Nat.reduceMul,Nat.reduceSub,Int.reduceLT,Int.reduceLE,Int.reduceToNat,Int.reduceAdd,Int.reduceSub,Int.reduceMul,ne_eq,decide_true,decide_false,tf66, he8, w3])
      refine hold_intro ⟨⟨⟨?_, ?_, ?_, ?_⟩, V ++ [x], Z1 ++ x :: Z2, U, hX2, f1, f2, by rw [hlz]; omega, ?_, h.grow (Grow.drew wy)⟩, ?_⟩
      · simp -dsimp only [↓RE,RU,RL,if_true,if_false,↓reduceIte,Nat.reduceEqDiff,reduceCtorEq,decide_true,decide_false, he0]
      · simp -dsimp only [↓RE,RU,RL,if_true,if_false,↓reduceIte,Nat.reduceEqDiff,reduceCtorEq,decide_true,decide_false, he1]
      · simp -dsimp only [↓RE,RU,RL,if_true,if_false,↓reduceIte,Nat.reduceEqDiff,reduceCtorEq,decide_true,decide_false, he2]
      · simp -dsimp only [↓RE,RU,RL,if_true,if_false,↓reduceIte,Nat.reduceEqDiff,reduceCtorEq,decide_true,decide_false, he3]
      · rw [hlz]; simp -dsimp only [↓RE,↓c_seq,RU,RL,if_true,if_false,forall_const,implies_true,Nat.reduceLeDiff,Nat.reduceLT,pureOp,binPure,intBin,strBin,eqPure,isConstO,unPure,sliceLo,sliceHi,slicePure,slice3Pure,lenPure,capPure,minPure,maxPure,buildP,resK,endV,yieldE,↓reduceIte,Nat.reduceEqDiff,reduceCtorEq,Nat.reduceAdd,Nat.reduceMul,Nat.reduceSub,Int.reduceLT,Int.reduceLE,Int.reduceToNat,Int.reduceAdd,Int.reduceSub,Int.reduceMul,ne_eq,decide_true,decide_false,tf66, he8, w3, Nat.add_assoc]
      · rw [hmu]
        simp -dsimp only [↓RE,↓c_seq,RU,RL,if_true,if_false,forall_const,implies_true,Nat.reduceLeDiff,Nat.reduceLT,pureOp,binPure,intBin,strBin,eqPure,isConstO,unPure,sliceLo,sliceHi,slicePure,slice3Pure,lenPure,capPure,minPure,maxPure,buildP,resK,endV,yieldE,↓reduceIte,Nat.reduceEqDiff,reduceCtorEq,Nat.reduceAdd,Nat.reduceMul,Nat.reduceSub,Int.reduceLT,Int.reduceLE,Int.reduceToNat,Int.reduceAdd,Int.reduceSub,Int.reduceMul,ne_eq,decide_true,decide_false,tf66, he8, w3, envInt, Int.toNat_natCast]
        simp only [List.length_cons] at hXl
        omega
    · have hd2 : decide ((p : Int) < ((p + Z1.length : Nat) : Int)) = true := decide_eq_true (by omega)
      obtain ⟨Z1', y, rfl⟩ := snoc_of hz1
      have e1 : P ++ (((Z1' ++ [y]) ++ x :: Z2) ++ (U ++ S)) = (P ++ Z1') ++ y :: ([] ++ x :: (Z2 ++ (U ++ S))) := by simp [List.append_assoc]
      have e2 : P ++ ((Z1' ++ x :: (y :: Z2)) ++ (U ++ S)) = (P ++ Z1') ++ x :: ([] ++ y :: (Z2 ++ (U ++ S))) := by simp [List.append_assoc]
      obtain ⟨s1, s2, s3, s4⟩ := swap_at (P ++ Z1') [] (Z2 ++ (U ++ S)) y x
      rw [← e1, ← e2] at s4
      rw [← e1] at s1 s2
      have l1 : (P ++ Z1').length = p + Z1'.length := by rw [List.length_append, hp]
      rw [l1, List.length_nil, Nat.add_zero] at s2 s4
      rw [l1] at s1
      have hy1 : (Z1' ++ [y]).length = Z1'.length + 1 := by simp
      rw [hy1] at he9 hd2
      have hlen' := hlen
      simp only [List.length_append, List.length_cons, List.length_nil] at hlen'
      have v1 : IntKind.i64.wrap (((p + (Z1'.length + 1) : Nat) : Int) - 1) = ((p + Z1'.length : Nat) : Int) := by rw [wrap_i64_in (by omega) (by omega)]; omega
      have hxm := h.mem x (List.mem_of_getElem? s2)
      have hym := h.mem y (List.mem_of_getElem? s1)
      repeat (first | rw [c_seq] | simp -dsimp only [↓RE,RU,RL,if_true,if_false,forall_const,implies_true,Nat.reduceLeDiff,Nat.reduceLT,pureOp,binPure,intBin,strBin,eqPure,isConstO,unPure,sliceLo,sliceHi,slicePure,slice3Pure,lenPure,capPure,minPure,maxPure,buildP,resK,endV,yieldE,↓reduceIte,Nat.reduceEqDiff,reduceCtorEq,Nat.reduceAdd,Nat.reduceMul,Nat.reduceSub,Int.reduceLT,Int.reduceLE,Int.reduceToNat,Int.reduceAdd,Int.reduceSub,Int.reduceMul,ne_eq,decide_true,decide_false,tf66, he0, he1, he9])
      refine wpDraw_by (Grow wy ·) [(0, true), (1, true), (2, true), (3, true), (4, true), (5, true), (6, true), (7, true), (8, true), (9, true), (10, true), (11, true), (12, true), (13, true), (14, false), (15, true), (16, true)] (by kernel_rfl) (Grow.drew wy) ?_
      simp only [planL, List.getElem?_toArray, List.getElem?_cons_zero, List.getElem?_cons_succ, Option.toList_some, List.map_cons, List.map_nil, List.cons_append, List.nil_append]
      repeat (first | rw [c_seq] | simp -dsimp only [↓RE,RU,RL,if_true,if_false,forall_const,implies_true,Nat.reduceLeDiff,Nat.reduceLT,pureOp,binPure,intBin,strBin,eqPure,isConstO,unPure,sliceLo,sliceHi,slicePure,slice3Pure,lenPure,capPure,minPure,maxPure,buildP,resK,endV,yieldE,↓reduceIte,Nat.reduceEqDiff,reduceCtorEq,Nat.reduceAdd,Nat.reduceMul,Nat.reduceSub,Int.reduceLT,Int.reduceLE,Int.reduceToNat,Int.reduceAdd,Int.reduceSub,Int.reduceMul,ne_eq,decide_true,decide_false,tf66, he0, he1, he3, he9, hd2, v1, Int.toNat_natCast])
      refine ⟨⟨by omega, by omega⟩, x.cells, rfl, fun w' g' => (h.grow g').cells (k := p + (Z1'.length + 1)) s2, ?_⟩
      repeat (first | rw [c_seq] | simp -dsimp only [↓RE,RU,RL,if_true,if_false,forall_const,implies_true,Nat.reduceLeDiff,Nat.reduceLT,pureOp,binPure,intBin,strBin,eqPure,isConstO,unPure,sliceLo,sliceHi,slicePure,slice3Pure,lenPure,capPure,minPure,maxPure,buildP,resK,endV,yieldE,↓reduceIte,Nat.reduceEqDiff,reduceCtorEq,Nat.reduceAdd,Nat.reduceMul,Nat.reduceSub,Int.reduceLT,Int.reduceLE,Int.reduceToNat,Int.reduceAdd,Int.reduceSub,Int.reduceMul,ne_eq,decide_true,decide_false,tf66, he0, he1, he3, he9, hd2, v1, Int.toNat_natCast])
      refine ⟨⟨by omega, by omega⟩, y.cells, rfl, fun w' g' => (h.grow g').cells s1, ?_⟩
      repeat (first | rw [c_seq] | simp -dsimp only [↓RE,RU,RL,if_true,if_false,forall_const,implies_true,Nat.reduceLeDiff,Nat.reduceLT,pureOp,binPure,intBin,strBin,eqPure,isConstO,unPure,sliceLo,sliceHi,slicePure,slice3Pure,lenPure,capPure,minPure,maxPure,buildP,resK,endV,yieldE,↓reduceIte,Nat.reduceEqDiff,reduceCtorEq,Nat.reduceAdd,Nat.reduceMul,Nat.reduceSub,Int.reduceLT,Int.reduceLE,Int.reduceToNat,Int.reduceAdd,Int.reduceSub,Int.reduceMul,ne_eq,decide_true,decide_false,tf66, he0, he1, he3, he9, hd2, v1, Int.toNat_natCast, hcall])
      refine hcmp.cmp wy.drew (h.keep.then_grow (Grow.drew wy)) x hxm y hym _ (fun w5 g5 => ?_)
      refine ⟨(Grow.drew wy).trans g5, ?_⟩
      have h5 := (h.grow (Grow.drew wy)).grow g5
      by_cases hlt : cf x y < 0
      · have hd3 : decide (cf x y < 0) = true := decide_eq_true hlt
        repeat (first | rw [c_seq] | simp -dsimp only [↓RE,RU,RL,if_true,if_false,forall_const,implies_true,Nat.reduceLeDiff,Nat.reduceLT,pureOp,binPure,intBin,strBin,eqPure,isConstO,unPure,sliceLo,sliceHi,slicePure,slice3Pure,lenPure,capPure,minPure,maxPure,buildP,resK,endV,yieldE,↓reduceIte,Nat.reduceEqDiff,reduceCtorEq,Nat.reduceAdd,Nat.reduceMul,Nat.reduceSub,Int.reduceLT,Int.reduceLE,Int.reduceToNat,Int.reduceAdd,Int.reduceSub,Int.reduceMul,ne_eq,decide_true,decide_false,tf66, he0, he9, hd3])
        refine wpDraw_swap (Sr w0 ad n c l0 · _) [0, 1, 2, 3, 4, 5, 6, 7, 8, 9, 10, 11, 12, 13, 14] 15 [15, 16, 17] (by kernel_rfl) (h5.grow (Grow.drew w5)) ?_
        simp only [List.filterMap_cons, List.filterMap_nil, planL, List.getElem?_toArray, List.getElem?_cons_zero, List.getElem?_cons_succ, Option.toList_some, List.map_cons, List.map_nil, List.cons_append, List.nil_append]
        repeat (first | rw [c_seq] | simp -dsimp only [↓RE,RU,RL,if_true,if_false,forall_const,implies_true,Nat.reduceLeDiff,Nat.reduceLT,pureOp,binPure,intBin,strBin,eqPure,isConstO,unPure,sliceLo,sliceHi,slicePure,slice3Pure,lenPure,capPure,minPure,maxPure,buildP,resK,endV,yieldE,↓reduceIte,Nat.reduceEqDiff,reduceCtorEq,Nat.reduceAdd,Nat.reduceMul,Nat.reduceSub,Int.reduceLT,Int.reduceLE,Int.reduceToNat,Int.reduceAdd,Int.reduceSub,Int.reduceMul,ne_eq,decide_true,decide_false,tf66, he0, he1, he9, v1, Int.toNat_natCast])
        refine ⟨⟨by omega, by omega⟩, y.cells, rfl, fun w' hw' => hw'.cells s1, ?_⟩
        repeat (first | rw [c_seq] | simp -dsimp only [↓RE,RU,RL,if_true,if_false,forall_const,implies_true,Nat.reduceLeDiff,Nat.reduceLT,pureOp,binPure,intBin,strBin,eqPure,isConstO,unPure,sliceLo,sliceHi,slicePure,slice3Pure,lenPure,capPure,minPure,maxPure,buildP,resK,endV,yieldE,↓reduceIte,Nat.reduceEqDiff,reduceCtorEq,Nat.reduceAdd,Nat.reduceMul,Nat.reduceSub,Int.reduceLT,Int.reduceLE,Int.reduceToNat,Int.reduceAdd,Int.reduceSub,Int.reduceMul,ne_eq,decide_true,decide_false,tf66, he0, he1, he9, v1, Int.toNat_natCast])
        refine ⟨⟨by omega, by omega⟩, x.cells, rfl, fun w' hw' => hw'.cells (k := p + (Z1'.length + 1)) s2, ?_⟩
        repeat (first | rw [c_seq] | simp -dsimp only [↓RE,RU,RL,if_true,if_false,forall_const,implies_true,Nat.reduceLeDiff,Nat.reduceLT,pureOp,binPure,intBin,strBin,eqPure,isConstO,unPure,sliceLo,sliceHi,slicePure,slice3Pure,lenPure,capPure,minPure,maxPure,buildP,resK,endV,yieldE,↓reduceIte,Nat.reduceEqDiff,reduceCtorEq,Nat.reduceAdd,Nat.reduceMul,Nat.reduceSub,Int.reduceLT,Int.reduceLE,Int.reduceToNat,Int.reduceAdd,Int.reduceSub,Int.reduceMul,ne_eq,decide_true,decide_false,tf66, he0, he1, he9, v1, Int.toNat_natCast])
        refine ⟨⟨by omega, by omega⟩, rfl, (h5.grow (Grow.drew w5)).set (k := p + (Z1'.length + 1)) (by omega) hym (fun w6 h6 => ?_)⟩
        repeat (first | rw [c_seq] | simp -dsimp only [↓RE,RU,RL,if_true,if_false,forall_const,implies_true,Nat.reduceLeDiff,Nat.reduceLT,pureOp,binPure,intBin,strBin,eqPure,isConstO,unPure,sliceLo,sliceHi,slicePure,slice3Pure,lenPure,capPure,minPure,maxPure,buildP,resK,endV,yieldE,↓reduceIte,Nat.reduceEqDiff,reduceCtorEq,Nat.reduceAdd,Nat.reduceMul,Nat.reduceSub,Int.reduceLT,Int.reduceLE,Int.reduceToNat,Int.reduceAdd,Int.reduceSub,Int.reduceMul,ne_eq,decide_true,decide_false,tf66, he0, he1, he9, v1, Int.toNat_natCast])
        refine ⟨⟨by omega, by omega⟩, rfl, h6.set (k := p + Z1'.length) (by omega) hxm (fun w7 h7 => ?_)⟩
        have h7 : Sr w0 ad n c l0 w7 (P ++ ((Z1' ++ x :: (y :: Z2)) ++ (U ++ S))) := by rw [← s4]; exact h7
        repeat (first | rw [c_seq] | simp -dsimp only [↓RE,RU,RL,if_true,if_false,forall_const,implies_true,Nat.reduceLeDiff,Nat.reduceLT,pureOp,binPure,intBin,strBin,eqPure,isConstO,unPure,sliceLo,sliceHi,slicePure,slice3Pure,lenPure,capPure,minPure,maxPure,buildP,resK,endV,yieldE,↓reduceIte,Nat.reduceEqDiff,reduceCtorEq,Nat.reduceAdd,Nat.reduceMul,Nat.reduceSub,Int.reduceLT,Int.reduceLE,Int.reduceToNat,Int.reduceAdd,Int.reduceSub,Int.reduceMul,ne_eq,decide_true,decide_false,tf66, he9, v1])
        refine hold_intro ⟨⟨⟨?_, ?_, ?_, ?_, ?_⟩, Z1', y :: Z2, by simp, fun z hz => ?_, ?_, h7⟩, ?_⟩
        · simp -dsimp only [↓RE,RU,RL,if_true,if_false,↓reduceIte,Nat.reduceEqDiff,reduceCtorEq,decide_true,decide_false, he0]
        · simp -dsimp only [↓RE,RU,RL,if_true,if_false,↓reduceIte,Nat.reduceEqDiff,reduceCtorEq,decide_true,decide_false, he1]
        · simp -dsimp only [↓RE,RU,RL,if_true,if_false,↓reduceIte,Nat.reduceEqDiff,reduceCtorEq,decide_true,decide_false, he2]
        · simp -dsimp only [↓RE,RU,RL,if_true,if_false,↓reduceIte,Nat.reduceEqDiff,reduceCtorEq,decide_true,decide_false, he3]
        · simp -dsimp only [↓RE,RU,RL,if_true,if_false,↓reduceIte,Nat.reduceEqDiff,reduceCtorEq,decide_true,decide_false, he8]
        · rcases List.mem_cons.1 hz with rfl | hz
          · exact hlt
          · exact hZ2 z hz
        · simp -dsimp only [↓RE,RU,RL,if_true,if_false,↓reduceIte,Nat.reduceEqDiff,reduceCtorEq,decide_true,decide_false, he9, v1]
        · rw [he9]
          simp -dsimp only [↓RE,↓c_seq,RU,RL,if_true,if_false,forall_const,implies_true,Nat.reduceLeDiff,Nat.reduceLT,pureOp,binPure,intBin,strBin,eqPure,isConstO,unPure,sliceLo,sliceHi,slicePure,slice3Pure,lenPure,capPure,minPure,maxPure,buildP,resK,endV,yieldE,↓reduceIte,Nat.reduceEqDiff,reduceCtorEq,Nat.reduceAdd,Nat.reduceMul,Nat.reduceSub,Int.reduceLT,Int.reduceLE,Int.reduceToNat,Int.reduceAdd,Int.reduceSub,Int.reduceMul,ne_eq,decide_true,decide_false,tf66, he9, v1, envInt, Int.toNat_natCast]
          omega
      · have hd3 : decide (cf x y < 0) = false := decide_eq_false hlt
        obtain ⟨f1, f2⟩ := fin (fun z hz => by
          have hyx : cf y x ≤ 0 := by have := hc.neg x y; omega
          rcases List.mem_append.1 hz with hz | hz
          · have h1 := (sorted_app.1 (sorted_app.1 hZ).1).2.2 z hz y (List.mem_singleton_self y)
            exact hc.tr z y x h1 hyx
          · rw [List.mem_singleton.1 hz]; exact hyx)
        repeat (first | rw [c_seq] | simp -dsimp only [↓RE,RU,RL,if_true,if_false,forall_const,implies_true,Nat.reduceLeDiff,Nat.reduceLT,pureOp,binPure,intBin,strBin,eqPure,isConstO,unPure,sliceLo,sliceHi,slicePure,slice3Pure,lenPure,capPure,minPure,maxPure,buildP,resK,endV,yieldE,↓reduceIte,Nat.reduceEqDiff,reduceCtorEq,Nat.reduceAdd,Nat.reduceMul,Nat.reduceSub,Int.reduceLT,Int.reduceLE,Int.reduceToNat,Int.reduceAdd,Int.reduceSub,Int.reduceMul,ne_eq,decide_true,decide_false,tf66, he0, he9, hd3])
        repeat (first | rw [c_seq] | simp -dsimp only [↓RE,RU,RL,if_true,if_false,forall_const,implies_true,Nat.reduceLeDiff,Nat.reduceLT,pureOp,binPure,intBin,strBin,eqPure,isConstO,unPure,sliceLo,sliceHi,slicePure,slice3Pure,lenPure,capPure,minPure,maxPure,buildP,resK,endV,yieldE,↓reduceIte,Nat.reduceEqDiff,reduceCtorEq,Nat.reduceAdd,Nat.reduceMul,Nat.reduceSub,Int.reduceLT,Int.reduceLE,Int.reduceToNat,Int.reduceAdd,Int.reduceSub,Int.reduceMul,ne_eq,decide_true,decide_false,tf66, he8, w3])
        refine hold_intro ⟨⟨⟨?_, ?_, ?_, ?_⟩, V ++ [x], (Z1' ++ [y]) ++ x :: Z2, U, hX2, f1, f2, by rw [hlz]; omega, ?_, h5⟩, ?_⟩
        · simp -dsimp only [↓RE,RU,RL,if_true,if_false,↓reduceIte,Nat.reduceEqDiff,reduceCtorEq,decide_true,decide_false, he0]
        · simp -dsimp only [↓RE,RU,RL,if_true,if_false,↓reduceIte,Nat.reduceEqDiff,reduceCtorEq,decide_true,decide_false, he1]
        · simp -dsimp only [↓RE,RU,RL,if_true,if_false,↓reduceIte,Nat.reduceEqDiff,reduceCtorEq,decide_true,decide_false, he2]
        · simp -dsimp only [↓RE,RU,RL,if_true,if_false,↓reduceIte,Nat.reduceEqDiff,reduceCtorEq,decide_true,decide_false, he3]
        · rw [hlz]; simp -dsimp only [↓RE,↓c_seq,RU,RL,if_true,if_false,forall_const,implies_true,Nat.reduceLeDiff,Nat.reduceLT,pureOp,binPure,intBin,strBin,eqPure,isConstO,unPure,sliceLo,sliceHi,slicePure,slice3Pure,lenPure,capPure,minPure,maxPure,buildP,resK,endV,yieldE,↓reduceIte,Nat.reduceEqDiff,reduceCtorEq,Nat.reduceAdd,Nat.reduceMul,Nat.reduceSub,Int.reduceLT,Int.reduceLE,Int.reduceToNat,Int.reduceAdd,Int.reduceSub,Int.reduceMul,ne_eq,decide_true,decide_false,tf66, he8, w3, Nat.add_assoc]
        · rw [hmu]
          simp -dsimp only [↓RE,↓c_seq,RU,RL,if_true,if_false,forall_const,implies_true,Nat.reduceLeDiff,Nat.reduceLT,pureOp,binPure,intBin,strBin,eqPure,isConstO,unPure,sliceLo,sliceHi,slicePure,slice3Pure,lenPure,capPure,minPure,maxPure,buildP,resK,endV,yieldE,↓reduceIte,Nat.reduceEqDiff,reduceCtorEq,Nat.reduceAdd,Nat.reduceMul,Nat.reduceSub,Int.reduceLT,Int.reduceLE,Int.reduceToNat,Int.reduceAdd,Int.reduceSub,Int.reduceMul,ne_eq,decide_true,decide_false,tf66, he8, w3, envInt, Int.toNat_natCast]
          simp only [List.length_cons] at hXl
          omega

end Go.Proofs.Ytifaobnemnbfhaa
