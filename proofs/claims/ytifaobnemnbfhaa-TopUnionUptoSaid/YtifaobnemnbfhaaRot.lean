/- slices.rotateCmpFunc: two parts of a row of writes change places. -/
import Derived.Test.YtifaobnemnbfhaaSrt
set_option linter.unusedVariables false
set_option linter.unusedSimpArgs false
set_option maxRecDepth 100000
namespace Go.Proofs.Ytifaobnemnbfhaa
open Go

theorem rotate_ok {w0 w : World} {ad : Addr} {n c : Nat} {l0 : List WrV} {P X Y S : List WrV} {f : FuncId} (h : Sr w0 ad n c l0 w (P ++ (X ++ (Y ++ S)))) (hX : 0 < X.length) (hY : 0 < Y.length) (hn : n ≤ 4611686018427387904) {a m b : Int} (ha : a = P.length) (hm : m = P.length + X.length) (hb : b = P.length + X.length + Y.length) {R : VWK}
    (hR : ∀ w', Sr w0 ad n c l0 w' (P ++ (Y ++ (X ++ S))) → R (.tuple #[]) w') :
    CallsV Try.prog 69 [.slice (some ad) n c, .int .i64 a, .int .i64 m, .int .i64 b, .func (.func f) #[] #[]] w R := by
  have hlen := h.len
  simp only [List.length_append] at hlen
  subst ha hm hb
  have w1 : IntKind.i64.wrap ((P.length : Int) + X.length - P.length) = (X.length : Int) := by rw [wrap_i64_in (by omega) (by omega)]; omega
  have w2 : IntKind.i64.wrap ((P.length : Int) + X.length + Y.length - (P.length + X.length)) = (Y.length : Int) := by rw [wrap_i64_in (by omega) (by omega)]; omega
  generalize hT : P ++ (Y ++ (X ++ S)) = T at hR
  obtain ⟨m, hm⟩ : ∃ m : Nat, m = P.length + X.length := ⟨_, rfl⟩
  have hmn : m + Y.length ≤ n := by omega
  refine calls_of_wpC mixed Try.func69 rfl (by kernel_rfl) ?_
  intro e he
  have he0 := he 0
  have he1 := he 1
  have he2 := he 2
  have he3 := he 3
  have he4 := he 4
  simp only [List.getD_cons_zero, List.getD_cons_succ] at he0 he1 he2 he3 he4
  clear he
  repeat (first | rw [c_seq] | simp -dsimp only [↓RE,RU,RL,if_true,if_false,forall_const,implies_true,Nat.reduceLeDiff,Nat.reduceLT,pureOp,binPure,intBin,strBin,eqPure,isConstO,unPure,sliceLo,sliceHi,slicePure,slice3Pure,lenPure,capPure,minPure,maxPure,buildP,resK,endV,yieldE,↓reduceIte,Nat.reduceEqDiff,reduceCtorEq,Nat.reduceAdd,Nat.reduceMul,Nat.reduceSub,Int.reduceLT,Int.reduceLE,Int.reduceToNat,Int.reduceAdd,Int.reduceSub,Int.reduceMul,ne_eq,decide_true,decide_false,tf69, he0, he1, he2, he3, w1, w2])
  refine wpLoop_intro (fun e' w' => (e' 0 = .slice (some ad) n c ∧ e' 2 = .int .i64 (m : Int) ∧ e' 4 = .func (.func f) #[] #[]) ∧ ∃ P A B S, 0 < A.length ∧ 0 < B.length ∧ e' 10 = .int .i64 (A.length : Int) ∧ e' 11 = .int .i64 (B.length : Int) ∧ P.length + A.length = m ∧ P ++ (B ++ (A ++ S)) = T ∧ Sr w0 ad n c l0 w' (P ++ (A ++ (B ++ S))))
    (fun e' _ => (envInt (e' 10)).toNat + (envInt (e' 11)).toNat) ⟨⟨?_, ?_, ?_⟩, P, X, Y, S, hX, hY, ?_, ?_, hm.symm, hT, h⟩ ?_
  · simp -dsimp only [↓RE,RU,RL,if_true,if_false,↓reduceIte,Nat.reduceEqDiff,reduceCtorEq,decide_true,decide_false, he0]
  · rw [hm]; simp -dsimp only [↓RE,↓c_seq,RU,RL,if_true,if_false,forall_const,implies_true,Nat.reduceLeDiff,Nat.reduceLT,pureOp,binPure,intBin,strBin,eqPure,isConstO,unPure,sliceLo,sliceHi,slicePure,slice3Pure,lenPure,capPure,minPure,maxPure,buildP,resK,endV,yieldE,↓reduceIte,Nat.reduceEqDiff,reduceCtorEq,Nat.reduceAdd,Nat.reduceMul,Nat.reduceSub,Int.reduceLT,Int.reduceLE,Int.reduceToNat,Int.reduceAdd,Int.reduceSub,Int.reduceMul,ne_eq,decide_true,decide_false,tf69, he2, Int.natCast_add]
  · simp -dsimp only [↓RE,RU,RL,if_true,if_false,↓reduceIte,Nat.reduceEqDiff,reduceCtorEq,decide_true,decide_false, he4]
  · simp -dsimp only [↓RE,RU,RL,if_true,if_false,↓reduceIte,Nat.reduceEqDiff,reduceCtorEq,decide_true,decide_false, he0, w1, w2]
  · simp -dsimp only [↓RE,RU,RL,if_true,if_false,↓reduceIte,Nat.reduceEqDiff,reduceCtorEq,decide_true,decide_false, he0, w1, w2]
  clear he0 he1 he2 he3 he4 e h hT hX hY hm hlen w1 w2 hmn
  clear P X Y S
  rintro e wz ⟨⟨he0, he2, he4⟩, P, A, B, S, hA, hB, he10, he11, hm, hT, h⟩
  have hlen := h.len
  simp only [List.length_append] at hlen
  have hmu : (envInt (e 10)).toNat + (envInt (e 11)).toNat = A.length + B.length := by rw [he10, he11]; rfl
  have v1 : IntKind.i64.wrap ((m : Int) - (A.length : Int)) = ((P.length : Nat) : Int) := by rw [wrap_i64_in (by omega) (by omega)]; omega
  rcases Nat.lt_trichotomy B.length A.length with hlt | heq | hgt
  · have hd : decide ((A.length : Int) = (B.length : Int)) = false := decide_eq_false (by omega)
    have hd2 : decide ((B.length : Int) < (A.length : Int)) = true := decide_eq_true (by omega)
    have v2 : IntKind.i64.wrap ((A.length : Int) - (B.length : Int)) = (((A.drop B.length).length : Nat) : Int) := by rw [wrap_i64_in (by omega) (by omega), List.length_drop]; omega
    have l1 : (A.take B.length).length = B.length := by rw [List.length_take]; omega
    have l2 : (A.drop B.length).length = A.length - B.length := by rw [List.length_drop]
    have eA : A = A.take B.length ++ A.drop B.length := (List.take_append_drop _ _).symm
    have h2 : Sr w0 ad n c l0 wz (P ++ (A.take B.length ++ (A.drop B.length ++ (B ++ S)))) := by rw [← List.append_assoc (A.take B.length), ← eA]; exact h
    have hT2 : (P ++ B) ++ (A.take B.length ++ (A.drop B.length ++ S)) = T := by rw [← List.append_assoc (A.take B.length), ← eA, List.append_assoc]; exact hT
    repeat (first | rw [c_seq] | simp -dsimp only [↓RE,RU,RL,if_true,if_false,forall_const,implies_true,Nat.reduceLeDiff,Nat.reduceLT,pureOp,binPure,intBin,strBin,eqPure,isConstO,unPure,sliceLo,sliceHi,slicePure,slice3Pure,lenPure,capPure,minPure,maxPure,buildP,resK,endV,yieldE,↓reduceIte,Nat.reduceEqDiff,reduceCtorEq,Nat.reduceAdd,Nat.reduceMul,Nat.reduceSub,Int.reduceLT,Int.reduceLE,Int.reduceToNat,Int.reduceAdd,Int.reduceSub,Int.reduceMul,ne_eq,decide_true,decide_false,tf69, he10, he11, hd, hd2, Bool.not_false, he0, he2, he4, v1])
    refine swapr_ok h2 l1 hn rfl (by omega) (by omega) (fun w2 h3 => ?_)
    repeat (first | rw [c_seq] | simp -dsimp only [↓RE,RU,RL,if_true,if_false,forall_const,implies_true,Nat.reduceLeDiff,Nat.reduceLT,pureOp,binPure,intBin,strBin,eqPure,isConstO,unPure,sliceLo,sliceHi,slicePure,slice3Pure,lenPure,capPure,minPure,maxPure,buildP,resK,endV,yieldE,↓reduceIte,Nat.reduceEqDiff,reduceCtorEq,Nat.reduceAdd,Nat.reduceMul,Nat.reduceSub,Int.reduceLT,Int.reduceLE,Int.reduceToNat,Int.reduceAdd,Int.reduceSub,Int.reduceMul,ne_eq,decide_true,decide_false,tf69, he10, he11, v2])
    refine hold_intro ⟨⟨⟨?_, ?_, ?_⟩, P ++ B, A.drop B.length, A.take B.length, S, by omega, by omega, ?_, ?_, ?_, hT2, ?_⟩, ?_⟩
    · simp -dsimp only [↓RE,RU,RL,if_true,if_false,↓reduceIte,Nat.reduceEqDiff,reduceCtorEq,decide_true,decide_false, he0]
    · simp -dsimp only [↓RE,RU,RL,if_true,if_false,↓reduceIte,Nat.reduceEqDiff,reduceCtorEq,decide_true,decide_false, he2]
    · simp -dsimp only [↓RE,RU,RL,if_true,if_false,↓reduceIte,Nat.reduceEqDiff,reduceCtorEq,decide_true,decide_false, he4]
    · simp -dsimp only [↓RE,RU,RL,if_true,if_false,↓reduceIte,Nat.reduceEqDiff,reduceCtorEq,decide_true,decide_false, he10, v2]
    · rw [l1]; simp -dsimp only [↓RE,↓c_seq,RU,RL,if_true,if_false,forall_const,implies_true,Nat.reduceLeDiff,Nat.reduceLT,pureOp,binPure,intBin,strBin,eqPure,isConstO,unPure,sliceLo,sliceHi,slicePure,slice3Pure,lenPure,capPure,minPure,maxPure,buildP,resK,endV,yieldE,↓reduceIte,Nat.reduceEqDiff,reduceCtorEq,Nat.reduceAdd,Nat.reduceMul,Nat.reduceSub,Int.reduceLT,Int.reduceLE,Int.reduceToNat,Int.reduceAdd,Int.reduceSub,Int.reduceMul,ne_eq,decide_true,decide_false,tf69, he11]
    · rw [List.length_append]; omega
    · rw [List.append_assoc]; exact h3
    · rw [hmu]
      simp -dsimp only [↓RE,↓c_seq,RU,RL,if_true,if_false,forall_const,implies_true,Nat.reduceLeDiff,Nat.reduceLT,pureOp,binPure,intBin,strBin,eqPure,isConstO,unPure,sliceLo,sliceHi,slicePure,slice3Pure,lenPure,capPure,minPure,maxPure,buildP,resK,endV,yieldE,↓reduceIte,Nat.reduceEqDiff,reduceCtorEq,Nat.reduceAdd,Nat.reduceMul,Nat.reduceSub,Int.reduceLT,Int.reduceLE,Int.reduceToNat,Int.reduceAdd,Int.reduceSub,Int.reduceMul,ne_eq,decide_true,decide_false,tf69, he10, he11, v2, envInt, Int.toNat_natCast]
      omega
  · have hd : decide ((A.length : Int) = (B.length : Int)) = true := decide_eq_true (by omega)
    have h2 : Sr w0 ad n c l0 wz (P ++ (A ++ ([] ++ (B ++ S)))) := by rw [List.nil_append]; exact h
    repeat (first | rw [c_seq] | simp -dsimp only [↓RE,RU,RL,if_true,if_false,forall_const,implies_true,Nat.reduceLeDiff,Nat.reduceLT,pureOp,binPure,intBin,strBin,eqPure,isConstO,unPure,sliceLo,sliceHi,slicePure,slice3Pure,lenPure,capPure,minPure,maxPure,buildP,resK,endV,yieldE,↓reduceIte,Nat.reduceEqDiff,reduceCtorEq,Nat.reduceAdd,Nat.reduceMul,Nat.reduceSub,Int.reduceLT,Int.reduceLE,Int.reduceToNat,Int.reduceAdd,Int.reduceSub,Int.reduceMul,ne_eq,decide_true,decide_false,tf69, he10, he11, hd, Bool.not_true, he0, he2, he4, v1])
    refine swapr_ok h2 (by omega) hn rfl (by simp; omega) (by omega) (fun w2 h3 => ?_)
    rw [List.nil_append, hT] at h3
    repeat (first | rw [c_seq] | simp -dsimp only [↓RE,RU,RL,if_true,if_false,forall_const,implies_true,Nat.reduceLeDiff,Nat.reduceLT,pureOp,binPure,intBin,strBin,eqPure,isConstO,unPure,sliceLo,sliceHi,slicePure,slice3Pure,lenPure,capPure,minPure,maxPure,buildP,resK,endV,yieldE,↓reduceIte,Nat.reduceEqDiff,reduceCtorEq,Nat.reduceAdd,Nat.reduceMul,Nat.reduceSub,Int.reduceLT,Int.reduceLE,Int.reduceToNat,Int.reduceAdd,Int.reduceSub,Int.reduceMul,ne_eq,decide_true,decide_false,tf69, he10])
    exact hR w2 h3
  · have hd : decide ((A.length : Int) = (B.length : Int)) = false := decide_eq_false (by omega)
    have hd2 : decide ((B.length : Int) < (A.length : Int)) = false := decide_eq_false (by omega)
    have v2 : IntKind.i64.wrap ((B.length : Int) - (A.length : Int)) = (((B.take (B.length - A.length)).length : Nat) : Int) := by rw [wrap_i64_in (by omega) (by omega), List.length_take]; omega
    have v3 : IntKind.i64.wrap ((m : Int) + (B.length : Int)) = ((m + B.length : Nat) : Int) := by rw [wrap_i64_in (by omega) (by omega)]; omega
    have v4 : IntKind.i64.wrap (((m + B.length : Nat) : Int) - (A.length : Int)) = ((m + B.length - A.length : Nat) : Int) := by rw [wrap_i64_in (by omega) (by omega)]; omega
    have l1 : (B.take (B.length - A.length)).length = B.length - A.length := by rw [List.length_take]; omega
    have l2 : (B.drop (B.length - A.length)).length = A.length := by rw [List.length_drop]; omega
    have eB : B = B.take (B.length - A.length) ++ B.drop (B.length - A.length) := (List.take_append_drop _ _).symm
    have h2 : Sr w0 ad n c l0 wz (P ++ (A ++ (B.take (B.length - A.length) ++ (B.drop (B.length - A.length) ++ S)))) := by rw [← List.append_assoc (B.take (B.length - A.length)), ← eB]; exact h
    have hT2 : P ++ (B.take (B.length - A.length) ++ (B.drop (B.length - A.length) ++ (A ++ S))) = T := by rw [← List.append_assoc (B.take (B.length - A.length)), ← eB]; exact hT
    repeat (first | rw [c_seq] | simp -dsimp only [↓RE,RU,RL,if_true,if_false,forall_const,implies_true,Nat.reduceLeDiff,Nat.reduceLT,pureOp,binPure,intBin,strBin,eqPure,isConstO,unPure,sliceLo,sliceHi,slicePure,slice3Pure,lenPure,capPure,minPure,maxPure,buildP,resK,endV,yieldE,↓reduceIte,Nat.reduceEqDiff,reduceCtorEq,Nat.reduceAdd,Nat.reduceMul,Nat.reduceSub,Int.reduceLT,Int.reduceLE,Int.reduceToNat,Int.reduceAdd,Int.reduceSub,Int.reduceMul,ne_eq,decide_true,decide_false,tf69, he10, he11, hd, hd2, Bool.not_false, he0, he2, he4, v1, v3, v4])
    refine swapr_ok h2 l2.symm hn rfl (by omega) rfl (fun w2 h3 => ?_)
    repeat (first | rw [c_seq] | simp -dsimp only [↓RE,RU,RL,if_true,if_false,forall_const,implies_true,Nat.reduceLeDiff,Nat.reduceLT,pureOp,binPure,intBin,strBin,eqPure,isConstO,unPure,sliceLo,sliceHi,slicePure,slice3Pure,lenPure,capPure,minPure,maxPure,buildP,resK,endV,yieldE,↓reduceIte,Nat.reduceEqDiff,reduceCtorEq,Nat.reduceAdd,Nat.reduceMul,Nat.reduceSub,Int.reduceLT,Int.reduceLE,Int.reduceToNat,Int.reduceAdd,Int.reduceSub,Int.reduceMul,ne_eq,decide_true,decide_false,tf69, he10, he11, v2])
    refine hold_intro ⟨⟨⟨?_, ?_, ?_⟩, P, B.drop (B.length - A.length), B.take (B.length - A.length), A ++ S, by omega, by omega, ?_, ?_, ?_, hT2, h3⟩, ?_⟩
    · simp -dsimp only [↓RE,RU,RL,if_true,if_false,↓reduceIte,Nat.reduceEqDiff,reduceCtorEq,decide_true,decide_false, he0]
    · simp -dsimp only [↓RE,RU,RL,if_true,if_false,↓reduceIte,Nat.reduceEqDiff,reduceCtorEq,decide_true,decide_false, he2]
    · simp -dsimp only [↓RE,RU,RL,if_true,if_false,↓reduceIte,Nat.reduceEqDiff,reduceCtorEq,decide_true,decide_false, he4]
    · rw [l2]; simp -dsimp only [↓RE,↓c_seq,RU,RL,if_true,if_false,forall_const,implies_true,Nat.reduceLeDiff,Nat.reduceLT,pureOp,binPure,intBin,strBin,eqPure,isConstO,unPure,sliceLo,sliceHi,slicePure,slice3Pure,lenPure,capPure,minPure,maxPure,buildP,resK,endV,yieldE,↓reduceIte,Nat.reduceEqDiff,reduceCtorEq,Nat.reduceAdd,Nat.reduceMul,Nat.reduceSub,Int.reduceLT,Int.reduceLE,Int.reduceToNat,Int.reduceAdd,Int.reduceSub,Int.reduceMul,ne_eq,decide_true,decide_false,tf69, he10]
    · simp -dsimp only [↓RE,RU,RL,if_true,if_false,↓reduceIte,Nat.reduceEqDiff,reduceCtorEq,decide_true,decide_false, he11, v2]
    · omega
    · rw [hmu]
      simp -dsimp only [↓RE,↓c_seq,RU,RL,if_true,if_false,forall_const,implies_true,Nat.reduceLeDiff,Nat.reduceLT,pureOp,binPure,intBin,strBin,eqPure,isConstO,unPure,sliceLo,sliceHi,slicePure,slice3Pure,lenPure,capPure,minPure,maxPure,buildP,resK,endV,yieldE,↓reduceIte,Nat.reduceEqDiff,reduceCtorEq,Nat.reduceAdd,Nat.reduceMul,Nat.reduceSub,Int.reduceLT,Int.reduceLE,Int.reduceToNat,Int.reduceAdd,Int.reduceSub,Int.reduceMul,ne_eq,decide_true,decide_false,tf69, he10, he11, v2, envInt, Int.toNat_natCast]
      omega

end Go.Proofs.Ytifaobnemnbfhaa
