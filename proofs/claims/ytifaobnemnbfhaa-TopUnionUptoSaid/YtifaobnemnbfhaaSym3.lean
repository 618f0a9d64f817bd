/- slices.symMergeCmpFunc of writes: all of it. -/
import Derived.Test.YtifaobnemnbfhaaSym2
set_option linter.unusedVariables false
set_option linter.unusedSimpArgs false
set_option maxRecDepth 100000
namespace Go.Proofs.Ytifaobnemnbfhaa
open Go

theorem SortedC.le_at {cf : WrV → WrV → Int} (hc : Cmp cf) {l : List WrV} (h : SortedC cf l) {i j : Nat} (hij : i ≤ j) (hj : j < l.length) : cf (l.getD i w00) (l.getD j w00) ≤ 0 := by
  rcases Nat.lt_or_eq_of_le hij with h1 | rfl
  · exact h.at h1 hj
  · exact Int.le_of_eq (hc.self _)
theorem split_12 {cf : WrV → WrV → Int} (hc : Cmp cf) {X Y : List WrV} (hX : SortedC cf X) (hY : SortedC cf Y) {u v : Nat} (hu : u ≤ X.length) (hv : v ≤ Y.length) (h : 0 < u → v < Y.length → cf (X.getD (u - 1) w00) (Y.getD v w00) ≤ 0) : ∀ a ∈ X.take u, ∀ b ∈ Y.drop v, cf a b ≤ 0 := by
  refine take_all (p := fun a => ∀ b ∈ Y.drop v, cf a b ≤ 0) (fun k hk => drop_all (p := fun b => cf (X.getD k w00) b ≤ 0) (fun j h1 h2 => ?_)) hu
  exact hc.tr _ _ _ (hX.le_at hc (i := k) (j := u - 1) (by omega) (by omega)) (hc.tr _ _ _ (h (by omega) (by omega)) (hY.le_at hc h1 h2))
theorem split_21 {cf : WrV → WrV → Int} (hc : Cmp cf) {X Y : List WrV} (hX : SortedC cf X) (hY : SortedC cf Y) {u v : Nat} (hu : u ≤ X.length) (hv : v ≤ Y.length) (h : 0 < v → u < X.length → cf (Y.getD (v - 1) w00) (X.getD u w00) < 0) : ∀ b ∈ Y.take v, ∀ a ∈ X.drop u, cf b a < 0 := by
  refine take_all (p := fun b => ∀ a ∈ X.drop u, cf b a < 0) (fun k hk => drop_all (p := fun a => cf (Y.getD k w00) a < 0) (fun j h1 h2 => ?_)) hv
  exact hc.lt_le (hc.le_lt (hY.le_at hc (i := k) (j := v - 1) (by omega) (by omega)) (h (by omega) (by omega))) (hX.le_at hc h1 h2)
/-- what a merge of two sorted parts does. -/
def SymOk (w0 : World) (ad : Addr) (n c : Nat) (l0 : List WrV) (f : FuncId) (cf : WrV → WrV → Int) (k : Nat) : Prop :=
  ∀ (w : World) (P X Y S : List WrV), X.length + Y.length < k → 0 < X.length → 0 < Y.length → Sr w0 ad n c l0 w (P ++ (X ++ (Y ++ S))) → SortedC cf X → SortedC cf Y →
    ∀ (a m b : Int), a = P.length → m = P.length + X.length → b = P.length + X.length + Y.length → ∀ R : VWK, (∀ w' Z, SortedC cf Z → SameK cf (X ++ Y) Z → Sr w0 ad n c l0 w' (P ++ (Z ++ S)) → R (.tuple #[]) w') →
      CallsV Try.prog 67 [.slice (some ad) n c, .int .i64 a, .int .i64 m, .int .i64 b, .func (.func f) #[] #[]] w R
set_option maxHeartbeats 4000000 in
theorem symm3_ok {w0 w : World} {ad : Addr} {n c : Nat} {l0 : List WrV} {P X Y S : List WrV} {f : FuncId} {cf : WrV → WrV → Int} (hcmp : CmpOk w0 ad l0 f cf) (hc : Cmp cf) (ih : SymOk w0 ad n c l0 f cf (X.length + Y.length)) (h : Sr w0 ad n c l0 w (P ++ (X ++ (Y ++ S)))) (hX : SortedC cf X) (hY : SortedC cf Y) (hX2 : 2 ≤ X.length) (hY2 : 2 ≤ Y.length) (hn : n ≤ 2000000000000)
    {a m b : Int} (ha : a = P.length) (hm : m = P.length + X.length) (hb : b = P.length + X.length + Y.length) {R : VWK}
    (hR : ∀ w' Z, SortedC cf Z → SameK cf (X ++ Y) Z → Sr w0 ad n c l0 w' (P ++ (Z ++ S)) → R (.tuple #[]) w') :
    CallsV Try.prog 67 [.slice (some ad) n c, .int .i64 a, .int .i64 m, .int .i64 b, .func (.func f) #[] #[]] w R := by
  have hlen := h.len
  simp only [List.length_append] at hlen
  have hcall := fun xs w K tk => callK_func hcmp.can xs w (K := K) (tk := tk)
  obtain ⟨p, hp⟩ : ∃ p, p = P.length := ⟨_, rfl⟩
  obtain ⟨x, hx⟩ : ∃ x, x = X.length := ⟨_, rfl⟩
  obtain ⟨y, hy⟩ : ∃ y, y = Y.length := ⟨_, rfl⟩
  obtain ⟨M, hM⟩ : ∃ M, (p + (p + x + y)) / 2 = M := ⟨_, rfl⟩
  have ea : a = ((p : Nat) : Int) := by omega
  have em : m = ((p + x : Nat) : Int) := by omega
  have eb : b = ((p + x + y : Nat) : Int) := by omega
  subst ea em eb
  clear ha hm hb
  have w1 : IntKind.i64.wrap (((p + x : Nat) : Int) - (p : Int)) = (x : Int) := by rw [wrap_i64_in (by omega) (by omega)]; omega
  have d1 : decide ((x : Int) = 1) = false := decide_eq_false (by omega)
  have w2 : IntKind.i64.wrap (((p + x + y : Nat) : Int) - ((p + x : Nat) : Int)) = (y : Int) := by rw [wrap_i64_in (by omega) (by omega)]; omega
  have d2 : decide ((y : Int) = 1) = false := decide_eq_false (by omega)
  have hh := half_ok (i := p) (j := p + x + y) (by omega) (by omega)
  rw [hM] at hh
  have w3 : IntKind.i64.wrap ((M : Int) + ((p + x : Nat) : Int)) = ((M + (p + x) : Nat) : Int) := by rw [wrap_i64_in (by omega) (by omega)]; omega
  have w5 : IntKind.i64.wrap (((M + (p + x) : Nat) : Int) - 1) = ((M + (p + x) - 1 : Nat) : Int) := by rw [wrap_i64_in (by omega) (by omega)]; omega
  refine calls_of_wpC mixed Try.func67 rfl (by kernel_rfl) ?_
  intro e he
  have he0 := he 0
  have he1 := he 1
  have he2 := he 2
  have he3 := he 3
  have he4 := he 4
  simp only [List.getD_cons_zero, List.getD_cons_succ] at he0 he1 he2 he3 he4
  clear he
  ((repeat rw [c_seq]); try simp -dsimp only [↓RE,RU,RL,if_true,if_false,forall_const,implies_true,Nat.reduceLeDiff,Nat.reduceLT,pureOp,binPure,intBin,strBin,eqPure,isConstO,unPure,sliceLo,sliceHi,slicePure,slice3Pure,lenPure,capPure,minPure,maxPure,buildP,resK,endV,yieldE,↓reduceIte,Nat.reduceEqDiff,reduceCtorEq,Nat.reduceAdd,Nat.reduceMul,Nat.reduceSub,Int.reduceLT,Int.reduceLE,Int.reduceToNat,Int.reduceAdd,Int.reduceSub,Int.reduceMul,ne_eq,decide_true,decide_false,tf67, he1, he2, w1, d1])
  ((repeat rw [c_seq]); try simp -dsimp only [↓RE,RU,RL,if_true,if_false,forall_const,implies_true,Nat.reduceLeDiff,Nat.reduceLT,pureOp,binPure,intBin,strBin,eqPure,isConstO,unPure,sliceLo,sliceHi,slicePure,slice3Pure,lenPure,capPure,minPure,maxPure,buildP,resK,endV,yieldE,↓reduceIte,Nat.reduceEqDiff,reduceCtorEq,Nat.reduceAdd,Nat.reduceMul,Nat.reduceSub,Int.reduceLT,Int.reduceLE,Int.reduceToNat,Int.reduceAdd,Int.reduceSub,Int.reduceMul,ne_eq,decide_true,decide_false,tf67, he2, he3, w2, d2])
  ((repeat rw [c_seq]); try simp -dsimp only [↓RE,RU,RL,if_true,if_false,forall_const,implies_true,Nat.reduceLeDiff,Nat.reduceLT,pureOp,binPure,intBin,strBin,eqPure,isConstO,unPure,sliceLo,sliceHi,slicePure,slice3Pure,lenPure,capPure,minPure,maxPure,buildP,resK,endV,yieldE,↓reduceIte,Nat.reduceEqDiff,reduceCtorEq,Nat.reduceAdd,Nat.reduceMul,Nat.reduceSub,Int.reduceLT,Int.reduceLE,Int.reduceToNat,Int.reduceAdd,Int.reduceSub,Int.reduceMul,ne_eq,decide_true,decide_false,tf67, he1, he3, hh])
  ((repeat rw [c_seq]); try simp -dsimp only [↓RE,RU,RL,if_true,if_false,forall_const,implies_true,Nat.reduceLeDiff,Nat.reduceLT,pureOp,binPure,intBin,strBin,eqPure,isConstO,unPure,sliceLo,sliceHi,slicePure,slice3Pure,lenPure,capPure,minPure,maxPure,buildP,resK,endV,yieldE,↓reduceIte,Nat.reduceEqDiff,reduceCtorEq,Nat.reduceAdd,Nat.reduceMul,Nat.reduceSub,Int.reduceLT,Int.reduceLE,Int.reduceToNat,Int.reduceAdd,Int.reduceSub,Int.reduceMul,ne_eq,decide_true,decide_false,tf67, he2, hh, w3])
  ((repeat rw [c_seq]); try simp -dsimp only [↓RE,RU,RL,if_true,if_false,forall_const,implies_true,Nat.reduceLeDiff,Nat.reduceLT,pureOp,binPure,intBin,strBin,eqPure,isConstO,unPure,sliceLo,sliceHi,slicePure,slice3Pure,lenPure,capPure,minPure,maxPure,buildP,resK,endV,yieldE,↓reduceIte,Nat.reduceEqDiff,reduceCtorEq,Nat.reduceAdd,Nat.reduceMul,Nat.reduceSub,Int.reduceLT,Int.reduceLE,Int.reduceToNat,Int.reduceAdd,Int.reduceSub,Int.reduceMul,ne_eq,decide_true,decide_false,tf67, he1])
  refine c_seq_cut (fun e' w' => w' = w ∧ (e' 0 = .slice (some ad) n c ∧ e' 1 = .int .i64 (p : Int) ∧ e' 2 = .int .i64 ((p + x : Nat) : Int) ∧ e' 3 = .int .i64 ((p + x + y : Nat) : Int) ∧ e' 4 = .func (.func f) #[] #[] ∧ e' 18 = .int .i64 (M : Int) ∧ e' 19 = .int .i64 ((M + (p + x) : Nat) : Int)) ∧
    ∃ s0 r0, (p ≤ s0 ∧ s0 ≤ r0 ∧ r0 ≤ p + x ∧ r0 ≤ M ∧ M - s0 ≤ y ∧ (s0 = p ∨ M - s0 = y) ∧ (r0 = p + x ∨ r0 = M)) ∧ e' 20 = .int .i64 (s0 : Int) ∧ e' 21 = .int .i64 (r0 : Int)) ?_ ?_
  · rcases Nat.lt_or_ge M (p + x) with hlt | hge
    · have d3 : decide ((M : Int) < ((p + x : Nat) : Int)) = true := decide_eq_true (by omega)
      have w4 : IntKind.i64.wrap (((M + (p + x) : Nat) : Int) - ((p + x + y : Nat) : Int)) = ((M - y : Nat) : Int) := by rw [wrap_i64_in (by omega) (by omega)]; omega
      repeat (first | rw [c_seq] | simp -dsimp only [↓RE,RU,RL,if_true,if_false,forall_const,implies_true,Nat.reduceLeDiff,Nat.reduceLT,pureOp,binPure,intBin,strBin,eqPure,isConstO,unPure,sliceLo,sliceHi,slicePure,slice3Pure,lenPure,capPure,minPure,maxPure,buildP,resK,endV,yieldE,↓reduceIte,Nat.reduceEqDiff,reduceCtorEq,Nat.reduceAdd,Nat.reduceMul,Nat.reduceSub,Int.reduceLT,Int.reduceLE,Int.reduceToNat,Int.reduceAdd,Int.reduceSub,Int.reduceMul,ne_eq,decide_true,decide_false,tf67, he2, he3, hh, w3, d3, w4])
      refine hold_intro ⟨rfl, ⟨?_, ?_, ?_, ?_, ?_, ?_, ?_⟩, M - y, M, ⟨by omega, by omega, by omega, by omega, by omega, by omega, by omega⟩, ?_, ?_⟩
      · simp -dsimp only [↓RE,RU,RL,if_true,if_false,↓reduceIte,Nat.reduceEqDiff,reduceCtorEq,decide_true,decide_false, he0]
      · simp -dsimp only [↓RE,RU,RL,if_true,if_false,↓reduceIte,Nat.reduceEqDiff,reduceCtorEq,decide_true,decide_false, he1]
      · simp -dsimp only [↓RE,RU,RL,if_true,if_false,↓reduceIte,Nat.reduceEqDiff,reduceCtorEq,decide_true,decide_false, he2]
      · simp -dsimp only [↓RE,RU,RL,if_true,if_false,↓reduceIte,Nat.reduceEqDiff,reduceCtorEq,decide_true,decide_false, he3]
      · simp -dsimp only [↓RE,RU,RL,if_true,if_false,↓reduceIte,Nat.reduceEqDiff,reduceCtorEq,decide_true,decide_false, he4]
      · simp -dsimp only [↓RE,RU,RL,if_true,if_false,↓reduceIte,Nat.reduceEqDiff,reduceCtorEq,decide_true,decide_false, hh]
      · simp -dsimp only [↓RE,RU,RL,if_true,if_false,↓reduceIte,Nat.reduceEqDiff,reduceCtorEq,decide_true,decide_false, hh, w3]
      · simp -dsimp only [↓RE,RU,RL,if_true,if_false,↓reduceIte,Nat.reduceEqDiff,reduceCtorEq,decide_true,decide_false, hh, w3, w4]
      · simp -dsimp only [↓RE,RU,RL,if_true,if_false,↓reduceIte,Nat.reduceEqDiff,reduceCtorEq,decide_true,decide_false, hh]
    · have d3 : decide ((M : Int) < ((p + x : Nat) : Int)) = false := decide_eq_false (by omega)
      repeat (first | rw [c_seq] | simp -dsimp only [↓RE,RU,RL,if_true,if_false,forall_const,implies_true,Nat.reduceLeDiff,Nat.reduceLT,pureOp,binPure,intBin,strBin,eqPure,isConstO,unPure,sliceLo,sliceHi,slicePure,slice3Pure,lenPure,capPure,minPure,maxPure,buildP,resK,endV,yieldE,↓reduceIte,Nat.reduceEqDiff,reduceCtorEq,Nat.reduceAdd,Nat.reduceMul,Nat.reduceSub,Int.reduceLT,Int.reduceLE,Int.reduceToNat,Int.reduceAdd,Int.reduceSub,Int.reduceMul,ne_eq,decide_true,decide_false,tf67, he1, he2, he3, hh, w3, d3])
      refine hold_intro ⟨rfl, ⟨?_, ?_, ?_, ?_, ?_, ?_, ?_⟩, p, p + x, ⟨by omega, by omega, by omega, by omega, by omega, by omega, by omega⟩, ?_, ?_⟩
      · simp -dsimp only [↓RE,RU,RL,if_true,if_false,↓reduceIte,Nat.reduceEqDiff,reduceCtorEq,decide_true,decide_false, he0]
      · simp -dsimp only [↓RE,RU,RL,if_true,if_false,↓reduceIte,Nat.reduceEqDiff,reduceCtorEq,decide_true,decide_false, he1]
      · simp -dsimp only [↓RE,RU,RL,if_true,if_false,↓reduceIte,Nat.reduceEqDiff,reduceCtorEq,decide_true,decide_false, he2]
      · simp -dsimp only [↓RE,RU,RL,if_true,if_false,↓reduceIte,Nat.reduceEqDiff,reduceCtorEq,decide_true,decide_false, he3]
      · simp -dsimp only [↓RE,RU,RL,if_true,if_false,↓reduceIte,Nat.reduceEqDiff,reduceCtorEq,decide_true,decide_false, he4]
      · simp -dsimp only [↓RE,RU,RL,if_true,if_false,↓reduceIte,Nat.reduceEqDiff,reduceCtorEq,decide_true,decide_false, hh]
      · simp -dsimp only [↓RE,RU,RL,if_true,if_false,↓reduceIte,Nat.reduceEqDiff,reduceCtorEq,decide_true,decide_false, hh, w3]
      · simp -dsimp only [↓RE,RU,RL,if_true,if_false,↓reduceIte,Nat.reduceEqDiff,reduceCtorEq,decide_true,decide_false, he1]
      · simp -dsimp only [↓RE,RU,RL,if_true,if_false,↓reduceIte,Nat.reduceEqDiff,reduceCtorEq,decide_true,decide_false, he2]
  · clear he0 he1 he2 he3 he4 e
    rintro e w ⟨rfl, ⟨he0, he1, he2, he3, he4, he18, he19⟩, s0, r0, ⟨q1, q2, q3, q4, q5, q6, q7⟩, he20, he21⟩
    ((repeat rw [c_seq]); try simp -dsimp only [↓RE,RU,RL,if_true,if_false,forall_const,implies_true,Nat.reduceLeDiff,Nat.reduceLT,pureOp,binPure,intBin,strBin,eqPure,isConstO,unPure,sliceLo,sliceHi,slicePure,slice3Pure,lenPure,capPure,minPure,maxPure,buildP,resK,endV,yieldE,↓reduceIte,Nat.reduceEqDiff,reduceCtorEq,Nat.reduceAdd,Nat.reduceMul,Nat.reduceSub,Int.reduceLT,Int.reduceLE,Int.reduceToNat,Int.reduceAdd,Int.reduceSub,Int.reduceMul,ne_eq,decide_true,decide_false,tf67, he19, w5])
    refine c_seq_cut (fun e' w' => Grow w w' ∧ (e' 0 = .slice (some ad) n c ∧ e' 1 = .int .i64 (p : Int) ∧ e' 2 = .int .i64 ((p + x : Nat) : Int) ∧ e' 3 = .int .i64 ((p + x + y : Nat) : Int) ∧ e' 4 = .func (.func f) #[] #[] ∧ e' 18 = .int .i64 (M : Int) ∧ e' 19 = .int .i64 ((M + (p + x) : Nat) : Int)) ∧
      ∃ s, (s0 ≤ s ∧ s ≤ r0) ∧ e' 20 = .int .i64 (s : Int) ∧ (s = s0 ∨ cf (X.getD (s - 1 - p) w00) (Y.getD (M - s) w00) ≤ 0) ∧ (s = r0 ∨ cf (Y.getD (M - 1 - s) w00) (X.getD (s - p) w00) < 0)) ?_ ?_
    · repeat (first | rw [c_seq] | simp -dsimp only [↓RE,RU,RL,if_true,if_false,forall_const,implies_true,Nat.reduceLeDiff,Nat.reduceLT,pureOp,binPure,intBin,strBin,eqPure,isConstO,unPure,sliceLo,sliceHi,slicePure,slice3Pure,lenPure,capPure,minPure,maxPure,buildP,resK,endV,yieldE,↓reduceIte,Nat.reduceEqDiff,reduceCtorEq,Nat.reduceAdd,Nat.reduceMul,Nat.reduceSub,Int.reduceLT,Int.reduceLE,Int.reduceToNat,Int.reduceAdd,Int.reduceSub,Int.reduceMul,ne_eq,decide_true,decide_false,tf67, he20])
      refine wpLoop_intro (fun e' w' => Grow w w' ∧ (e' 0 = .slice (some ad) n c ∧ e' 1 = .int .i64 (p : Int) ∧ e' 2 = .int .i64 ((p + x : Nat) : Int) ∧ e' 3 = .int .i64 ((p + x + y : Nat) : Int) ∧ e' 4 = .func (.func f) #[] #[] ∧ e' 18 = .int .i64 (M : Int) ∧ e' 19 = .int .i64 ((M + (p + x) : Nat) : Int) ∧ e' 22 = .int .i64 ((M + (p + x) - 1 : Nat) : Int)) ∧
        ∃ s r, (s0 ≤ s ∧ s ≤ r ∧ r ≤ r0) ∧ e' 20 = .int .i64 (s : Int) ∧ e' 21 = .int .i64 (r : Int) ∧ (s = s0 ∨ cf (X.getD (s - 1 - p) w00) (Y.getD (M - s) w00) ≤ 0) ∧ (r = r0 ∨ cf (Y.getD (M - 1 - r) w00) (X.getD (r - p) w00) < 0))
        (fun e' _ => (envInt (e' 21)).toNat - (envInt (e' 20)).toNat) ⟨Keep.refl _ _, ⟨?_, ?_, ?_, ?_, ?_, ?_, ?_, ?_⟩, s0, r0, ⟨Nat.le_refl _, q2, Nat.le_refl _⟩, ?_, ?_, .inl rfl, .inl rfl⟩ ?_
      · simp -dsimp only [↓RE,RU,RL,if_true,if_false,↓reduceIte,Nat.reduceEqDiff,reduceCtorEq,decide_true,decide_false, he0]
      · simp -dsimp only [↓RE,RU,RL,if_true,if_false,↓reduceIte,Nat.reduceEqDiff,reduceCtorEq,decide_true,decide_false, he1]
      · simp -dsimp only [↓RE,RU,RL,if_true,if_false,↓reduceIte,Nat.reduceEqDiff,reduceCtorEq,decide_true,decide_false, he2]
      · simp -dsimp only [↓RE,RU,RL,if_true,if_false,↓reduceIte,Nat.reduceEqDiff,reduceCtorEq,decide_true,decide_false, he3]
      · simp -dsimp only [↓RE,RU,RL,if_true,if_false,↓reduceIte,Nat.reduceEqDiff,reduceCtorEq,decide_true,decide_false, he4]
      · simp -dsimp only [↓RE,RU,RL,if_true,if_false,↓reduceIte,Nat.reduceEqDiff,reduceCtorEq,decide_true,decide_false, he18]
      · simp -dsimp only [↓RE,RU,RL,if_true,if_false,↓reduceIte,Nat.reduceEqDiff,reduceCtorEq,decide_true,decide_false, he19]
      · simp -dsimp only [↓RE,RU,RL,if_true,if_false,↓reduceIte,Nat.reduceEqDiff,reduceCtorEq,decide_true,decide_false, he19, w5]
      · simp -dsimp only [↓RE,RU,RL,if_true,if_false,↓reduceIte,Nat.reduceEqDiff,reduceCtorEq,decide_true,decide_false, he20]
      · simp -dsimp only [↓RE,RU,RL,if_true,if_false,↓reduceIte,Nat.reduceEqDiff,reduceCtorEq,decide_true,decide_false, he21]
      clear he0 he1 he2 he3 he4 he18 he19 he20 he21 e
      rintro e wz ⟨gz, ⟨he0, he1, he2, he3, he4, he18, he19, he22⟩, s, r, ⟨r1, r2, r3⟩, he20, he21, hs, hr⟩
      have hz := h.grow gz
      rcases Nat.lt_or_ge s r with hlt | hge
      · have hd : decide ((s : Int) < (r : Int)) = true := decide_eq_true (by omega)
        have hh := half_ok (i := s) (j := r) hlt (by omega)
        obtain ⟨k, hk⟩ : ∃ k, (s + r) / 2 = k := ⟨_, rfl⟩
        rw [hk] at hh
        have k1 : s ≤ k := by omega
        have k2 : k < r := by omega
        have hmu : (envInt (e 21)).toNat - (envInt (e 20)).toNat = r - s := by rw [he20, he21]; simp only [envInt_int]; omega
        have v1 : IntKind.i64.wrap (((M + (p + x) - 1 : Nat) : Int) - (k : Int)) = ((p + x + (M - 1 - k) : Nat) : Int) := by rw [wrap_i64_in (by omega) (by omega)]; omega
        have v2 : IntKind.i64.wrap ((k : Int) + 1) = ((k + 1 : Nat) : Int) := by rw [wrap_i64_in (by omega) (by omega)]; omega
        have s1 : (P ++ (X ++ (Y ++ S)))[k]? = some (X.getD (k - p) w00) := by
          have := at_mid (P := P) (X := X) (S := Y ++ S) (k := k - p) (by omega)
          rwa [show P.length + (k - p) = k by omega] at this
        have s2 : (P ++ (X ++ (Y ++ S)))[p + x + (M - 1 - k)]? = some (Y.getD (M - 1 - k) w00) := by
          have := at_mid (P := P ++ X) (X := Y) (S := S) (k := M - 1 - k) (by omega)
          rw [List.append_assoc, show (P ++ X).length = p + x by rw [List.length_append]; omega] at this
          exact this
        have hxm := h.mem _ (List.mem_of_getElem? s1)
        have hym := h.mem _ (List.mem_of_getElem? s2)
        repeat (first | rw [c_seq] | simp -dsimp only [↓RE,RU,RL,if_true,if_false,forall_const,implies_true,Nat.reduceLeDiff,Nat.reduceLT,pureOp,binPure,intBin,strBin,eqPure,isConstO,unPure,sliceLo,sliceHi,slicePure,slice3Pure,lenPure,capPure,minPure,maxPure,buildP,resK,endV,yieldE,↓reduceIte,Nat.reduceEqDiff,reduceCtorEq,Nat.reduceAdd,Nat.reduceMul,Nat.reduceSub,Int.reduceLT,Int.reduceLE,Int.reduceToNat,Int.reduceAdd,Int.reduceSub,Int.reduceMul,ne_eq,decide_true,decide_false,tf67, he20, he21, hd, hh])
        refine wpDraw_by (Grow wz ·) [(0, true), (1, true), (2, true), (3, true), (4, true), (5, true), (6, true), (7, true), (8, true), (9, true), (10, true), (11, false), (12, true), (13, true)] (by kernel_rfl) (Grow.drew wz) ?_
        simp only [planL, List.getElem?_toArray, List.getElem?_cons_zero, List.getElem?_cons_succ, Option.toList_some, List.map_cons, List.map_nil, List.cons_append, List.nil_append]
        repeat (first | rw [c_seq] | simp -dsimp only [↓RE,RU,RL,if_true,if_false,forall_const,implies_true,Nat.reduceLeDiff,Nat.reduceLT,pureOp,binPure,intBin,strBin,eqPure,isConstO,unPure,sliceLo,sliceHi,slicePure,slice3Pure,lenPure,capPure,minPure,maxPure,buildP,resK,endV,yieldE,↓reduceIte,Nat.reduceEqDiff,reduceCtorEq,Nat.reduceAdd,Nat.reduceMul,Nat.reduceSub,Int.reduceLT,Int.reduceLE,Int.reduceToNat,Int.reduceAdd,Int.reduceSub,Int.reduceMul,ne_eq,decide_true,decide_false,tf67, he0, he4, he22, hh, v1, Int.toNat_natCast])
        refine ⟨⟨by omega, by omega⟩, (Y.getD (M - 1 - k) w00).cells, rfl, fun w' g' => (hz.grow g').cells s2, ?_⟩
        repeat (first | rw [c_seq] | simp -dsimp only [↓RE,RU,RL,if_true,if_false,forall_const,implies_true,Nat.reduceLeDiff,Nat.reduceLT,pureOp,binPure,intBin,strBin,eqPure,isConstO,unPure,sliceLo,sliceHi,slicePure,slice3Pure,lenPure,capPure,minPure,maxPure,buildP,resK,endV,yieldE,↓reduceIte,Nat.reduceEqDiff,reduceCtorEq,Nat.reduceAdd,Nat.reduceMul,Nat.reduceSub,Int.reduceLT,Int.reduceLE,Int.reduceToNat,Int.reduceAdd,Int.reduceSub,Int.reduceMul,ne_eq,decide_true,decide_false,tf67, he0, he4, he22, hh, v1, Int.toNat_natCast])
        refine ⟨⟨by omega, by omega⟩, (X.getD (k - p) w00).cells, rfl, fun w' g' => (hz.grow g').cells s1, ?_⟩
        repeat (first | rw [c_seq] | simp -dsimp only [↓RE,RU,RL,if_true,if_false,forall_const,implies_true,Nat.reduceLeDiff,Nat.reduceLT,pureOp,binPure,intBin,strBin,eqPure,isConstO,unPure,sliceLo,sliceHi,slicePure,slice3Pure,lenPure,capPure,minPure,maxPure,buildP,resK,endV,yieldE,↓reduceIte,Nat.reduceEqDiff,reduceCtorEq,Nat.reduceAdd,Nat.reduceMul,Nat.reduceSub,Int.reduceLT,Int.reduceLE,Int.reduceToNat,Int.reduceAdd,Int.reduceSub,Int.reduceMul,ne_eq,decide_true,decide_false,tf67, he0, he4, hcall])
        refine hcmp.cmp wz.drew (hz.keep.then_grow (Grow.drew wz)) _ hym _ hxm _ (fun w5 g5 => ?_)
        refine ⟨(Grow.drew wz).trans g5, ?_⟩
        have g6 := (gz.trans (Grow.drew wz)).trans g5
        by_cases hlt2 : cf (Y.getD (M - 1 - k) w00) (X.getD (k - p) w00) < 0
        · have hd3 : decide (cf (Y.getD (M - 1 - k) w00) (X.getD (k - p) w00) < 0) = true := decide_eq_true hlt2
          repeat (first | rw [c_seq] | simp -dsimp only [↓RE,RU,RL,if_true,if_false,forall_const,implies_true,Nat.reduceLeDiff,Nat.reduceLT,pureOp,binPure,intBin,strBin,eqPure,isConstO,unPure,sliceLo,sliceHi,slicePure,slice3Pure,lenPure,capPure,minPure,maxPure,buildP,resK,endV,yieldE,↓reduceIte,Nat.reduceEqDiff,reduceCtorEq,Nat.reduceAdd,Nat.reduceMul,Nat.reduceSub,Int.reduceLT,Int.reduceLE,Int.reduceToNat,Int.reduceAdd,Int.reduceSub,Int.reduceMul,ne_eq,decide_true,decide_false,tf67, hd3, hh, Bool.not_true])
          refine hold_intro ⟨⟨g6, ⟨?_, ?_, ?_, ?_, ?_, ?_, ?_, ?_⟩, s, k, ⟨r1, k1, by omega⟩, ?_, ?_, hs, .inr hlt2⟩, ?_⟩
          · simp -dsimp only [↓RE,RU,RL,if_true,if_false,↓reduceIte,Nat.reduceEqDiff,reduceCtorEq,decide_true,decide_false, he0]
          · simp -dsimp only [↓RE,RU,RL,if_true,if_false,↓reduceIte,Nat.reduceEqDiff,reduceCtorEq,decide_true,decide_false, he1]
          · simp -dsimp only [↓RE,RU,RL,if_true,if_false,↓reduceIte,Nat.reduceEqDiff,reduceCtorEq,decide_true,decide_false, he2]
          · simp -dsimp only [↓RE,RU,RL,if_true,if_false,↓reduceIte,Nat.reduceEqDiff,reduceCtorEq,decide_true,decide_false, he3]
          · simp -dsimp only [↓RE,RU,RL,if_true,if_false,↓reduceIte,Nat.reduceEqDiff,reduceCtorEq,decide_true,decide_false, he4]
          · simp -dsimp only [↓RE,RU,RL,if_true,if_false,↓reduceIte,Nat.reduceEqDiff,reduceCtorEq,decide_true,decide_false, he18]
          · simp -dsimp only [↓RE,RU,RL,if_true,if_false,↓reduceIte,Nat.reduceEqDiff,reduceCtorEq,decide_true,decide_false, he19]
          · simp -dsimp only [↓RE,RU,RL,if_true,if_false,↓reduceIte,Nat.reduceEqDiff,reduceCtorEq,decide_true,decide_false, he22]
          · simp -dsimp only [↓RE,RU,RL,if_true,if_false,↓reduceIte,Nat.reduceEqDiff,reduceCtorEq,decide_true,decide_false, he20]
          · simp -dsimp only [↓RE,RU,RL,if_true,if_false,↓reduceIte,Nat.reduceEqDiff,reduceCtorEq,decide_true,decide_false, hh]
          · rw [hmu]
            simp -dsimp only [↓RE,↓c_seq,RU,RL,if_true,if_false,forall_const,implies_true,Nat.reduceLeDiff,Nat.reduceLT,pureOp,binPure,intBin,strBin,eqPure,isConstO,unPure,sliceLo,sliceHi,slicePure,slice3Pure,lenPure,capPure,minPure,maxPure,buildP,resK,endV,yieldE,↓reduceIte,Nat.reduceEqDiff,reduceCtorEq,Nat.reduceAdd,Nat.reduceMul,Nat.reduceSub,Int.reduceLT,Int.reduceLE,Int.reduceToNat,Int.reduceAdd,Int.reduceSub,Int.reduceMul,ne_eq,decide_true,decide_false,tf67, he20, hh, envInt, Int.toNat_natCast]
            omega
        · have hd3 : decide (cf (Y.getD (M - 1 - k) w00) (X.getD (k - p) w00) < 0) = false := decide_eq_false hlt2
          have hxy : cf (X.getD (k + 1 - 1 - p) w00) (Y.getD (M - (k + 1)) w00) ≤ 0 := by
            rw [show k + 1 - 1 - p = k - p by omega, show M - (k + 1) = M - 1 - k by omega]
            have := hc.neg (Y.getD (M - 1 - k) w00) (X.getD (k - p) w00); omega
          repeat (first | rw [c_seq] | simp -dsimp only [↓RE,RU,RL,if_true,if_false,forall_const,implies_true,Nat.reduceLeDiff,Nat.reduceLT,pureOp,binPure,intBin,strBin,eqPure,isConstO,unPure,sliceLo,sliceHi,slicePure,slice3Pure,lenPure,capPure,minPure,maxPure,buildP,resK,endV,yieldE,↓reduceIte,Nat.reduceEqDiff,reduceCtorEq,Nat.reduceAdd,Nat.reduceMul,Nat.reduceSub,Int.reduceLT,Int.reduceLE,Int.reduceToNat,Int.reduceAdd,Int.reduceSub,Int.reduceMul,ne_eq,decide_true,decide_false,tf67, hd3, hh, v2, Bool.not_false])
          refine hold_intro ⟨⟨g6, ⟨?_, ?_, ?_, ?_, ?_, ?_, ?_, ?_⟩, k + 1, r, ⟨by omega, by omega, r3⟩, ?_, ?_, .inr hxy, hr⟩, ?_⟩
          · simp -dsimp only [↓RE,RU,RL,if_true,if_false,↓reduceIte,Nat.reduceEqDiff,reduceCtorEq,decide_true,decide_false, he0]
          · simp -dsimp only [↓RE,RU,RL,if_true,if_false,↓reduceIte,Nat.reduceEqDiff,reduceCtorEq,decide_true,decide_false, he1]
          · simp -dsimp only [↓RE,RU,RL,if_true,if_false,↓reduceIte,Nat.reduceEqDiff,reduceCtorEq,decide_true,decide_false, he2]
          · simp -dsimp only [↓RE,RU,RL,if_true,if_false,↓reduceIte,Nat.reduceEqDiff,reduceCtorEq,decide_true,decide_false, he3]
          · simp -dsimp only [↓RE,RU,RL,if_true,if_false,↓reduceIte,Nat.reduceEqDiff,reduceCtorEq,decide_true,decide_false, he4]
          · simp -dsimp only [↓RE,RU,RL,if_true,if_false,↓reduceIte,Nat.reduceEqDiff,reduceCtorEq,decide_true,decide_false, he18]
          · simp -dsimp only [↓RE,RU,RL,if_true,if_false,↓reduceIte,Nat.reduceEqDiff,reduceCtorEq,decide_true,decide_false, he19]
          · simp -dsimp only [↓RE,RU,RL,if_true,if_false,↓reduceIte,Nat.reduceEqDiff,reduceCtorEq,decide_true,decide_false, he22]
          · simp -dsimp only [↓RE,RU,RL,if_true,if_false,↓reduceIte,Nat.reduceEqDiff,reduceCtorEq,decide_true,decide_false, hh, v2]
          · simp -dsimp only [↓RE,RU,RL,if_true,if_false,↓reduceIte,Nat.reduceEqDiff,reduceCtorEq,decide_true,decide_false, he21]
          · rw [hmu]
            simp -dsimp only [↓RE,↓c_seq,RU,RL,if_true,if_false,forall_const,implies_true,Nat.reduceLeDiff,Nat.reduceLT,pureOp,binPure,intBin,strBin,eqPure,isConstO,unPure,sliceLo,sliceHi,slicePure,slice3Pure,lenPure,capPure,minPure,maxPure,buildP,resK,endV,yieldE,↓reduceIte,Nat.reduceEqDiff,reduceCtorEq,Nat.reduceAdd,Nat.reduceMul,Nat.reduceSub,Int.reduceLT,Int.reduceLE,Int.reduceToNat,Int.reduceAdd,Int.reduceSub,Int.reduceMul,ne_eq,decide_true,decide_false,tf67, he21, hh, v2, envInt, Int.toNat_natCast]
            omega
      · have hsr : s = r := by omega
        subst hsr
        have hd : decide ((s : Int) < (s : Int)) = false := decide_eq_false (by omega)
        repeat (first | rw [c_seq] | simp -dsimp only [↓RE,RU,RL,if_true,if_false,forall_const,implies_true,Nat.reduceLeDiff,Nat.reduceLT,pureOp,binPure,intBin,strBin,eqPure,isConstO,unPure,sliceLo,sliceHi,slicePure,slice3Pure,lenPure,capPure,minPure,maxPure,buildP,resK,endV,yieldE,↓reduceIte,Nat.reduceEqDiff,reduceCtorEq,Nat.reduceAdd,Nat.reduceMul,Nat.reduceSub,Int.reduceLT,Int.reduceLE,Int.reduceToNat,Int.reduceAdd,Int.reduceSub,Int.reduceMul,ne_eq,decide_true,decide_false,tf67, he20, he21, hd])
        refine hold_intro ⟨gz, ⟨?_, ?_, ?_, ?_, ?_, ?_, ?_⟩, s, ⟨r1, r3⟩, ?_, hs, hr⟩
        · simp -dsimp only [↓RE,RU,RL,if_true,if_false,↓reduceIte,Nat.reduceEqDiff,reduceCtorEq,decide_true,decide_false, he0]
        · simp -dsimp only [↓RE,RU,RL,if_true,if_false,↓reduceIte,Nat.reduceEqDiff,reduceCtorEq,decide_true,decide_false, he1]
        · simp -dsimp only [↓RE,RU,RL,if_true,if_false,↓reduceIte,Nat.reduceEqDiff,reduceCtorEq,decide_true,decide_false, he2]
        · simp -dsimp only [↓RE,RU,RL,if_true,if_false,↓reduceIte,Nat.reduceEqDiff,reduceCtorEq,decide_true,decide_false, he3]
        · simp -dsimp only [↓RE,RU,RL,if_true,if_false,↓reduceIte,Nat.reduceEqDiff,reduceCtorEq,decide_true,decide_false, he4]
        · simp -dsimp only [↓RE,RU,RL,if_true,if_false,↓reduceIte,Nat.reduceEqDiff,reduceCtorEq,decide_true,decide_false, he18]
        · simp -dsimp only [↓RE,RU,RL,if_true,if_false,↓reduceIte,Nat.reduceEqDiff,reduceCtorEq,decide_true,decide_false, he19]
        · simp -dsimp only [↓RE,RU,RL,if_true,if_false,↓reduceIte,Nat.reduceEqDiff,reduceCtorEq,decide_true,decide_false, he20]
    · clear he0 he1 he2 he3 he4 he18 he19 he20 he21 e
      rintro e wz ⟨gz, ⟨he0, he1, he2, he3, he4, he18, he19⟩, s, ⟨r1, r2⟩, he20, hs, hr⟩
      have hz := h.grow gz
      obtain ⟨u, rfl⟩ : ∃ u, s = p + u := ⟨s - p, by omega⟩
      obtain ⟨v, rfl⟩ : ∃ v, M = p + u + v := ⟨M - (p + u), by omega⟩
      have hux : u ≤ X.length := by omega
      have hvy : v ≤ Y.length := by omega
      have h12 := split_12 hc hX hY hux hvy (fun h0 h1 => by
        rcases hs with hs | hs
        · rcases q6 with q6 | q6 <;> omega
        · rwa [show p + u - 1 - p = u - 1 by omega, show p + u + v - (p + u) = v by omega] at hs)
      have h21 := split_21 hc hX hY hux hvy (fun h0 h1 => by
        rcases hr with hr | hr
        · rcases q7 with q7 | q7 <;> omega
        · rwa [show p + u + v - 1 - (p + u) = v - 1 by omega, show p + u - p = u by omega] at hr)
      clear hs hr q6 q7
      obtain ⟨X1, hX1⟩ : ∃ X1, X1 = X.take u := ⟨_, rfl⟩
      obtain ⟨X2, hX2'⟩ : ∃ X2, X2 = X.drop u := ⟨_, rfl⟩
      obtain ⟨Y1, hY1⟩ : ∃ Y1, Y1 = Y.take v := ⟨_, rfl⟩
      obtain ⟨Y2, hY2'⟩ : ∃ Y2, Y2 = Y.drop v := ⟨_, rfl⟩
      have lX1 : X1.length = u := by rw [hX1, List.length_take]; omega
      have lX2 : X2.length = x - u := by rw [hX2', List.length_drop]; omega
      have lY1 : Y1.length = v := by rw [hY1, List.length_take]; omega
      have lY2 : Y2.length = y - v := by rw [hY2', List.length_drop]; omega
      have eX : X = X1 ++ X2 := by rw [hX1, hX2', List.take_append_drop]
      have eY : Y = Y1 ++ Y2 := by rw [hY1, hY2', List.take_append_drop]
      rw [← hX1, ← hY2'] at h12
      rw [← hY1, ← hX2'] at h21
      clear hX1 hX2' hY1 hY2'
      subst eX eY
      obtain ⟨sX1, sX2, _⟩ := sorted_app.1 hX
      obtain ⟨sY1, sY2, _⟩ := sorted_app.1 hY
      have hz1 : Sr w0 ad n c l0 wz (P ++ (X1 ++ (X2 ++ (Y1 ++ (Y2 ++ S))))) := by rw [List.append_assoc, List.append_assoc] at hz; exact hz
      have v5 : IntKind.i64.wrap (((p + u + v + (p + x) : Nat) : Int) - ((p + u : Nat) : Int)) = ((p + x + v : Nat) : Int) := by rw [wrap_i64_in (by omega) (by omega)]; omega
      ((repeat rw [c_seq]); try simp -dsimp only [↓RE,RU,RL,if_true,if_false,forall_const,implies_true,Nat.reduceLeDiff,Nat.reduceLT,pureOp,binPure,intBin,strBin,eqPure,isConstO,unPure,sliceLo,sliceHi,slicePure,slice3Pure,lenPure,capPure,minPure,maxPure,buildP,resK,endV,yieldE,↓reduceIte,Nat.reduceEqDiff,reduceCtorEq,Nat.reduceAdd,Nat.reduceMul,Nat.reduceSub,Int.reduceLT,Int.reduceLE,Int.reduceToNat,Int.reduceAdd,Int.reduceSub,Int.reduceMul,ne_eq,decide_true,decide_false,tf67, he19, he20, v5])
      refine c_seq_cut (fun e' w' => (e' 0 = .slice (some ad) n c ∧ e' 1 = .int .i64 (p : Int) ∧ e' 3 = .int .i64 ((p + x + y : Nat) : Int) ∧ e' 4 = .func (.func f) #[] #[] ∧ e' 18 = .int .i64 ((p + u + v : Nat) : Int) ∧ e' 20 = .int .i64 ((p + u : Nat) : Int) ∧ e' 24 = .int .i64 ((p + x + v : Nat) : Int)) ∧ Sr w0 ad n c l0 w' (P ++ (X1 ++ (Y1 ++ (X2 ++ (Y2 ++ S)))))) ?_ ?_
      · have fin : ∀ w', Sr w0 ad n c l0 w' (P ++ (X1 ++ (X2 ++ (Y1 ++ (Y2 ++ S))))) → (X2 = [] ∨ Y1 = []) → Sr w0 ad n c l0 w' (P ++ (X1 ++ (Y1 ++ (X2 ++ (Y2 ++ S))))) := fun w' hq he => by
          rcases he with he | he
          · subst he; rw [List.nil_append] at hq ⊢; exact hq
          · subst he; rw [List.nil_append] at hq ⊢; exact hq
        rcases Nat.lt_or_ge u x with hu1 | hu1
        · have d3 : decide (((p + u : Nat) : Int) < ((p + x : Nat) : Int)) = true := decide_eq_true (by omega)
          rcases Nat.eq_zero_or_pos v with hv1 | hv1
          · have d4 : decide (((p + x : Nat) : Int) < ((p + x + v : Nat) : Int)) = false := decide_eq_false (by omega)
            repeat (first | rw [c_seq] | simp -dsimp only [↓RE,RU,RL,if_true,if_false,forall_const,implies_true,Nat.reduceLeDiff,Nat.reduceLT,pureOp,binPure,intBin,strBin,eqPure,isConstO,unPure,sliceLo,sliceHi,slicePure,slice3Pure,lenPure,capPure,minPure,maxPure,buildP,resK,endV,yieldE,↓reduceIte,Nat.reduceEqDiff,reduceCtorEq,Nat.reduceAdd,Nat.reduceMul,Nat.reduceSub,Int.reduceLT,Int.reduceLE,Int.reduceToNat,Int.reduceAdd,Int.reduceSub,Int.reduceMul,ne_eq,decide_true,decide_false,tf67, he2, he19, he20, v5, d3, d4])
            refine hold_intro ⟨⟨?_, ?_, ?_, ?_, ?_, ?_, ?_⟩, fin _ hz1 (.inr (List.eq_nil_of_length_eq_zero (by omega)))⟩
            · simp -dsimp only [↓RE,RU,RL,if_true,if_false,↓reduceIte,Nat.reduceEqDiff,reduceCtorEq,decide_true,decide_false, he0]
            · simp -dsimp only [↓RE,RU,RL,if_true,if_false,↓reduceIte,Nat.reduceEqDiff,reduceCtorEq,decide_true,decide_false, he1]
            · simp -dsimp only [↓RE,RU,RL,if_true,if_false,↓reduceIte,Nat.reduceEqDiff,reduceCtorEq,decide_true,decide_false, he3]
            · simp -dsimp only [↓RE,RU,RL,if_true,if_false,↓reduceIte,Nat.reduceEqDiff,reduceCtorEq,decide_true,decide_false, he4]
            · simp -dsimp only [↓RE,RU,RL,if_true,if_false,↓reduceIte,Nat.reduceEqDiff,reduceCtorEq,decide_true,decide_false, he18]
            · simp -dsimp only [↓RE,RU,RL,if_true,if_false,↓reduceIte,Nat.reduceEqDiff,reduceCtorEq,decide_true,decide_false, he20]
            · simp -dsimp only [↓RE,RU,RL,if_true,if_false,↓reduceIte,Nat.reduceEqDiff,reduceCtorEq,decide_true,decide_false, he19, he20, v5]
          · have d4 : decide (((p + x : Nat) : Int) < ((p + x + v : Nat) : Int)) = true := decide_eq_true (by omega)
            have hz2 : Sr w0 ad n c l0 wz ((P ++ X1) ++ (X2 ++ (Y1 ++ (Y2 ++ S)))) := by rw [List.append_assoc]; exact hz1
            have lP : (P ++ X1).length = p + u := by rw [List.length_append]; omega
            repeat (first | rw [c_seq] | simp -dsimp only [↓RE,RU,RL,if_true,if_false,forall_const,implies_true,Nat.reduceLeDiff,Nat.reduceLT,pureOp,binPure,intBin,strBin,eqPure,isConstO,unPure,sliceLo,sliceHi,slicePure,slice3Pure,lenPure,capPure,minPure,maxPure,buildP,resK,endV,yieldE,↓reduceIte,Nat.reduceEqDiff,reduceCtorEq,Nat.reduceAdd,Nat.reduceMul,Nat.reduceSub,Int.reduceLT,Int.reduceLE,Int.reduceToNat,Int.reduceAdd,Int.reduceSub,Int.reduceMul,ne_eq,decide_true,decide_false,tf67, he0, he2, he4, he19, he20, v5, d3, d4])
            refine rotate_ok hz2 (by omega) (by omega) (by omega) (by rw [lP]) (by rw [lP]; omega) (by rw [lP]; omega) (fun w6 h6 => ?_)
            rw [List.append_assoc] at h6
            repeat (first | rw [c_seq] | simp -dsimp only [↓RE,RU,RL,if_true,if_false,forall_const,implies_true,Nat.reduceLeDiff,Nat.reduceLT,pureOp,binPure,intBin,strBin,eqPure,isConstO,unPure,sliceLo,sliceHi,slicePure,slice3Pure,lenPure,capPure,minPure,maxPure,buildP,resK,endV,yieldE,↓reduceIte,Nat.reduceEqDiff,reduceCtorEq,Nat.reduceAdd,Nat.reduceMul,Nat.reduceSub,Int.reduceLT,Int.reduceLE,Int.reduceToNat,Int.reduceAdd,Int.reduceSub,Int.reduceMul,ne_eq,decide_true,decide_false,tf67, he0])
            refine hold_intro ⟨⟨?_, ?_, ?_, ?_, ?_, ?_, ?_⟩, h6⟩
            · simp -dsimp only [↓RE,RU,RL,if_true,if_false,↓reduceIte,Nat.reduceEqDiff,reduceCtorEq,decide_true,decide_false, he0]
            · simp -dsimp only [↓RE,RU,RL,if_true,if_false,↓reduceIte,Nat.reduceEqDiff,reduceCtorEq,decide_true,decide_false, he1]
            · simp -dsimp only [↓RE,RU,RL,if_true,if_false,↓reduceIte,Nat.reduceEqDiff,reduceCtorEq,decide_true,decide_false, he3]
            · simp -dsimp only [↓RE,RU,RL,if_true,if_false,↓reduceIte,Nat.reduceEqDiff,reduceCtorEq,decide_true,decide_false, he4]
            · simp -dsimp only [↓RE,RU,RL,if_true,if_false,↓reduceIte,Nat.reduceEqDiff,reduceCtorEq,decide_true,decide_false, he18]
            · simp -dsimp only [↓RE,RU,RL,if_true,if_false,↓reduceIte,Nat.reduceEqDiff,reduceCtorEq,decide_true,decide_false, he20]
            · simp -dsimp only [↓RE,RU,RL,if_true,if_false,↓reduceIte,Nat.reduceEqDiff,reduceCtorEq,decide_true,decide_false, he19, he20, v5]
        · have d3 : decide (((p + u : Nat) : Int) < ((p + x : Nat) : Int)) = false := decide_eq_false (by omega)
          repeat (first | rw [c_seq] | simp -dsimp only [↓RE,RU,RL,if_true,if_false,forall_const,implies_true,Nat.reduceLeDiff,Nat.reduceLT,pureOp,binPure,intBin,strBin,eqPure,isConstO,unPure,sliceLo,sliceHi,slicePure,slice3Pure,lenPure,capPure,minPure,maxPure,buildP,resK,endV,yieldE,↓reduceIte,Nat.reduceEqDiff,reduceCtorEq,Nat.reduceAdd,Nat.reduceMul,Nat.reduceSub,Int.reduceLT,Int.reduceLE,Int.reduceToNat,Int.reduceAdd,Int.reduceSub,Int.reduceMul,ne_eq,decide_true,decide_false,tf67, he2, he19, he20, v5, d3, undef])
          refine hold_intro ⟨⟨?_, ?_, ?_, ?_, ?_, ?_, ?_⟩, fin _ hz1 (.inl (List.eq_nil_of_length_eq_zero (by omega)))⟩
          · simp -dsimp only [↓RE,RU,RL,if_true,if_false,↓reduceIte,Nat.reduceEqDiff,reduceCtorEq,decide_true,decide_false, he0]
          · simp -dsimp only [↓RE,RU,RL,if_true,if_false,↓reduceIte,Nat.reduceEqDiff,reduceCtorEq,decide_true,decide_false, he1]
          · simp -dsimp only [↓RE,RU,RL,if_true,if_false,↓reduceIte,Nat.reduceEqDiff,reduceCtorEq,decide_true,decide_false, he3]
          · simp -dsimp only [↓RE,RU,RL,if_true,if_false,↓reduceIte,Nat.reduceEqDiff,reduceCtorEq,decide_true,decide_false, he4]
          · simp -dsimp only [↓RE,RU,RL,if_true,if_false,↓reduceIte,Nat.reduceEqDiff,reduceCtorEq,decide_true,decide_false, he18]
          · simp -dsimp only [↓RE,RU,RL,if_true,if_false,↓reduceIte,Nat.reduceEqDiff,reduceCtorEq,decide_true,decide_false, he20]
          · simp -dsimp only [↓RE,RU,RL,if_true,if_false,↓reduceIte,Nat.reduceEqDiff,reduceCtorEq,decide_true,decide_false, he19, he20, v5]
      · clear he0 he1 he2 he3 he4 he18 he19 he20 hz hz1 v5 e
        rintro e wy ⟨⟨he0, he1, he3, he4, he18, he20, he24⟩, hz⟩
        refine c_seq_cut (fun e' w' => (e' 0 = .slice (some ad) n c ∧ e' 3 = .int .i64 ((p + x + y : Nat) : Int) ∧ e' 4 = .func (.func f) #[] #[] ∧ e' 18 = .int .i64 ((p + u + v : Nat) : Int) ∧ e' 24 = .int .i64 ((p + x + v : Nat) : Int)) ∧ ∃ Z1, SortedC cf Z1 ∧ SameK cf (X1 ++ Y1) Z1 ∧ Sr w0 ad n c l0 w' (P ++ (Z1 ++ (X2 ++ (Y2 ++ S))))) ?_ ?_
        · have fin : (X1 = [] ∨ Y1 = []) → ∃ Z1, SortedC cf Z1 ∧ SameK cf (X1 ++ Y1) Z1 ∧ Sr w0 ad n c l0 wy (P ++ (Z1 ++ (X2 ++ (Y2 ++ S)))) := fun he => by
            refine ⟨X1 ++ Y1, ?_, SameK.refl _, by rw [List.append_assoc]; exact hz⟩
            rcases he with he | he
            · subst he; exact sY1
            · subst he; rw [List.append_nil]; exact sX1
          rcases Nat.eq_zero_or_pos u with hu1 | hu1
          · have d3 : decide ((p : Int) < ((p + u : Nat) : Int)) = false := decide_eq_false (by omega)
            repeat (first | rw [c_seq] | simp -dsimp only [↓RE,RU,RL,if_true,if_false,forall_const,implies_true,Nat.reduceLeDiff,Nat.reduceLT,pureOp,binPure,intBin,strBin,eqPure,isConstO,unPure,sliceLo,sliceHi,slicePure,slice3Pure,lenPure,capPure,minPure,maxPure,buildP,resK,endV,yieldE,↓reduceIte,Nat.reduceEqDiff,reduceCtorEq,Nat.reduceAdd,Nat.reduceMul,Nat.reduceSub,Int.reduceLT,Int.reduceLE,Int.reduceToNat,Int.reduceAdd,Int.reduceSub,Int.reduceMul,ne_eq,decide_true,decide_false,tf67, he1, he20, d3, undef])
            refine hold_intro ⟨⟨?_, ?_, ?_, ?_, ?_⟩, fin (.inl (List.eq_nil_of_length_eq_zero (by omega)))⟩
            · simp -dsimp only [↓RE,RU,RL,if_true,if_false,↓reduceIte,Nat.reduceEqDiff,reduceCtorEq,decide_true,decide_false, he0]
            · simp -dsimp only [↓RE,RU,RL,if_true,if_false,↓reduceIte,Nat.reduceEqDiff,reduceCtorEq,decide_true,decide_false, he3]
            · simp -dsimp only [↓RE,RU,RL,if_true,if_false,↓reduceIte,Nat.reduceEqDiff,reduceCtorEq,decide_true,decide_false, he4]
            · simp -dsimp only [↓RE,RU,RL,if_true,if_false,↓reduceIte,Nat.reduceEqDiff,reduceCtorEq,decide_true,decide_false, he18]
            · simp -dsimp only [↓RE,RU,RL,if_true,if_false,↓reduceIte,Nat.reduceEqDiff,reduceCtorEq,decide_true,decide_false, he24]
          · have d3 : decide ((p : Int) < ((p + u : Nat) : Int)) = true := decide_eq_true (by omega)
            rcases Nat.eq_zero_or_pos v with hv1 | hv1
            · have d4 : decide (((p + u : Nat) : Int) < ((p + u + v : Nat) : Int)) = false := decide_eq_false (by omega)
              repeat (first | rw [c_seq] | simp -dsimp only [↓RE,RU,RL,if_true,if_false,forall_const,implies_true,Nat.reduceLeDiff,Nat.reduceLT,pureOp,binPure,intBin,strBin,eqPure,isConstO,unPure,sliceLo,sliceHi,slicePure,slice3Pure,lenPure,capPure,minPure,maxPure,buildP,resK,endV,yieldE,↓reduceIte,Nat.reduceEqDiff,reduceCtorEq,Nat.reduceAdd,Nat.reduceMul,Nat.reduceSub,Int.reduceLT,Int.reduceLE,Int.reduceToNat,Int.reduceAdd,Int.reduceSub,Int.reduceMul,ne_eq,decide_true,decide_false,tf67, he1, he18, he20, d3, d4])
              refine hold_intro ⟨⟨?_, ?_, ?_, ?_, ?_⟩, fin (.inr (List.eq_nil_of_length_eq_zero (by omega)))⟩
              · simp -dsimp only [↓RE,RU,RL,if_true,if_false,↓reduceIte,Nat.reduceEqDiff,reduceCtorEq,decide_true,decide_false, he0]
              · simp -dsimp only [↓RE,RU,RL,if_true,if_false,↓reduceIte,Nat.reduceEqDiff,reduceCtorEq,decide_true,decide_false, he3]
              · simp -dsimp only [↓RE,RU,RL,if_true,if_false,↓reduceIte,Nat.reduceEqDiff,reduceCtorEq,decide_true,decide_false, he4]
              · simp -dsimp only [↓RE,RU,RL,if_true,if_false,↓reduceIte,Nat.reduceEqDiff,reduceCtorEq,decide_true,decide_false, he18]
              · simp -dsimp only [↓RE,RU,RL,if_true,if_false,↓reduceIte,Nat.reduceEqDiff,reduceCtorEq,decide_true,decide_false, he24]
            · have d4 : decide (((p + u : Nat) : Int) < ((p + u + v : Nat) : Int)) = true := decide_eq_true (by omega)
              repeat (first | rw [c_seq] | simp -dsimp only [↓RE,RU,RL,if_true,if_false,forall_const,implies_true,Nat.reduceLeDiff,Nat.reduceLT,pureOp,binPure,intBin,strBin,eqPure,isConstO,unPure,sliceLo,sliceHi,slicePure,slice3Pure,lenPure,capPure,minPure,maxPure,buildP,resK,endV,yieldE,↓reduceIte,Nat.reduceEqDiff,reduceCtorEq,Nat.reduceAdd,Nat.reduceMul,Nat.reduceSub,Int.reduceLT,Int.reduceLE,Int.reduceToNat,Int.reduceAdd,Int.reduceSub,Int.reduceMul,ne_eq,decide_true,decide_false,tf67, he0, he1, he4, he18, he20, d3, d4])
              refine ih wy P X1 Y1 _ (by simp only [List.length_append]; omega) (by omega) (by omega) hz sX1 sY1 _ _ _ (by omega) (by omega) (by omega) _ (fun w6 Z1 z1 z2 h6 => ?_)
              repeat (first | rw [c_seq] | simp -dsimp only [↓RE,RU,RL,if_true,if_false,forall_const,implies_true,Nat.reduceLeDiff,Nat.reduceLT,pureOp,binPure,intBin,strBin,eqPure,isConstO,unPure,sliceLo,sliceHi,slicePure,slice3Pure,lenPure,capPure,minPure,maxPure,buildP,resK,endV,yieldE,↓reduceIte,Nat.reduceEqDiff,reduceCtorEq,Nat.reduceAdd,Nat.reduceMul,Nat.reduceSub,Int.reduceLT,Int.reduceLE,Int.reduceToNat,Int.reduceAdd,Int.reduceSub,Int.reduceMul,ne_eq,decide_true,decide_false,tf67, he0])
              refine hold_intro ⟨⟨?_, ?_, ?_, ?_, ?_⟩, Z1, z1, z2, h6⟩
              · simp -dsimp only [↓RE,RU,RL,if_true,if_false,↓reduceIte,Nat.reduceEqDiff,reduceCtorEq,decide_true,decide_false, he0]
              · simp -dsimp only [↓RE,RU,RL,if_true,if_false,↓reduceIte,Nat.reduceEqDiff,reduceCtorEq,decide_true,decide_false, he3]
              · simp -dsimp only [↓RE,RU,RL,if_true,if_false,↓reduceIte,Nat.reduceEqDiff,reduceCtorEq,decide_true,decide_false, he4]
              · simp -dsimp only [↓RE,RU,RL,if_true,if_false,↓reduceIte,Nat.reduceEqDiff,reduceCtorEq,decide_true,decide_false, he18]
              · simp -dsimp only [↓RE,RU,RL,if_true,if_false,↓reduceIte,Nat.reduceEqDiff,reduceCtorEq,decide_true,decide_false, he24]
        · clear he0 he1 he3 he4 he18 he20 he24 hz e
          rintro e wx ⟨⟨he0, he3, he4, he18, he24⟩, Z1, z1, z2, hz⟩
          have lZ1 : Z1.length = u + v := by have := z2.1; rw [List.length_append] at this; omega
          have done2 : ∀ Z2, SortedC cf Z2 → SameK cf (X2 ++ Y2) Z2 → SortedC cf (Z1 ++ Z2) ∧ SameK cf ((X1 ++ X2) ++ (Y1 ++ Y2)) (Z1 ++ Z2) := fun Z2 a b => sm_split hc hX hY h12 h21 z1 z2 a b
          have fin : (X2 = [] ∨ Y2 = []) → R (.tuple #[]) wx := fun he => by
            obtain ⟨a1, a2⟩ := done2 (X2 ++ Y2) (by
              rcases he with he | he
              · subst he; exact sY2
              · subst he; rw [List.append_nil]; exact sX2) (SameK.refl _)
            exact hR wx _ a1 a2 (by rw [List.append_assoc, List.append_assoc]; exact hz)
          rcases Nat.lt_or_ge u x with hu1 | hu1
          · have d3 : decide (((p + u + v : Nat) : Int) < ((p + x + v : Nat) : Int)) = true := decide_eq_true (by omega)
            rcases Nat.lt_or_ge v y with hv1 | hv1
            · have d4 : decide (((p + x + v : Nat) : Int) < ((p + x + y : Nat) : Int)) = true := decide_eq_true (by omega)
              have hz2 : Sr w0 ad n c l0 wx ((P ++ Z1) ++ (X2 ++ (Y2 ++ S))) := by rw [List.append_assoc]; exact hz
              have lP : (P ++ Z1).length = p + u + v := by rw [List.length_append]; omega
              repeat (first | rw [c_seq] | simp -dsimp only [↓RE,RU,RL,if_true,if_false,forall_const,implies_true,Nat.reduceLeDiff,Nat.reduceLT,pureOp,binPure,intBin,strBin,eqPure,isConstO,unPure,sliceLo,sliceHi,slicePure,slice3Pure,lenPure,capPure,minPure,maxPure,buildP,resK,endV,yieldE,↓reduceIte,Nat.reduceEqDiff,reduceCtorEq,Nat.reduceAdd,Nat.reduceMul,Nat.reduceSub,Int.reduceLT,Int.reduceLE,Int.reduceToNat,Int.reduceAdd,Int.reduceSub,Int.reduceMul,ne_eq,decide_true,decide_false,tf67, he0, he3, he4, he18, he24, d3, d4])
              refine ih wx (P ++ Z1) X2 Y2 S (by simp only [List.length_append]; omega) (by omega) (by omega) hz2 sX2 sY2 _ _ _ (by rw [lP]) (by rw [lP]; omega) (by rw [lP]; omega) _ (fun w6 Z2 y1 y2 h6 => ?_)
              obtain ⟨a1, a2⟩ := done2 Z2 y1 y2
              repeat (first | rw [c_seq] | simp -dsimp only [↓RE,RU,RL,if_true,if_false,forall_const,implies_true,Nat.reduceLeDiff,Nat.reduceLT,pureOp,binPure,intBin,strBin,eqPure,isConstO,unPure,sliceLo,sliceHi,slicePure,slice3Pure,lenPure,capPure,minPure,maxPure,buildP,resK,endV,yieldE,↓reduceIte,Nat.reduceEqDiff,reduceCtorEq,Nat.reduceAdd,Nat.reduceMul,Nat.reduceSub,Int.reduceLT,Int.reduceLE,Int.reduceToNat,Int.reduceAdd,Int.reduceSub,Int.reduceMul,ne_eq,decide_true,decide_false,tf67, he0])
              exact hR w6 _ a1 a2 (by rw [List.append_assoc]; rw [List.append_assoc] at h6; exact h6)
            · have d4 : decide (((p + x + v : Nat) : Int) < ((p + x + y : Nat) : Int)) = false := decide_eq_false (by omega)
              repeat (first | rw [c_seq] | simp -dsimp only [↓RE,RU,RL,if_true,if_false,forall_const,implies_true,Nat.reduceLeDiff,Nat.reduceLT,pureOp,binPure,intBin,strBin,eqPure,isConstO,unPure,sliceLo,sliceHi,slicePure,slice3Pure,lenPure,capPure,minPure,maxPure,buildP,resK,endV,yieldE,↓reduceIte,Nat.reduceEqDiff,reduceCtorEq,Nat.reduceAdd,Nat.reduceMul,Nat.reduceSub,Int.reduceLT,Int.reduceLE,Int.reduceToNat,Int.reduceAdd,Int.reduceSub,Int.reduceMul,ne_eq,decide_true,decide_false,tf67, he3, he18, he24, d3, d4])
              exact fin (.inr (List.eq_nil_of_length_eq_zero (by omega)))
          · have d3 : decide (((p + u + v : Nat) : Int) < ((p + x + v : Nat) : Int)) = false := decide_eq_false (by omega)
            repeat (first | rw [c_seq] | simp -dsimp only [↓RE,RU,RL,if_true,if_false,forall_const,implies_true,Nat.reduceLeDiff,Nat.reduceLT,pureOp,binPure,intBin,strBin,eqPure,isConstO,unPure,sliceLo,sliceHi,slicePure,slice3Pure,lenPure,capPure,minPure,maxPure,buildP,resK,endV,yieldE,↓reduceIte,Nat.reduceEqDiff,reduceCtorEq,Nat.reduceAdd,Nat.reduceMul,Nat.reduceSub,Int.reduceLT,Int.reduceLE,Int.reduceToNat,Int.reduceAdd,Int.reduceSub,Int.reduceMul,ne_eq,decide_true,decide_false,tf67, he3, he18, he24, d3, undef])
            exact fin (.inl (List.eq_nil_of_length_eq_zero (by omega)))
theorem sym_all {w0 : World} {ad : Addr} {n c : Nat} {l0 : List WrV} {f : FuncId} {cf : WrV → WrV → Int} (hcmp : CmpOk w0 ad l0 f cf) (hc : Cmp cf) (hn : n ≤ 2000000000000) : ∀ k, SymOk w0 ad n c l0 f cf k
  | 0 => fun _ _ _ _ _ h => by omega
  | k + 1 => by
    intro w P X Y S hk hX0 hY0 h hX hY a m b ha hm hb R hR
    rcases Nat.lt_or_ge X.length 2 with hx | hx
    · match X, hx, hX0 with
      | [x], _, _ => exact symm1_ok hcmp hc (by simpa using h) hY (by omega) ha (by simpa using hm) (by simpa using hb) hR
    rcases Nat.lt_or_ge Y.length 2 with hy | hy
    · match Y, hy, hY0 with
      | [y], _, _ => exact symm2_ok hcmp hc (by simpa using h) hX hx (by omega) ha hm (by simpa using hb) hR
    refine symm3_ok hcmp hc ?_ h hX hY hx hy hn ha hm hb hR
    intro w P' X' Y' S' hk'
    exact sym_all hcmp hc hn k w P' X' Y' S' (by omega)

end Go.Proofs.Ytifaobnemnbfhaa
