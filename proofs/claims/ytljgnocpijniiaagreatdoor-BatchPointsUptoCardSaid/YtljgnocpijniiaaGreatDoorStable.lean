/- slices.SortStableFunc of writes: sorted, of each key the same in the same order. -/
import Derived.Test.YtljgnocpijniiaaGreatDoorSyms
set_option linter.unusedVariables false
set_option linter.unusedSimpArgs false
set_option maxRecDepth 100000
namespace Go.Proofs.YtljgnocpijniiaaGreatDoor
open Go

theorem inss0_ok {w : World} {A : Option Addr} {c : Nat} {f : FuncId} {R : VWK} (hR : R (.tuple #[]) w) : CallsV Tryz.prog 139 [.slice A 0 c, .int .i64 0, .int .i64 0, .func (.func f) #[] #[]] w R := by
  refine calls_of_wpC mixed Tryz.func139 rfl (by kernel_rfl) ?_
  intro e he
  have he0 := he 0
  have he1 := he 1
  have he2 := he 2
  have he3 := he 3
  simp only [List.getD_cons_zero, List.getD_cons_succ] at he0 he1 he2 he3
  clear he
  have w1 : IntKind.i64.wrap 1 = 1 := by decide
  repeat (first | rw [c_seq] | simp -dsimp only [↓RE,RU,RL,forall_const,implies_true,Nat.reduceLeDiff,Nat.reduceLT,pureOp,binPure,intBin,strBin,resK,endV,yieldE,↓reduceIte,Nat.reduceEqDiff,reduceCtorEq,Nat.reduceAdd,Nat.reduceMul,Int.reduceLT,Int.reduceLE,Int.reduceToNat,Int.reduceAdd,Int.reduceSub,decide_true,decide_false,tf139, he0, he1, he2, w1])
  refine wpLoop_intro (fun e' w' => w' = w ∧ e' 2 = .int .i64 0 ∧ e' 8 = .int .i64 1) (fun e' _ => 0) ⟨rfl, ?_, ?_⟩ ?_
  · simp -dsimp only [↓RE,RU,RL,↓reduceIte,Nat.reduceEqDiff,reduceCtorEq,decide_true,decide_false, he2]
  · simp -dsimp only [↓RE,RU,RL,↓reduceIte,Nat.reduceEqDiff,reduceCtorEq,decide_true,decide_false, he1, w1]
  clear he0 he1 he2 he3 e
  rintro e wz ⟨rfl, he2, he8⟩
  have hd : decide ((1 : Int) < 0) = false := rfl
  repeat (first | rw [c_seq] | simp -dsimp only [↓RE,RU,RL,forall_const,implies_true,Nat.reduceLeDiff,Nat.reduceLT,pureOp,binPure,intBin,strBin,resK,endV,yieldE,↓reduceIte,Nat.reduceEqDiff,reduceCtorEq,Nat.reduceAdd,Nat.reduceMul,Int.reduceLT,Int.reduceLE,Int.reduceToNat,Int.reduceAdd,Int.reduceSub,decide_true,decide_false,tf139, he2, he8, hd])
  exact hR
theorem stable0_ok {w : World} {A : Option Addr} {c : Nat} {f : FuncId} {R : VWK} (hR : R (.tuple #[]) w) : CallsV Tryz.prog 123 [.slice A 0 c, .int .i64 0, .func (.func f) #[] #[]] w R := by
  have d1 : decide ((20 : Int) ≤ 0) = false := rfl
  have d2 : decide ((20 : Int) < 0) = false := rfl
  refine calls_of_wpC mixed Tryz.func123 rfl (by kernel_rfl) ?_
  intro e he
  have he0 := he 0
  have he1 := he 1
  have he2 := he 2
  simp only [List.getD_cons_zero, List.getD_cons_succ] at he0 he1 he2
  clear he
  repeat (first | rw [c_seq] | simp -dsimp only [↓RE,RU,RL,Nat.reduceLeDiff,Nat.reduceLT,pureOp,binPure,intBin,strBin,resK,endV,↓reduceIte,Nat.reduceEqDiff,reduceCtorEq,Nat.reduceAdd,Nat.reduceMul,Int.reduceLT,Int.reduceLE,Int.reduceToNat,Int.reduceAdd,Int.reduceMul,decide_true,decide_false,tf123, he0, he1, he2])
  refine wpLoop_intro (fun e' w' => w' = w ∧ (e' 0 = .slice A 0 c ∧ e' 1 = .int .i64 0 ∧ e' 2 = .func (.func f) #[] #[]) ∧ e' 6 = .int .i64 20 ∧ e' 7 = .int .i64 0 ∧ e' 8 = .int .i64 20) (fun e' _ => 0) ⟨rfl, ⟨?_, ?_, ?_⟩, ?_, ?_, ?_⟩ ?_
  · simp -dsimp only [↓RE,RU,RL,↓reduceIte,Nat.reduceEqDiff,reduceCtorEq,decide_true,decide_false, he0]
  · simp -dsimp only [↓RE,RU,RL,↓reduceIte,Nat.reduceEqDiff,reduceCtorEq,decide_true,decide_false, he1]
  · simp -dsimp only [↓RE,RU,RL,↓reduceIte,Nat.reduceEqDiff,reduceCtorEq,decide_true,decide_false, he2]
  · simp -dsimp only [↓RE,RU,RL,↓reduceIte,Nat.reduceEqDiff,reduceCtorEq,decide_true,decide_false, he2]
  · simp -dsimp only [↓RE,RU,RL,↓reduceIte,Nat.reduceEqDiff,reduceCtorEq,decide_true,decide_false, he2]
  · simp -dsimp only [↓RE,RU,RL,↓reduceIte,Nat.reduceEqDiff,reduceCtorEq,decide_true,decide_false, he2]
  clear he0 he1 he2 e
  rintro e wz ⟨rfl, ⟨he0, he1, he2⟩, he6, he7, he8⟩
  repeat (first | rw [c_seq] | simp -dsimp only [↓RE,RU,RL,Nat.reduceLeDiff,Nat.reduceLT,pureOp,binPure,intBin,strBin,resK,endV,↓reduceIte,Nat.reduceEqDiff,reduceCtorEq,Nat.reduceAdd,Nat.reduceMul,Int.reduceLT,Int.reduceLE,Int.reduceToNat,Int.reduceAdd,Int.reduceMul,decide_true,decide_false,tf123, he0, he1, he2, he6, he7, he8, d1])
  refine inss0_ok ?_
  repeat (first | rw [c_seq] | simp -dsimp only [↓RE,RU,RL,Nat.reduceLeDiff,Nat.reduceLT,pureOp,binPure,intBin,strBin,resK,endV,↓reduceIte,Nat.reduceEqDiff,reduceCtorEq,Nat.reduceAdd,Nat.reduceMul,Int.reduceLT,Int.reduceLE,Int.reduceToNat,Int.reduceAdd,Int.reduceMul,decide_true,decide_false,tf123, he0])
  refine wpLoop_intro (fun e' w' => w' = wz ∧ e' 1 = .int .i64 0 ∧ e' 6 = .int .i64 20) (fun e' _ => 0) ⟨rfl, ?_, ?_⟩ ?_
  · simp -dsimp only [↓RE,RU,RL,↓reduceIte,Nat.reduceEqDiff,reduceCtorEq,decide_true,decide_false, he1]
  · simp -dsimp only [↓RE,RU,RL,↓reduceIte,Nat.reduceEqDiff,reduceCtorEq,decide_true,decide_false, he6]
  clear he0 he1 he2 he6 he7 he8 e
  rintro e wy ⟨rfl, he1, he6⟩
  repeat (first | rw [c_seq] | simp -dsimp only [↓RE,RU,RL,Nat.reduceLeDiff,Nat.reduceLT,pureOp,binPure,intBin,strBin,resK,endV,↓reduceIte,Nat.reduceEqDiff,reduceCtorEq,Nat.reduceAdd,Nat.reduceMul,Int.reduceLT,Int.reduceLE,Int.reduceToNat,Int.reduceAdd,Int.reduceMul,decide_true,decide_false,tf123, he1, he6, d2])
  exact hR
/-- rows of one length, all sorted. -/
def AllS (cf : WrV → WrV → Int) (k : Nat) (Cs : List (List WrV)) : Prop := ∀ C ∈ Cs, SortedC cf C ∧ C.length = k
theorem AllS.snoc {cf : WrV → WrV → Int} {k : Nat} {Cs : List (List WrV)} (h : AllS cf k Cs) {Z : List WrV} (hZ : SortedC cf Z) (hl : Z.length = k) : AllS cf k (Cs ++ [Z]) := fun C hC => by
  rcases List.mem_append.1 hC with hC | hC
  · exact h C hC
  · rw [List.mem_singleton.1 hC]; exact ⟨hZ, hl⟩
set_option maxHeartbeats 4000000 in
theorem stable_ok {w0 w : World} {ad : Addr} {n c : Nat} {l0 L : List WrV} {f : FuncId} {cf : WrV → WrV → Int} (hcmp : CmpOk w0 ad l0 f cf) (hc : Cmp cf) (h : Sr w0 ad n c l0 w L) (hn : n ≤ 1000000000000) {R : VWK}
    (hR : ∀ w' Z, SortedC cf Z → SameK cf L Z → Sr w0 ad n c l0 w' Z → R (.tuple #[]) w') : CallsV Tryz.prog 123 [.slice (some ad) n c, .int .i64 (n : Int), .func (.func f) #[] #[]] w R := by
  have hlen := h.len
  have sym := fun k => sym_all hcmp hc (n := n) (c := c) (by omega) k
  refine calls_of_wpC mixed Tryz.func123 rfl (by kernel_rfl) ?_
  intro e he
  have he0 := he 0
  have he1 := he 1
  have he2 := he 2
  simp only [List.getD_cons_zero, List.getD_cons_succ] at he0 he1 he2
  clear he
  repeat (first | rw [c_seq] | simp -dsimp only [↓RE,RU,RL,Nat.reduceLeDiff,Nat.reduceLT,pureOp,binPure,intBin,strBin,resK,endV,↓reduceIte,Nat.reduceEqDiff,reduceCtorEq,Nat.reduceAdd,Nat.reduceMul,Int.reduceLT,Int.reduceLE,Int.reduceToNat,Int.reduceAdd,Int.reduceMul,decide_true,decide_false,tf123, he0, he1, he2])
  refine wpLoop_intro (fun e' w' => (e' 0 = .slice (some ad) n c ∧ e' 1 = .int .i64 (n : Int) ∧ e' 2 = .func (.func f) #[] #[] ∧ e' 6 = .int .i64 ((20 : Nat) : Int)) ∧ ∃ Cs V U, L = V ++ U ∧ AllS cf 20 Cs ∧ SameK cf V Cs.flatten ∧ e' 7 = .int .i64 (Cs.flatten.length : Int) ∧ e' 8 = .int .i64 ((Cs.flatten.length + 20 : Nat) : Int) ∧ Sr w0 ad n c l0 w' (Cs.flatten ++ U))
    (fun e' _ => n + 20 - (envInt (e' 8)).toNat) ⟨⟨?_, ?_, ?_, ?_⟩, [], [], L, rfl, fun C hC => (by cases hC), SameK.refl _, ?_, ?_, by simpa using h⟩ ?_
  · simp -dsimp only [↓RE,RU,RL,↓reduceIte,Nat.reduceEqDiff,reduceCtorEq,decide_true,decide_false, he0]
  · simp -dsimp only [↓RE,RU,RL,↓reduceIte,Nat.reduceEqDiff,reduceCtorEq,decide_true,decide_false, he1]
  · simp -dsimp only [↓RE,RU,RL,↓reduceIte,Nat.reduceEqDiff,reduceCtorEq,decide_true,decide_false, he2]
  · simp -dsimp only [↓RE,RU,RL,↓reduceIte,Nat.reduceEqDiff,reduceCtorEq,decide_true,decide_false, Int.cast_ofNat_Int]
  · simp -dsimp only [↓RE,RU,RL,↓reduceIte,Nat.reduceEqDiff,reduceCtorEq,decide_true,decide_false, List.flatten_nil, List.length_nil, Int.cast_ofNat_Int]
  · simp -dsimp only [↓RE,RU,RL,↓reduceIte,Nat.reduceEqDiff,reduceCtorEq,decide_true,decide_false, List.flatten_nil, List.length_nil, Nat.zero_add, Int.cast_ofNat_Int]
  clear he0 he1 he2 e h
  rintro e wz ⟨⟨he0, he1, he2, he6⟩, Cs, V, U, hL, hC, hV, he7, he8, h⟩
  have hl2 := h.len
  rw [List.length_append] at hl2
  rcases Nat.lt_or_ge n (Cs.flatten.length + 20) with hlt | hge
  · have d1 : decide (((Cs.flatten.length + 20 : Nat) : Int) ≤ (n : Int)) = false := decide_eq_false (by omega)
    have hz : Sr w0 ad n c l0 wz (Cs.flatten ++ (U ++ [])) := by rw [List.append_nil]; exact h
    repeat (first | rw [c_seq] | simp -dsimp only [↓RE,RU,RL,Nat.reduceLeDiff,Nat.reduceLT,pureOp,binPure,intBin,strBin,resK,endV,↓reduceIte,Nat.reduceEqDiff,reduceCtorEq,Nat.reduceAdd,Nat.reduceMul,Int.reduceLT,Int.reduceLE,Int.reduceToNat,Int.reduceAdd,Int.reduceMul,decide_true,decide_false,tf123, he0, he1, he2, he6, he7, he8, d1])
    refine inss_ok hcmp hc hz (by omega) rfl (by omega) (fun w5 Z hZ hUZ h5 => ?_)
    rw [List.append_nil] at h5
    have hall : SameK cf L (Cs.flatten ++ Z) := by rw [hL]; exact hV.app hUZ
    have hZl : Z.length < 20 := by have := hUZ.1; omega
    repeat (first | rw [c_seq] | simp -dsimp only [↓RE,RU,RL,Nat.reduceLeDiff,Nat.reduceLT,pureOp,binPure,intBin,strBin,resK,endV,↓reduceIte,Nat.reduceEqDiff,reduceCtorEq,Nat.reduceAdd,Nat.reduceMul,Int.reduceLT,Int.reduceLE,Int.reduceToNat,Int.reduceAdd,Int.reduceMul,decide_true,decide_false,tf123, he0])
    refine wpLoop_intro (fun e' w' => (e' 0 = .slice (some ad) n c ∧ e' 1 = .int .i64 (n : Int) ∧ e' 2 = .func (.func f) #[] #[]) ∧ ∃ (k : Nat) (Cs : List (List WrV)) (T : List WrV), 0 < k ∧ e' 6 = .int .i64 (k : Int) ∧ (k ≤ 20 ∨ k ≤ 2 * n) ∧ AllS cf k Cs ∧ SortedC cf T ∧ T.length < k ∧ SameK cf L (Cs.flatten ++ T) ∧ Sr w0 ad n c l0 w' (Cs.flatten ++ T))
      (fun e' _ => n + 20 - (envInt (e' 6)).toNat) ⟨⟨?_, ?_, ?_⟩, 20, Cs, Z, by omega, ?_, .inl (Nat.le_refl _), hC, hZ, hZl, hall, h5⟩ ?_
    · simp -dsimp only [↓RE,RU,RL,↓reduceIte,Nat.reduceEqDiff,reduceCtorEq,decide_true,decide_false, he0]
    · simp -dsimp only [↓RE,RU,RL,↓reduceIte,Nat.reduceEqDiff,reduceCtorEq,decide_true,decide_false, he1]
    · simp -dsimp only [↓RE,RU,RL,↓reduceIte,Nat.reduceEqDiff,reduceCtorEq,decide_true,decide_false, he2]
    · simp -dsimp only [↓RE,RU,RL,↓reduceIte,Nat.reduceEqDiff,reduceCtorEq,decide_true,decide_false, he6]
    clear he0 he1 he2 he6 he7 he8 h hz h5 hall hZl hUZ hZ hV hL hC hl2 hlt d1 e Z V U Cs
    rintro e wy ⟨⟨he0, he1, he2⟩, k, Cs, T, hk, he6, hkn, hC, hT, hTk, hall, h⟩
    have hl2 := h.len
    rw [List.length_append] at hl2
    rcases Nat.lt_or_ge k n with hkn2 | hkn2
    · have d1 : decide ((k : Int) < (n : Int)) = true := decide_eq_true (by omega)
      have hmu : (envInt (e 6)).toNat = k := by rw [he6]; exact Int.toNat_natCast k
      have v1 : IntKind.i64.wrap (2 * (k : Int)) = ((2 * k : Nat) : Int) := by rw [wrap_i64_in (by omega) (by omega)]; omega
      have v2 : IntKind.i64.wrap ((k : Int) * 2) = ((2 * k : Nat) : Int) := by rw [wrap_i64_in (by omega) (by omega)]; omega
      repeat (first | rw [c_seq] | simp -dsimp only [↓RE,RU,RL,Nat.reduceLeDiff,Nat.reduceLT,pureOp,binPure,intBin,strBin,resK,endV,↓reduceIte,Nat.reduceEqDiff,reduceCtorEq,Nat.reduceAdd,Nat.reduceMul,Int.reduceLT,Int.reduceLE,Int.reduceToNat,Int.reduceAdd,Int.reduceMul,decide_true,decide_false,tf123, he1, he6, d1, v1])
      refine wpLoop_intro (fun e' w' => (e' 0 = .slice (some ad) n c ∧ e' 1 = .int .i64 (n : Int) ∧ e' 2 = .func (.func f) #[] #[] ∧ e' 6 = .int .i64 (k : Int)) ∧ ∃ Ds Cs, AllS cf (2 * k) Ds ∧ AllS cf k Cs ∧ e' 7 = .int .i64 (Ds.flatten.length : Int) ∧ e' 8 = .int .i64 ((Ds.flatten.length + 2 * k : Nat) : Int) ∧ SameK cf L (Ds.flatten ++ (Cs.flatten ++ T)) ∧ Sr w0 ad n c l0 w' (Ds.flatten ++ (Cs.flatten ++ T)))
        (fun e' _ => n + 2 * k - (envInt (e' 8)).toNat) ⟨⟨?_, ?_, ?_, ?_⟩, [], Cs, fun C hC => (by cases hC), hC, ?_, ?_, by simpa using hall, by simpa using h⟩ ?_
      · simp -dsimp only [↓RE,RU,RL,↓reduceIte,Nat.reduceEqDiff,reduceCtorEq,decide_true,decide_false, he0]
      · simp -dsimp only [↓RE,RU,RL,↓reduceIte,Nat.reduceEqDiff,reduceCtorEq,decide_true,decide_false, he1]
      · simp -dsimp only [↓RE,RU,RL,↓reduceIte,Nat.reduceEqDiff,reduceCtorEq,decide_true,decide_false, he2]
      · simp -dsimp only [↓RE,RU,RL,↓reduceIte,Nat.reduceEqDiff,reduceCtorEq,decide_true,decide_false, he6]
      · simp -dsimp only [↓RE,RU,RL,↓reduceIte,Nat.reduceEqDiff,reduceCtorEq,decide_true,decide_false, List.flatten_nil, List.length_nil, Int.cast_ofNat_Int]
      · simp -dsimp only [↓RE,RU,RL,↓reduceIte,Nat.reduceEqDiff,reduceCtorEq,decide_true,decide_false, he6, v1, List.flatten_nil, List.length_nil, Nat.zero_add]
      clear he0 he1 he2 he6 h hall hC hl2 Cs
      rintro e1 wx ⟨⟨he0, he1, he2, he6⟩, Ds, Cs, hD, hC, he7, he8, hall, h⟩
      have hl2 := h.len
      rw [List.length_append, List.length_append] at hl2
      rcases Nat.lt_or_ge n (Ds.flatten.length + 2 * k) with hlt2 | hge2
      · have d2 : decide (((Ds.flatten.length + 2 * k : Nat) : Int) ≤ (n : Int)) = false := decide_eq_false (by omega)
        have v3 : IntKind.i64.wrap ((Ds.flatten.length : Int) + (k : Int)) = ((Ds.flatten.length + k : Nat) : Int) := by rw [wrap_i64_in (by omega) (by omega)]; omega
        have tail : ∀ (w' : World) (T' : List WrV) (e' : Env), (e' 0 = .slice (some ad) n c ∧ e' 1 = .int .i64 (n : Int) ∧ e' 2 = .func (.func f) #[] #[]) → e' 6 = .int .i64 ((2 * k : Nat) : Int) → SortedC cf T' → T'.length < 2 * k → SameK cf L (Ds.flatten ++ T') → Sr w0 ad n c l0 w' (Ds.flatten ++ T') →
            ((e' 0 = .slice (some ad) n c ∧ e' 1 = .int .i64 (n : Int) ∧ e' 2 = .func (.func f) #[] #[]) ∧ ∃ (k : Nat) (Cs : List (List WrV)) (T : List WrV), 0 < k ∧ e' 6 = .int .i64 (k : Int) ∧ (k ≤ 20 ∨ k ≤ 2 * n) ∧ AllS cf k Cs ∧ SortedC cf T ∧ T.length < k ∧ SameK cf L (Cs.flatten ++ T) ∧ Sr w0 ad n c l0 w' (Cs.flatten ++ T)) ∧ n + 20 - (envInt (e' 6)).toNat < n + 20 - (envInt (e 6)).toNat :=
          fun w' T' e' he he6 hT' hl' hk' hs' => ⟨⟨he, 2 * k, Ds, T', by omega, he6, .inr (by omega), hD, hT', hl', hk', hs'⟩, by rw [hmu, he6]; simp only [envInt_int, Int.toNat_natCast]; omega⟩
        match Cs, hC, hall, h, hl2 with
        | [], _, hall, h, hl2 =>
          simp only [List.flatten_nil, List.length_nil, List.nil_append, Nat.zero_add] at hall h hl2
          have d3 : decide (((Ds.flatten.length + k : Nat) : Int) < (n : Int)) = false := decide_eq_false (by omega)
          repeat (first | rw [c_seq] | simp -dsimp only [↓RE,RU,RL,Nat.reduceLeDiff,Nat.reduceLT,pureOp,binPure,intBin,strBin,resK,endV,↓reduceIte,Nat.reduceEqDiff,reduceCtorEq,Nat.reduceAdd,Nat.reduceMul,Int.reduceLT,Int.reduceLE,Int.reduceToNat,Int.reduceAdd,Int.reduceMul,decide_true,decide_false,tf123, he1, he6, he7, he8, d2, v3, d3, v2])
          refine hold_intro (tail _ T _ ⟨?_, ?_, ?_⟩ ?_ hT (by omega) hall h)
          · simp -dsimp only [↓RE,RU,RL,↓reduceIte,Nat.reduceEqDiff,reduceCtorEq,decide_true,decide_false, he0]
          · simp -dsimp only [↓RE,RU,RL,↓reduceIte,Nat.reduceEqDiff,reduceCtorEq,decide_true,decide_false, he1]
          · simp -dsimp only [↓RE,RU,RL,↓reduceIte,Nat.reduceEqDiff,reduceCtorEq,decide_true,decide_false, he2]
          · simp -dsimp only [↓RE,RU,RL,↓reduceIte,Nat.reduceEqDiff,reduceCtorEq,decide_true,decide_false, he6, v2]
        | [C], hC, hall, h, hl2 =>
          obtain ⟨hc1, hc2⟩ := hC C List.mem_cons_self
          simp only [List.flatten_cons, List.flatten_nil, List.append_nil] at hall h hl2
          rcases Nat.eq_zero_or_pos T.length with hT0 | hT0
          · have hTn : T = [] := List.eq_nil_of_length_eq_zero hT0
            subst hTn
            rw [List.append_nil] at hall h
            have d3 : decide (((Ds.flatten.length + k : Nat) : Int) < (n : Int)) = false := decide_eq_false (by omega)
            repeat (first | rw [c_seq] | simp -dsimp only [↓RE,RU,RL,Nat.reduceLeDiff,Nat.reduceLT,pureOp,binPure,intBin,strBin,resK,endV,↓reduceIte,Nat.reduceEqDiff,reduceCtorEq,Nat.reduceAdd,Nat.reduceMul,Int.reduceLT,Int.reduceLE,Int.reduceToNat,Int.reduceAdd,Int.reduceMul,decide_true,decide_false,tf123, he1, he6, he7, he8, d2, v3, d3, v2])
            refine hold_intro (tail _ C _ ⟨?_, ?_, ?_⟩ ?_ hc1 (by omega) hall h)
            · simp -dsimp only [↓RE,RU,RL,↓reduceIte,Nat.reduceEqDiff,reduceCtorEq,decide_true,decide_false, he0]
            · simp -dsimp only [↓RE,RU,RL,↓reduceIte,Nat.reduceEqDiff,reduceCtorEq,decide_true,decide_false, he1]
            · simp -dsimp only [↓RE,RU,RL,↓reduceIte,Nat.reduceEqDiff,reduceCtorEq,decide_true,decide_false, he2]
            · simp -dsimp only [↓RE,RU,RL,↓reduceIte,Nat.reduceEqDiff,reduceCtorEq,decide_true,decide_false, he6, v2]
          · have d3 : decide (((Ds.flatten.length + k : Nat) : Int) < (n : Int)) = true := decide_eq_true (by omega)
            repeat (first | rw [c_seq] | simp -dsimp only [↓RE,RU,RL,Nat.reduceLeDiff,Nat.reduceLT,pureOp,binPure,intBin,strBin,resK,endV,↓reduceIte,Nat.reduceEqDiff,reduceCtorEq,Nat.reduceAdd,Nat.reduceMul,Int.reduceLT,Int.reduceLE,Int.reduceToNat,Int.reduceAdd,Int.reduceMul,decide_true,decide_false,tf123, he0, he1, he2, he6, he7, he8, d2, v3, d3])
            refine sym (C.length + T.length + 1) _ Ds.flatten C T [] (by omega) (by omega) hT0 (by rw [List.append_nil]; exact h) hc1 hT _ _ _ rfl (by omega) (by omega) _ (fun w6 Z hZ hk6 h6 => ?_)
            rw [List.append_nil] at h6
            have hZl := hk6.1
            rw [List.length_append] at hZl
            repeat (first | rw [c_seq] | simp -dsimp only [↓RE,RU,RL,Nat.reduceLeDiff,Nat.reduceLT,pureOp,binPure,intBin,strBin,resK,endV,↓reduceIte,Nat.reduceEqDiff,reduceCtorEq,Nat.reduceAdd,Nat.reduceMul,Int.reduceLT,Int.reduceLE,Int.reduceToNat,Int.reduceAdd,Int.reduceMul,decide_true,decide_false,tf123, he6, v2])
            refine hold_intro (tail _ Z _ ⟨?_, ?_, ?_⟩ ?_ hZ (by omega) (hall.trans ((SameK.refl _).app hk6)) h6)
            · simp -dsimp only [↓RE,RU,RL,↓reduceIte,Nat.reduceEqDiff,reduceCtorEq,decide_true,decide_false, he0]
            · simp -dsimp only [↓RE,RU,RL,↓reduceIte,Nat.reduceEqDiff,reduceCtorEq,decide_true,decide_false, he1]
            · simp -dsimp only [↓RE,RU,RL,↓reduceIte,Nat.reduceEqDiff,reduceCtorEq,decide_true,decide_false, he2]
            · simp -dsimp only [↓RE,RU,RL,↓reduceIte,Nat.reduceEqDiff,reduceCtorEq,decide_true,decide_false, he6, v2]
        | C :: C2 :: Cs, hC, hall, h, hl2 =>
          have hc1 := (hC C List.mem_cons_self).2
          have hc2 := (hC C2 (List.mem_cons_of_mem _ List.mem_cons_self)).2
          simp only [List.flatten_cons, List.length_append] at hl2
          omega
      · have d2 : decide (((Ds.flatten.length + 2 * k : Nat) : Int) ≤ (n : Int)) = true := decide_eq_true (by omega)
        have v3 : IntKind.i64.wrap ((Ds.flatten.length : Int) + (k : Int)) = ((Ds.flatten.length + k : Nat) : Int) := by rw [wrap_i64_in (by omega) (by omega)]; omega
        have v4 : IntKind.i64.wrap (((Ds.flatten.length + 2 * k : Nat) : Int) + ((2 * k : Nat) : Int)) = ((Ds.flatten.length + 2 * k + 2 * k : Nat) : Int) := by rw [wrap_i64_in (by omega) (by omega)]; omega
        have hmu2 : (envInt (e1 8)).toNat = Ds.flatten.length + 2 * k := by rw [he8]; exact Int.toNat_natCast _
        match Cs, hC, hall, h, hl2 with
        | [], _, hall, h, hl2 =>
          simp only [List.flatten_nil, List.length_nil] at hl2
          omega
        | [C], hC, hall, h, hl2 =>
          have hc2 := (hC C List.mem_cons_self).2
          simp only [List.flatten_cons, List.flatten_nil, List.append_nil] at hl2
          omega
        | C :: C2 :: Cs, hC, hall, h, hl2 =>
          obtain ⟨hc1, hc1l⟩ := hC C List.mem_cons_self
          obtain ⟨hc2, hc2l⟩ := hC C2 (List.mem_cons_of_mem _ List.mem_cons_self)
          have hC' : AllS cf k Cs := fun D hD => hC D (List.mem_cons_of_mem _ (List.mem_cons_of_mem _ hD))
          simp only [List.flatten_cons, List.length_append] at hl2
          have eL : Ds.flatten ++ ((C :: C2 :: Cs).flatten ++ T) = Ds.flatten ++ (C ++ (C2 ++ (Cs.flatten ++ T))) := by simp [List.append_assoc]
          rw [eL] at hall h
          repeat (first | rw [c_seq] | simp -dsimp only [↓RE,RU,RL,Nat.reduceLeDiff,Nat.reduceLT,pureOp,binPure,intBin,strBin,resK,endV,↓reduceIte,Nat.reduceEqDiff,reduceCtorEq,Nat.reduceAdd,Nat.reduceMul,Int.reduceLT,Int.reduceLE,Int.reduceToNat,Int.reduceAdd,Int.reduceMul,decide_true,decide_false,tf123, he0, he1, he2, he6, he7, he8, d2, v3])
          refine sym (C.length + C2.length + 1) _ Ds.flatten C C2 (Cs.flatten ++ T) (by omega) (by omega) (by omega) h hc1 hc2 _ _ _ rfl (by omega) (by omega) _ (fun w6 Z hZ hk6 h6 => ?_)
          have hZl := hk6.1
          rw [List.length_append] at hZl
          have e1' : (Ds ++ [Z]).flatten = Ds.flatten ++ Z := by simp
          have e2' : (Ds ++ [Z]).flatten.length = Ds.flatten.length + 2 * k := by rw [e1', List.length_append]; omega
          have hall2 : SameK cf L (Ds.flatten ++ (Z ++ (Cs.flatten ++ T))) := by
            refine hall.trans ?_
            have := hk6.mid Ds.flatten (Cs.flatten ++ T)
            rwa [List.append_assoc] at this
          repeat (first | rw [c_seq] | simp -dsimp only [↓RE,RU,RL,Nat.reduceLeDiff,Nat.reduceLT,pureOp,binPure,intBin,strBin,resK,endV,↓reduceIte,Nat.reduceEqDiff,reduceCtorEq,Nat.reduceAdd,Nat.reduceMul,Int.reduceLT,Int.reduceLE,Int.reduceToNat,Int.reduceAdd,Int.reduceMul,decide_true,decide_false,tf123, he6, he8, v1, v4])
          refine hold_intro ⟨⟨⟨?_, ?_, ?_, ?_⟩, Ds ++ [Z], Cs, hD.snoc hZ (by omega), hC', ?_, ?_, by rw [e1', List.append_assoc]; exact hall2, by rw [e1', List.append_assoc]; exact h6⟩, ?_⟩
          · simp -dsimp only [↓RE,RU,RL,↓reduceIte,Nat.reduceEqDiff,reduceCtorEq,decide_true,decide_false, he0]
          · simp -dsimp only [↓RE,RU,RL,↓reduceIte,Nat.reduceEqDiff,reduceCtorEq,decide_true,decide_false, he1]
          · simp -dsimp only [↓RE,RU,RL,↓reduceIte,Nat.reduceEqDiff,reduceCtorEq,decide_true,decide_false, he2]
          · simp -dsimp only [↓RE,RU,RL,↓reduceIte,Nat.reduceEqDiff,reduceCtorEq,decide_true,decide_false, he6]
          · rw [e2']; simp -dsimp only [↓RE,↓c_seq,RU,RL,Nat.reduceLeDiff,Nat.reduceLT,pureOp,binPure,intBin,strBin,resK,endV,↓reduceIte,Nat.reduceEqDiff,reduceCtorEq,Nat.reduceAdd,Nat.reduceMul,Int.reduceLT,Int.reduceLE,Int.reduceToNat,Int.reduceAdd,Int.reduceMul,decide_true,decide_false,tf123, he8]
          · rw [e2']; simp -dsimp only [↓RE,↓c_seq,RU,RL,Nat.reduceLeDiff,Nat.reduceLT,pureOp,binPure,intBin,strBin,resK,endV,↓reduceIte,Nat.reduceEqDiff,reduceCtorEq,Nat.reduceAdd,Nat.reduceMul,Int.reduceLT,Int.reduceLE,Int.reduceToNat,Int.reduceAdd,Int.reduceMul,decide_true,decide_false,tf123, he6, he8, v1, v4]
          · rw [hmu2]
            simp -dsimp only [↓RE,↓c_seq,RU,RL,Nat.reduceLeDiff,Nat.reduceLT,pureOp,binPure,intBin,strBin,resK,endV,↓reduceIte,Nat.reduceEqDiff,reduceCtorEq,Nat.reduceAdd,Nat.reduceMul,Int.reduceLT,Int.reduceLE,Int.reduceToNat,Int.reduceAdd,Int.reduceMul,decide_true,decide_false,tf123, he6, he8, v1, v4, envInt, Int.toNat_natCast]
            omega
    · have d1 : decide ((k : Int) < (n : Int)) = false := decide_eq_false (by omega)
      have hS : SortedC cf (Cs.flatten ++ T) := by
        match Cs, hC with
        | [], _ => exact hT
        | [C], hC =>
          have hc1 := hC C List.mem_cons_self
          simp only [List.flatten_cons, List.flatten_nil, List.append_nil] at hl2 ⊢
          have : T = [] := List.eq_nil_of_length_eq_zero (by omega)
          subst this
          rw [List.append_nil]
          exact hc1.1
        | C :: C2 :: Cs, hC =>
          have hc1 := (hC C List.mem_cons_self).2
          have hc2 := (hC C2 (List.mem_cons_of_mem _ List.mem_cons_self)).2
          simp only [List.flatten_cons, List.length_append] at hl2
          omega
      repeat (first | rw [c_seq] | simp -dsimp only [↓RE,RU,RL,Nat.reduceLeDiff,Nat.reduceLT,pureOp,binPure,intBin,strBin,resK,endV,↓reduceIte,Nat.reduceEqDiff,reduceCtorEq,Nat.reduceAdd,Nat.reduceMul,Int.reduceLT,Int.reduceLE,Int.reduceToNat,Int.reduceAdd,Int.reduceMul,decide_true,decide_false,tf123, he1, he6, d1])
      exact hR wy _ hS hall h
  · have d1 : decide (((Cs.flatten.length + 20 : Nat) : Int) ≤ (n : Int)) = true := decide_eq_true (by omega)
    have hmu : (envInt (e 8)).toNat = Cs.flatten.length + 20 := by rw [he8]; exact Int.toNat_natCast _
    have lt : (U.take 20).length = 20 := by rw [List.length_take]; omega
    have hz : Sr w0 ad n c l0 wz (Cs.flatten ++ (U.take 20 ++ U.drop 20)) := by rw [List.take_append_drop]; exact h
    have v1 : IntKind.i64.wrap (((Cs.flatten.length + 20 : Nat) : Int) + ((20 : Nat) : Int)) = ((Cs.flatten.length + 20 + 20 : Nat) : Int) := by rw [wrap_i64_in (by omega) (by omega)]; omega
    repeat (first | rw [c_seq] | simp -dsimp only [↓RE,RU,RL,Nat.reduceLeDiff,Nat.reduceLT,pureOp,binPure,intBin,strBin,resK,endV,↓reduceIte,Nat.reduceEqDiff,reduceCtorEq,Nat.reduceAdd,Nat.reduceMul,Int.reduceLT,Int.reduceLE,Int.reduceToNat,Int.reduceAdd,Int.reduceMul,decide_true,decide_false,tf123, he0, he1, he2, he6, he7, he8, d1])
    refine inss_ok hcmp hc hz (by omega) rfl (by rw [lt]; omega) (fun w5 Z hZ hUZ h5 => ?_)
    have hZl : Z.length = 20 := by have := hUZ.1; omega
    have e1 : (Cs ++ [Z]).flatten = Cs.flatten ++ Z := by simp
    have e2 : (Cs ++ [Z]).flatten.length = Cs.flatten.length + 20 := by rw [e1, List.length_append, hZl]
    repeat (first | rw [c_seq] | simp -dsimp only [↓RE,RU,RL,Nat.reduceLeDiff,Nat.reduceLT,pureOp,binPure,intBin,strBin,resK,endV,↓reduceIte,Nat.reduceEqDiff,reduceCtorEq,Nat.reduceAdd,Nat.reduceMul,Int.reduceLT,Int.reduceLE,Int.reduceToNat,Int.reduceAdd,Int.reduceMul,decide_true,decide_false,tf123, he6, he8, v1])
    refine hold_intro ⟨⟨⟨?_, ?_, ?_, ?_⟩, Cs ++ [Z], V ++ U.take 20, U.drop 20, by rw [List.append_assoc, List.take_append_drop]; exact hL, hC.snoc hZ hZl, by rw [e1]; exact hV.app hUZ, ?_, ?_, by rw [e1, List.append_assoc]; exact h5⟩, ?_⟩
    · simp -dsimp only [↓RE,RU,RL,↓reduceIte,Nat.reduceEqDiff,reduceCtorEq,decide_true,decide_false, he0]
    · simp -dsimp only [↓RE,RU,RL,↓reduceIte,Nat.reduceEqDiff,reduceCtorEq,decide_true,decide_false, he1]
    · simp -dsimp only [↓RE,RU,RL,↓reduceIte,Nat.reduceEqDiff,reduceCtorEq,decide_true,decide_false, he2]
    · simp -dsimp only [↓RE,RU,RL,↓reduceIte,Nat.reduceEqDiff,reduceCtorEq,decide_true,decide_false, he6]
    · rw [e2]; simp -dsimp only [↓RE,↓c_seq,RU,RL,Nat.reduceLeDiff,Nat.reduceLT,pureOp,binPure,intBin,strBin,resK,endV,↓reduceIte,Nat.reduceEqDiff,reduceCtorEq,Nat.reduceAdd,Nat.reduceMul,Int.reduceLT,Int.reduceLE,Int.reduceToNat,Int.reduceAdd,Int.reduceMul,decide_true,decide_false,tf123, he8]
    · rw [e2]; simp -dsimp only [↓RE,↓c_seq,RU,RL,Nat.reduceLeDiff,Nat.reduceLT,pureOp,binPure,intBin,strBin,resK,endV,↓reduceIte,Nat.reduceEqDiff,reduceCtorEq,Nat.reduceAdd,Nat.reduceMul,Int.reduceLT,Int.reduceLE,Int.reduceToNat,Int.reduceAdd,Int.reduceMul,decide_true,decide_false,tf123, he6, he8, v1]
    · rw [hmu]
      simp -dsimp only [↓RE,↓c_seq,RU,RL,Nat.reduceLeDiff,Nat.reduceLT,pureOp,binPure,intBin,strBin,resK,endV,↓reduceIte,Nat.reduceEqDiff,reduceCtorEq,Nat.reduceAdd,Nat.reduceMul,Int.reduceLT,Int.reduceLE,Int.reduceToNat,Int.reduceAdd,Int.reduceMul,decide_true,decide_false,tf123, he6, he8, v1, envInt, Int.toNat_natCast]
      omega

end Go.Proofs.YtljgnocpijniiaaGreatDoor
