/- slices.Clone of rows of writes, tags and texts: the same cells in memory of their own. -/
import Derived.Test.YtljgnocpijniiaaGreatDoorRow
import Derived.Test.YtljgnocpijniiaaGreatDoorTab
set_option linter.unusedVariables false
set_option linter.unusedSimpArgs false
set_option maxRecDepth 100000
namespace Go.Proofs.YtljgnocpijniiaaGreatDoor
open Go

theorem cloneW_ok {w : World} {A : Option Addr} {n c : Nat} {xs : List Value} (hR : Rd w A n 6 xs) (h1 : ∀ u ∈ xs, u.oneCell' = true) (hn : n ≤ 1000000000000) {R : VWK}
    (h : ∀ w' A' c', LRow w' 60 6 (.slice A' n c') n xs → Grow w w' → (∀ k, fpA A' k → w.heap.size ≤ k) → (A' = none ↔ A = none) → R (.slice A' n c') w') :
    CallsV Tryz.prog 119 [.slice A n c] w R := by
  rcases A with _ | ad
  · have h0 : n = 0 := by
      rcases Nat.eq_zero_or_pos n with h0 | h0
      · exact h0
      · obtain ⟨ad, h, _⟩ := hR.2 h0; cases h
    subst h0
    obtain rfl : xs = [] := List.eq_nil_of_length_eq_zero (by have := hR.1; omega)
    refine calls_of_wpC mixed Tryz.func119 rfl (by kernel_rfl) ?_
    intro e he
    have he0 := he 0
    simp only [List.getD_cons_zero, List.getD_cons_succ] at he0
    clear he
    repeat (first | rw [c_seq] | simp -dsimp only [↓RE,RU,RL,Nat.reduceLeDiff,Nat.reduceLT,pureOp,binPure,intBin,strBin,eqPure,isConstO,resK,endV,↓reduceIte,Nat.reduceEqDiff,reduceCtorEq,Nat.reduceAdd,Nat.reduceMul,Int.reduceLT,Int.reduceLE,Int.reduceToNat,Int.reduceAdd,decide_true,decide_false,tf119, he0])
    exact h w none 0 (LRow.nil _ _ _) (Keep.refl _ _) (fun k hk => by obtain ⟨_, h, _⟩ := hk; cases h) Iff.rfl
  refine calls_of_wpC mixed Tryz.func119 rfl (by kernel_rfl) ?_
  intro e he
  have he0 := he 0
  simp only [List.getD_cons_zero, List.getD_cons_succ] at he0
  clear he
  repeat (first | rw [c_seq] | simp -dsimp only [↓RE,RU,RL,Nat.reduceLeDiff,Nat.reduceLT,pureOp,binPure,intBin,strBin,eqPure,isConstO,resK,endV,↓reduceIte,Nat.reduceEqDiff,reduceCtorEq,Nat.reduceAdd,Nat.reduceMul,Int.reduceLT,Int.reduceLE,Int.reduceToNat,Int.reduceAdd,decide_true,decide_false,tf119, he0])
  have hown := LRow.of_own (own_new w 60 6 0 #[] rfl (by simp [maxLen]))
  have ga := Grow.alloc w (.cells #[] 60)
  refine appK_l (bytes := 80) (by kernel_rfl) hown (hR.grow ga) h1 (by simp only [maxLen]; omega) (by omega) (fun A' c' w' hL hK hF hN => ?_)
  repeat (first | rw [c_seq] | simp -dsimp only [↓RE,RU,RL,Nat.reduceLeDiff,Nat.reduceLT,pureOp,binPure,intBin,strBin,eqPure,isConstO,resK,endV,↓reduceIte,Nat.reduceEqDiff,reduceCtorEq,Nat.reduceAdd,Nat.reduceMul,Int.reduceLT,Int.reduceLE,Int.reduceToNat,Int.reduceAdd,decide_true,decide_false,tf119, he0])
  rw [Nat.zero_add] at hL hF
  refine h w' A' c' (by simpa using hL) (ga.above hK (fun k hk hf => ?_)) (fun k hk => ?_) ⟨fun h => ?_, fun h => by cases h⟩
  · rw [fpV_some] at hf; simp only at hf; omega
  · rcases hF k ((fpV_fpA _ _ _ _).2 hk) with hf | hf
    · rw [fpV_some] at hf; simp only at hf; omega
    · have := ga.size; omega
  · obtain ⟨_, _, h1⟩ := hN h
    cases h1
theorem cloneT_ok {w : World} {A : Option Addr} {n c : Nat} {xs : List Value} (hR : Rd w A n 2 xs) (h1 : ∀ u ∈ xs, u.oneCell' = true) (hn : n ≤ 1000000000000) {R : VWK}
    (h : ∀ w' A' c', LRow w' 115 2 (.slice A' n c') n xs → Grow w w' → (∀ k, fpA A' k → w.heap.size ≤ k) → (A' = none ↔ A = none) → R (.slice A' n c') w') :
    CallsV Tryz.prog 118 [.slice A n c] w R := by
  rcases A with _ | ad
  · have h0 : n = 0 := by
      rcases Nat.eq_zero_or_pos n with h0 | h0
      · exact h0
      · obtain ⟨ad, h, _⟩ := hR.2 h0; cases h
    subst h0
    obtain rfl : xs = [] := List.eq_nil_of_length_eq_zero (by have := hR.1; omega)
    refine calls_of_wpC mixed Tryz.func118 rfl (by kernel_rfl) ?_
    intro e he
    have he0 := he 0
    simp only [List.getD_cons_zero, List.getD_cons_succ] at he0
    clear he
    repeat (first | rw [c_seq] | simp -dsimp only [↓RE,RU,RL,Nat.reduceLeDiff,Nat.reduceLT,pureOp,binPure,intBin,strBin,eqPure,isConstO,resK,endV,↓reduceIte,Nat.reduceEqDiff,reduceCtorEq,Nat.reduceAdd,Nat.reduceMul,Int.reduceLT,Int.reduceLE,Int.reduceToNat,Int.reduceAdd,decide_true,decide_false,tf118, he0])
    exact h w none 0 (LRow.nil _ _ _) (Keep.refl _ _) (fun k hk => by obtain ⟨_, h, _⟩ := hk; cases h) Iff.rfl
  refine calls_of_wpC mixed Tryz.func118 rfl (by kernel_rfl) ?_
  intro e he
  have he0 := he 0
  simp only [List.getD_cons_zero, List.getD_cons_succ] at he0
  clear he
  repeat (first | rw [c_seq] | simp -dsimp only [↓RE,RU,RL,Nat.reduceLeDiff,Nat.reduceLT,pureOp,binPure,intBin,strBin,eqPure,isConstO,resK,endV,↓reduceIte,Nat.reduceEqDiff,reduceCtorEq,Nat.reduceAdd,Nat.reduceMul,Int.reduceLT,Int.reduceLE,Int.reduceToNat,Int.reduceAdd,decide_true,decide_false,tf118, he0])
  have hown := LRow.of_own (own_new w 115 2 0 #[] rfl (by simp [maxLen]))
  have ga := Grow.alloc w (.cells #[] 115)
  refine appK_l (bytes := 32) (by kernel_rfl) hown (hR.grow ga) h1 (by simp only [maxLen]; omega) (by omega) (fun A' c' w' hL hK hF hN => ?_)
  repeat (first | rw [c_seq] | simp -dsimp only [↓RE,RU,RL,Nat.reduceLeDiff,Nat.reduceLT,pureOp,binPure,intBin,strBin,eqPure,isConstO,resK,endV,↓reduceIte,Nat.reduceEqDiff,reduceCtorEq,Nat.reduceAdd,Nat.reduceMul,Int.reduceLT,Int.reduceLE,Int.reduceToNat,Int.reduceAdd,decide_true,decide_false,tf118, he0])
  rw [Nat.zero_add] at hL hF
  refine h w' A' c' (by simpa using hL) (ga.above hK (fun k hk hf => ?_)) (fun k hk => ?_) ⟨fun h => ?_, fun h => by cases h⟩
  · rw [fpV_some] at hf; simp only at hf; omega
  · rcases hF k ((fpV_fpA _ _ _ _).2 hk) with hf | hf
    · rw [fpV_some] at hf; simp only at hf; omega
    · have := ga.size; omega
  · obtain ⟨_, _, h1⟩ := hN h
    cases h1
theorem cloneB_ok {w : World} {A : Option Addr} {n c : Nat} {xs : List Value} (hR : Rd w A n 1 xs) (h1 : ∀ u ∈ xs, u.oneCell' = true) (hn : n ≤ 1000000000000) {R : VWK}
    (h : ∀ w' A' c', LRow w' 9 1 (.slice A' n c') n xs → Grow w w' → (∀ k, fpA A' k → w.heap.size ≤ k) → (A' = none ↔ A = none) → R (.slice A' n c') w') :
    CallsV Tryz.prog 133 [.slice A n c] w R := by
  rcases A with _ | ad
  · have h0 : n = 0 := by
      rcases Nat.eq_zero_or_pos n with h0 | h0
      · exact h0
      · obtain ⟨ad, h, _⟩ := hR.2 h0; cases h
    subst h0
    obtain rfl : xs = [] := List.eq_nil_of_length_eq_zero (by have := hR.1; omega)
    refine calls_of_wpC mixed Tryz.func133 rfl (by kernel_rfl) ?_
    intro e he
    have he0 := he 0
    simp only [List.getD_cons_zero, List.getD_cons_succ] at he0
    clear he
    repeat (first | rw [c_seq] | simp -dsimp only [↓RE,RU,RL,Nat.reduceLeDiff,Nat.reduceLT,pureOp,binPure,intBin,strBin,eqPure,isConstO,resK,endV,↓reduceIte,Nat.reduceEqDiff,reduceCtorEq,Nat.reduceAdd,Nat.reduceMul,Int.reduceLT,Int.reduceLE,Int.reduceToNat,Int.reduceAdd,decide_true,decide_false,tf133, he0])
    exact h w none 0 (LRow.nil _ _ _) (Keep.refl _ _) (fun k hk => by obtain ⟨_, h, _⟩ := hk; cases h) Iff.rfl
  refine calls_of_wpC mixed Tryz.func133 rfl (by kernel_rfl) ?_
  intro e he
  have he0 := he 0
  simp only [List.getD_cons_zero, List.getD_cons_succ] at he0
  clear he
  repeat (first | rw [c_seq] | simp -dsimp only [↓RE,RU,RL,Nat.reduceLeDiff,Nat.reduceLT,pureOp,binPure,intBin,strBin,eqPure,isConstO,resK,endV,↓reduceIte,Nat.reduceEqDiff,reduceCtorEq,Nat.reduceAdd,Nat.reduceMul,Int.reduceLT,Int.reduceLE,Int.reduceToNat,Int.reduceAdd,decide_true,decide_false,tf133, he0])
  have hown := LRow.of_own (own_new w 9 1 0 #[] rfl (by simp [maxLen]))
  have ga := Grow.alloc w (.cells #[] 9)
  refine appK_l (bytes := 16) (by kernel_rfl) hown (hR.grow ga) h1 (by simp only [maxLen]; omega) (by omega) (fun A' c' w' hL hK hF hN => ?_)
  repeat (first | rw [c_seq] | simp -dsimp only [↓RE,RU,RL,Nat.reduceLeDiff,Nat.reduceLT,pureOp,binPure,intBin,strBin,eqPure,isConstO,resK,endV,↓reduceIte,Nat.reduceEqDiff,reduceCtorEq,Nat.reduceAdd,Nat.reduceMul,Int.reduceLT,Int.reduceLE,Int.reduceToNat,Int.reduceAdd,decide_true,decide_false,tf133, he0])
  rw [Nat.zero_add] at hL hF
  refine h w' A' c' (by simpa using hL) (ga.above hK (fun k hk hf => ?_)) (fun k hk => ?_) ⟨fun h => ?_, fun h => by cases h⟩
  · rw [fpV_some] at hf; simp only at hf; omega
  · rcases hF k ((fpV_fpA _ _ _ _).2 hk) with hf | hf
    · rw [fpV_some] at hf; simp only at hf; omega
    · have := ga.size; omega
  · obtain ⟨_, _, h1⟩ := hN h
    cases h1

end Go.Proofs.YtljgnocpijniiaaGreatDoor
