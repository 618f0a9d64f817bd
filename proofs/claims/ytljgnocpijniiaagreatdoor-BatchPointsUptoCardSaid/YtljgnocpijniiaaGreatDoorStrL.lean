/- Texts and tags in order: cmp.Compare, cmp.Or, and the document's. -/
import Derived.Test.YtljgnocpijniiaaGreatDoorPureS
import Derived.Test.YtljgnocpijniiaaGreatDoorMem
import Derived.Test.YtljgnocpijniiaaGreatDoorTab
import Derived.Test.YtljgnocpijniiaaGreatDoorArith
import Derived.Test.YtljgnocpijniiaaGreatDoorSame
set_option linter.unusedVariables false
set_option linter.unusedSimpArgs false
set_option maxRecDepth 100000
namespace Go.Proofs.YtljgnocpijniiaaGreatDoor
open Go

theorem cmpS_ltT {a b : ByteArray} (h : cmpS a b < 0) : Op.bytesLess a.toList b.toList = true := cmpS_lt.1 h
theorem cmpS_geF {a b : ByteArray} (h : ¬ cmpS a b < 0) : Op.bytesLess a.toList b.toList = false := by
  cases hq : Op.bytesLess a.toList b.toList with
  | false => rfl
  | true => exact absurd (cmpS_lt.2 hq) h
theorem beqS {a b : ByteArray} : (a.toList == b.toList) = decide (cmpS a b = 0) := by
  cases hq : decide (cmpS a b = 0) with
  | true => have := (cmpS_eq a b).1 (of_decide_eq_true hq); subst this; simp
  | false =>
    have h0 := of_decide_eq_false hq
    cases h1 : a.toList == b.toList with
    | false => rfl
    | true => exact absurd ((cmpS_eq a b).2 (toList_inj (by simpa using h1))) h0
theorem cmpS_gtT {a b : ByteArray} (h1 : ¬ cmpS a b < 0) (h2 : cmpS a b ≠ 0) : (Op.bytesLess a.toList b.toList || a.toList == b.toList) = false := by
  rw [cmpS_geF h1, beqS, decide_eq_false h2]; rfl
theorem cmpS_leT {a b : ByteArray} (h : cmpS a b = 0) : (Op.bytesLess a.toList b.toList || a.toList == b.toList) = true := by
  rw [beqS, decide_eq_true h, Bool.or_true]
theorem isnanS_ok {w : World} {a : ByteArray} {R : VWK} (h : R (.bool false) w) : CallsV Tryz.prog 138 [.string a] w R := by
  refine calls_of_wpC mixed Tryz.func138 rfl (by kernel_rfl) ?_
  intro e he
  have he0 := he 0
  simp only [List.getD_cons_zero, List.getD_cons_succ] at he0
  clear he
  try simp -dsimp only [↓RE,↓c_seq,RU,RL,Nat.reduceLeDiff,Nat.reduceLT,pureOp,binPure,intBin,strBin,eqPure,isConstO,resK,endV,↓reduceIte,Nat.reduceEqDiff,reduceCtorEq,Nat.reduceAdd,Nat.reduceMul,Int.reduceLT,Int.reduceLE,Int.reduceToNat,Int.reduceAdd,ne_eq,decide_true,decide_false,tf138, he0, beq_self_eq_true, Bool.not_true]
  exact h
theorem compareS_ok {w : World} {a b : ByteArray} {R : VWK} (h : R (.int .i64 (cmpS a b)) w) : CallsV Tryz.prog 113 [.string a, .string b] w R := by
  have hv := cmpS_cmp.val a b
  refine calls_of_wpC mixed Tryz.func113 rfl (by kernel_rfl) ?_
  intro e he
  have he0 := he 0
  have he1 := he 1
  simp only [List.getD_cons_zero, List.getD_cons_succ] at he0 he1
  clear he
  try simp -dsimp only [↓RE,↓c_seq,RU,RL,Nat.reduceLeDiff,Nat.reduceLT,pureOp,binPure,intBin,strBin,resK,endV,↓reduceIte,Nat.reduceEqDiff,reduceCtorEq,Nat.reduceAdd,Nat.reduceMul,Int.reduceLT,Int.reduceLE,Int.reduceToNat,Int.reduceAdd,decide_true,decide_false,tf113, he0, he1]
  refine isnanS_ok ?_
  try simp -dsimp only [↓RE,↓c_seq,RU,RL,Nat.reduceLeDiff,Nat.reduceLT,pureOp,binPure,intBin,strBin,resK,endV,↓reduceIte,Nat.reduceEqDiff,reduceCtorEq,Nat.reduceAdd,Nat.reduceMul,Int.reduceLT,Int.reduceLE,Int.reduceToNat,Int.reduceAdd,decide_true,decide_false,tf113, he0, he1]
  refine isnanS_ok ?_
  by_cases h1 : cmpS a b < 0
  · have e : cmpS a b = -1 := by omega
    rw [e] at h
    have h1' := cmpS_ltT h1
    try simp -dsimp only [↓RE,↓c_seq,RU,RL,Nat.reduceLeDiff,Nat.reduceLT,pureOp,binPure,intBin,strBin,resK,endV,↓reduceIte,Nat.reduceEqDiff,reduceCtorEq,Nat.reduceAdd,Nat.reduceMul,Int.reduceLT,Int.reduceLE,Int.reduceToNat,Int.reduceAdd,decide_true,decide_false,tf113, he0, he1, h1']
    exact h
  have h1' := cmpS_geF h1
  by_cases h2 : cmpS a b = 0
  · rw [h2] at h
    have h2' : (a.toList == b.toList) = true := by rw [beqS, decide_eq_true h2]
    try simp -dsimp only [↓RE,↓c_seq,RU,RL,Nat.reduceLeDiff,Nat.reduceLT,pureOp,binPure,intBin,strBin,resK,endV,↓reduceIte,Nat.reduceEqDiff,reduceCtorEq,Nat.reduceAdd,Nat.reduceMul,Int.reduceLT,Int.reduceLE,Int.reduceToNat,Int.reduceAdd,decide_true,decide_false,tf113, he0, he1, h1', h2', Bool.false_or, Bool.not_true]
    exact h
  · have e : cmpS a b = 1 := by omega
    rw [e] at h
    have h2' : (a.toList == b.toList) = false := by rw [beqS, decide_eq_false h2]
    try simp -dsimp only [↓RE,↓c_seq,RU,RL,Nat.reduceLeDiff,Nat.reduceLT,pureOp,binPure,intBin,strBin,resK,endV,↓reduceIte,Nat.reduceEqDiff,reduceCtorEq,Nat.reduceAdd,Nat.reduceMul,Int.reduceLT,Int.reduceLE,Int.reduceToNat,Int.reduceAdd,decide_true,decide_false,tf113, he0, he1, h1', h2', Bool.false_or, Bool.not_false]
    exact h
theorem texts_ok {w : World} {a b : ByteArray} {R : VWK} (h : R (.int .i64 (cmpS a b)) w) : CallsV Tryz.prog 116 [.string a, .string b] w R := by
  have hv := cmpS_cmp.val a b
  refine calls_of_wpC mixed Tryz.func116 rfl (by kernel_rfl) ?_
  intro e he
  have he0 := he 0
  have he1 := he 1
  simp only [List.getD_cons_zero, List.getD_cons_succ] at he0 he1
  clear he
  by_cases h1 : cmpS a b < 0
  · have e : cmpS a b = -1 := by omega
    rw [e] at h
    have h1' := cmpS_ltT h1
    try simp -dsimp only [↓RE,↓c_seq,RU,RL,Nat.reduceLeDiff,Nat.reduceLT,pureOp,binPure,intBin,strBin,resK,endV,↓reduceIte,Nat.reduceEqDiff,reduceCtorEq,Nat.reduceAdd,Nat.reduceMul,Int.reduceLT,Int.reduceLE,Int.reduceToNat,Int.reduceAdd,decide_true,decide_false,tf116, he0, he1, h1']
    exact h
  have h1' := cmpS_geF h1
  by_cases h2 : cmpS a b = 0
  · rw [h2] at h
    have h2' : (a.toList == b.toList) = true := by rw [beqS, decide_eq_true h2]
    try simp -dsimp only [↓RE,↓c_seq,RU,RL,Nat.reduceLeDiff,Nat.reduceLT,pureOp,binPure,intBin,strBin,resK,endV,↓reduceIte,Nat.reduceEqDiff,reduceCtorEq,Nat.reduceAdd,Nat.reduceMul,Int.reduceLT,Int.reduceLE,Int.reduceToNat,Int.reduceAdd,decide_true,decide_false,tf116, he0, he1, h1', h2', Bool.false_or, Bool.not_true]
    exact h
  · have e : cmpS a b = 1 := by omega
    rw [e] at h
    have h2' : (a.toList == b.toList) = false := by rw [beqS, decide_eq_false h2]
    try simp -dsimp only [↓RE,↓c_seq,RU,RL,Nat.reduceLeDiff,Nat.reduceLT,pureOp,binPure,intBin,strBin,resK,endV,↓reduceIte,Nat.reduceEqDiff,reduceCtorEq,Nat.reduceAdd,Nat.reduceMul,Int.reduceLT,Int.reduceLE,Int.reduceToNat,Int.reduceAdd,decide_true,decide_false,tf116, he0, he1, h1', h2', Bool.false_or, Bool.not_false]
    exact h
/-- the first that is not 0. -/
def orI : List Int → Int
  | [] => 0
  | x :: r => if x = 0 then orI r else x
theorem orI_zeros : ∀ (k : Nat) (xs : List Int), (∀ i, i < k → xs.getD i 0 = 0) → k ≤ xs.length → orI (xs.drop k) = orI xs
  | 0, xs, _, _ => by rw [List.drop_zero]
  | k + 1, [], _, h => by simp at h
  | k + 1, x :: xs, h0, h => by
    have hx : x = 0 := h0 0 (by omega)
    show orI (xs.drop k) = orI (x :: xs)
    rw [orI, if_pos hx]
    exact orI_zeros k xs (fun i hi => h0 (i + 1) (by omega)) (by simp at h; omega)
theorem orI_at {k : Nat} {xs : List Int} (h0 : ∀ i, i < k → xs.getD i 0 = 0) (hk : k < xs.length) (hn : xs.getD k 0 ≠ 0) : orI xs = xs.getD k 0 := by
  rw [← orI_zeros k xs h0 (by omega), List.drop_eq_getElem_cons hk]
  rw [List.getD_eq_getElem?_getD, List.getElem?_eq_getElem hk] at hn ⊢
  have hn' : xs[k] ≠ 0 := hn
  rw [orI, if_neg hn']
  rfl
theorem or_ok {w : World} {A : Option Addr} {n c : Nat} {xs : List Int} (hR : Rd w A n 1 (xs.map (Value.int .i64))) (hn : n ≤ 1000) {R : VWK} (h : R (.int .i64 (orI xs)) w) :
    CallsV Tryz.prog 53 [.slice A n c] w R := by
  have hl := hR.len1
  refine calls_of_wpC mixed Tryz.func53 rfl (by kernel_rfl) ?_
  intro e he
  have he0 := he 0
  simp only [List.getD_cons_zero, List.getD_cons_succ] at he0
  clear he
  try simp -dsimp only [↓RE,↓c_seq,RU,RL,Nat.reduceLeDiff,Nat.reduceLT,pureOp,binPure,intBin,strBin,eqPure,isConstO,lenPure,resK,endV,↓reduceIte,Nat.reduceEqDiff,reduceCtorEq,Nat.reduceAdd,Nat.reduceMul,Int.reduceLT,Int.reduceLE,Int.reduceToNat,Int.reduceAdd,ne_eq,decide_true,decide_false,tf53, he0]
  refine wpLoop_intro (fun e' w' => e' 6 = .slice A n c ∧ e' 7 = .int .i64 (n : Nat) ∧ e' 3 = .int .i64 0 ∧ w' = w ∧ ∃ k : Nat, k ≤ n ∧ e' 8 = .int .i64 (k : Int) ∧ ∀ i, i < k → xs.getD i 0 = 0) (fun e' _ => n - (envInt (e' 8)).toNat) ⟨?_, ?_, ?_, rfl, 0, Nat.zero_le _, ?_, fun i hi => absurd hi (by omega)⟩ ?_
  · simp -dsimp only [↓RE,RU,RL,↓reduceIte,Nat.reduceEqDiff,reduceCtorEq,decide_true,decide_false, he0]
  · simp -dsimp only [↓RE,RU,RL,↓reduceIte,Nat.reduceEqDiff,reduceCtorEq,decide_true,decide_false, he0]
  · simp -dsimp only [↓RE,RU,RL,↓reduceIte,Nat.reduceEqDiff,reduceCtorEq,decide_true,decide_false, he0]
  · simp -dsimp only [↓RE,RU,RL,↓reduceIte,Nat.reduceEqDiff,reduceCtorEq,decide_true,decide_false, he0, Int.cast_ofNat_Int]
  clear he0 e
  rintro e wz ⟨he6, he7, he3, rfl, k, hk, he8, h0⟩
  rcases Nat.lt_or_ge k n with hkl | hkl
  · have hd : decide ((k : Int) < (n : Int)) = true := decide_eq_true (by omega)
    obtain ⟨ad, rfl, hc⟩ := hR.int hkl
    have hw1 : IntKind.i64.wrap ((k : Int) + 1) = ((k + 1 : Nat) : Int) := by rw [wrap_i64_in (by omega) (by omega)]; omega
    by_cases hx : xs.getD k 0 = 0
    · try simp -dsimp only [↓RE,↓c_seq,RU,RL,Nat.reduceLeDiff,Nat.reduceLT,pureOp,binPure,intBin,strBin,eqPure,isConstO,lenPure,resK,endV,↓reduceIte,Nat.reduceEqDiff,reduceCtorEq,Nat.reduceAdd,Nat.reduceMul,Int.reduceLT,Int.reduceLE,Int.reduceToNat,Int.reduceAdd,ne_eq,decide_true,decide_false,tf53, he6, he7, he8, he3, hd, hc, hx, Nat.mul_one, Int.toNat_natCast, hw1]
      refine ⟨⟨by omega, by omega⟩, hold_intro ⟨⟨?_, ?_, ?_, rfl, k + 1, hkl, ?_, fun i hi => ?_⟩, ?_⟩⟩
      · simp -dsimp only [↓RE,RU,RL,↓reduceIte,Nat.reduceEqDiff,reduceCtorEq,decide_true,decide_false, he6]
      · simp -dsimp only [↓RE,RU,RL,↓reduceIte,Nat.reduceEqDiff,reduceCtorEq,decide_true,decide_false, he7]
      · simp -dsimp only [↓RE,RU,RL,↓reduceIte,Nat.reduceEqDiff,reduceCtorEq,decide_true,decide_false, he3]
      · simp -dsimp only [↓RE,RU,RL,↓reduceIte,Nat.reduceEqDiff,reduceCtorEq,decide_true,decide_false, he8, hw1]
      · rcases Nat.lt_or_eq_of_le (Nat.lt_succ_iff.1 hi) with h1 | rfl
        · exact h0 i h1
        · exact hx
      · simp -dsimp only [↓RE,RU,RL,↓reduceIte,Nat.reduceEqDiff,reduceCtorEq,decide_true,decide_false, he8, hw1, envInt, Int.toNat_natCast]
        omega
    · have hx' : decide (xs.getD k 0 = 0) = false := decide_eq_false hx
      rw [orI_at h0 (by omega) hx] at h
      try simp -dsimp only [↓RE,↓c_seq,RU,RL,Nat.reduceLeDiff,Nat.reduceLT,pureOp,binPure,intBin,strBin,eqPure,isConstO,lenPure,resK,endV,↓reduceIte,Nat.reduceEqDiff,reduceCtorEq,Nat.reduceAdd,Nat.reduceMul,Int.reduceLT,Int.reduceLE,Int.reduceToNat,Int.reduceAdd,ne_eq,decide_true,decide_false,tf53, he6, he7, he8, he3, hd, hc, hx', Nat.mul_one, Int.toNat_natCast]
      exact ⟨⟨by omega, by omega⟩, h⟩
  · have hd : decide ((k : Int) < (n : Int)) = false := decide_eq_false (by omega)
    have hz : orI xs = 0 := by
      rw [← orI_zeros n xs (fun i hi => h0 i (by omega)) (by omega), List.drop_eq_nil_of_le (by omega)]; rfl
    rw [hz] at h
    try simp -dsimp only [↓RE,↓c_seq,RU,RL,Nat.reduceLeDiff,Nat.reduceLT,pureOp,binPure,intBin,strBin,eqPure,isConstO,lenPure,resK,endV,↓reduceIte,Nat.reduceEqDiff,reduceCtorEq,Nat.reduceAdd,Nat.reduceMul,Int.reduceLT,Int.reduceLE,Int.reduceToNat,Int.reduceAdd,ne_eq,decide_true,decide_false,tf53, he6, he7, he8, he3, hd]
    exact h

end Go.Proofs.YtljgnocpijniiaaGreatDoor
