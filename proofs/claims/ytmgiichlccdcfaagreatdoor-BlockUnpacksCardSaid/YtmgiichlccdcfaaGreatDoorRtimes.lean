/- The document's Times: the same in plain terms. -/
import Derived.Test.YtmgiichlccdcfaaGreatDoorTimes
import Derived.Test.YtmgiichlccdcfaaGreatDoorBadV
import Derived.Test.YtmgiichlccdcfaaGreatDoorRbits
set_option linter.unusedVariables false
set_option linter.unusedSimpArgs false
set_option maxRecDepth 100000
namespace Go.Proofs.YtmgiichlccdcfaaGreatDoor
open Go

def cls (d : Int) : Int × Int × Int × Int :=
  if d = 0 then (0, 1, 0, 0) else if -63 ≤ d ∧ d ≤ 64 then (2, 2, 63, 7) else if -255 ≤ d ∧ d ≤ 256 then (6, 3, 255, 9) else if -2047 ≤ d ∧ d ≤ 2048 then (14, 4, 2047, 12) else (15, 4, 0, 64)
theorem cls_dput {d : Int} (d0 : -9223372036854775808 ≤ d) (d1 : d < 9223372036854775808) (s : List Int × Nat) :
    pushBits (IntKind.u64.wrap (IntKind.i64.wrap (d + (cls d).2.2.1))) (brought (cls d).2.2.2) (pushBits (cls d).1 (brought (cls d).2.1) s) = dput d s := by
  have b0 : brought 0 = 0 := by decide
  have b1 : brought 1 = 1 := by decide
  have b2 : brought 2 = 2 := by decide
  have b3 : brought 3 = 3 := by decide
  have b4 : brought 4 = 4 := by decide
  have b7 : brought 7 = 7 := by decide
  have b9 : brought 9 = 9 := by decide
  have b12 : brought 12 = 12 := by decide
  have b64 : brought 64 = 64 := by decide
  unfold cls dput
  by_cases h0 : d = 0
  · rw [if_pos h0, if_pos h0]
    simp only [b0, b1, pushBits]
  rw [if_neg h0, if_neg h0]
  by_cases h1 : -63 ≤ d ∧ d ≤ 64
  · rw [if_pos h1, if_pos h1]
    simp only [b2, b7]
    rw [wrap_i64_in (by omega) (by omega), wrap_u64, Int.emod_eq_of_lt (by omega) (by omega)]
  rw [if_neg h1, if_neg h1]
  by_cases h2 : -255 ≤ d ∧ d ≤ 256
  · rw [if_pos h2, if_pos h2]
    simp only [b3, b9]
    rw [wrap_i64_in (by omega) (by omega), wrap_u64, Int.emod_eq_of_lt (by omega) (by omega)]
  rw [if_neg h2, if_neg h2]
  by_cases h3 : -2047 ≤ d ∧ d ≤ 2048
  · rw [if_pos h3, if_pos h3]
    simp only [b4, b12]
    rw [wrap_i64_in (by omega) (by omega), wrap_u64, Int.emod_eq_of_lt (by omega) (by omega)]
  rw [if_neg h3, if_neg h3]
  simp only [b4, b64, Int.add_zero]
  rw [wrap_i64_in (by omega) (by omega), wrap_u64]
theorem cls_range (d : Int) : 0 ≤ (cls d).1 ∧ (cls d).1 < 16 := by
  unfold cls
  split
  · simp
  split
  · simp
  split
  · simp
  split <;> simp
theorem class_ok {w : World} {d : Int} {R : VWK} (h : R (.tuple #[.int .u64 (cls d).1, .int .i64 (cls d).2.1, .int .i64 (cls d).2.2.1, .int .i64 (cls d).2.2.2]) w) : CallsV Tryz.prog 76 [.int .i64 d] w R := by
  have two : ∀ lo hi : Int, (decide (lo ≤ d) = true ∧ decide (d ≤ hi) = true ∧ lo ≤ d ∧ d ≤ hi) ∨ (decide (lo ≤ d) = false ∧ ¬ (lo ≤ d ∧ d ≤ hi)) ∨ (decide (lo ≤ d) = true ∧ decide (d ≤ hi) = false ∧ ¬ (lo ≤ d ∧ d ≤ hi)) := by
    intro lo hi
    by_cases a : lo ≤ d <;> by_cases b : d ≤ hi <;> simp [a, b]
  unfold cls at h
  refine calls_of_wpC mixed Tryz.func76 rfl (by kernel_rfl) ?_
  intro e he
  have he0 := he 0
  simp only [List.getD_cons_zero, List.getD_cons_succ] at he0
  clear he
  by_cases h0 : d = 0
  · rw [if_pos h0] at h
    have dz := decide_eq_true h0
    try simp -dsimp only [↓RE,↓c_seq,RU,RL,if_true,if_false,forall_const,implies_true,Nat.reduceLeDiff,Nat.reduceLT,pureOp,binPure,intBin,strBin,eqPure,isConstO,unPure,sliceLo,sliceHi,slicePure,lenPure,minPure,maxPure,buildP,resK,endV,yieldE,↓reduceIte,Nat.reduceEqDiff,reduceCtorEq,Nat.reduceAdd,Nat.reduceMul,Nat.reduceSub,Int.reduceLT,Int.reduceLE,Int.reduceToNat,Int.reduceAdd,Int.reduceSub,Int.reduceMul,ne_eq,decide_true,decide_false,tf76, he0, dz]
    exact h
  rw [if_neg h0] at h
  have dz := decide_eq_false h0
  rcases two (-63) 64 with ⟨a0, b0, c0⟩ | ⟨a0, c0⟩ | ⟨a0, b0, c0⟩
  · rw [if_pos c0] at h
    try simp -dsimp only [↓RE,↓c_seq,RU,RL,if_true,if_false,forall_const,implies_true,Nat.reduceLeDiff,Nat.reduceLT,pureOp,binPure,intBin,strBin,eqPure,isConstO,unPure,sliceLo,sliceHi,slicePure,lenPure,minPure,maxPure,buildP,resK,endV,yieldE,↓reduceIte,Nat.reduceEqDiff,reduceCtorEq,Nat.reduceAdd,Nat.reduceMul,Nat.reduceSub,Int.reduceLT,Int.reduceLE,Int.reduceToNat,Int.reduceAdd,Int.reduceSub,Int.reduceMul,ne_eq,decide_true,decide_false,tf76, he0, dz, a0, b0, undef]
    exact h
  · rw [if_neg c0] at h
    rcases two (-255) 256 with ⟨a1, b1, c1⟩ | ⟨a1, c1⟩ | ⟨a1, b1, c1⟩
    · rw [if_pos c1] at h
      try simp -dsimp only [↓RE,↓c_seq,RU,RL,if_true,if_false,forall_const,implies_true,Nat.reduceLeDiff,Nat.reduceLT,pureOp,binPure,intBin,strBin,eqPure,isConstO,unPure,sliceLo,sliceHi,slicePure,lenPure,minPure,maxPure,buildP,resK,endV,yieldE,↓reduceIte,Nat.reduceEqDiff,reduceCtorEq,Nat.reduceAdd,Nat.reduceMul,Nat.reduceSub,Int.reduceLT,Int.reduceLE,Int.reduceToNat,Int.reduceAdd,Int.reduceSub,Int.reduceMul,ne_eq,decide_true,decide_false,tf76, he0, dz, a0, a1, b1, undef]
      exact h
    · rw [if_neg c1] at h
      rcases two (-2047) 2048 with ⟨a2, b2, c2⟩ | ⟨a2, c2⟩ | ⟨a2, b2, c2⟩
      · rw [if_pos c2] at h
        try simp -dsimp only [↓RE,↓c_seq,RU,RL,if_true,if_false,forall_const,implies_true,Nat.reduceLeDiff,Nat.reduceLT,pureOp,binPure,intBin,strBin,eqPure,isConstO,unPure,sliceLo,sliceHi,slicePure,lenPure,minPure,maxPure,buildP,resK,endV,yieldE,↓reduceIte,Nat.reduceEqDiff,reduceCtorEq,Nat.reduceAdd,Nat.reduceMul,Nat.reduceSub,Int.reduceLT,Int.reduceLE,Int.reduceToNat,Int.reduceAdd,Int.reduceSub,Int.reduceMul,ne_eq,decide_true,decide_false,tf76, he0, dz, a0, a1, a2, b2, undef]
        exact h
      · rw [if_neg c2] at h
        try simp -dsimp only [↓RE,↓c_seq,RU,RL,if_true,if_false,forall_const,implies_true,Nat.reduceLeDiff,Nat.reduceLT,pureOp,binPure,intBin,strBin,eqPure,isConstO,unPure,sliceLo,sliceHi,slicePure,lenPure,minPure,maxPure,buildP,resK,endV,yieldE,↓reduceIte,Nat.reduceEqDiff,reduceCtorEq,Nat.reduceAdd,Nat.reduceMul,Nat.reduceSub,Int.reduceLT,Int.reduceLE,Int.reduceToNat,Int.reduceAdd,Int.reduceSub,Int.reduceMul,ne_eq,decide_true,decide_false,tf76, he0, dz, a0, a1, a2, undef]
        exact h
      · rw [if_neg c2] at h
        try simp -dsimp only [↓RE,↓c_seq,RU,RL,if_true,if_false,forall_const,implies_true,Nat.reduceLeDiff,Nat.reduceLT,pureOp,binPure,intBin,strBin,eqPure,isConstO,unPure,sliceLo,sliceHi,slicePure,lenPure,minPure,maxPure,buildP,resK,endV,yieldE,↓reduceIte,Nat.reduceEqDiff,reduceCtorEq,Nat.reduceAdd,Nat.reduceMul,Nat.reduceSub,Int.reduceLT,Int.reduceLE,Int.reduceToNat,Int.reduceAdd,Int.reduceSub,Int.reduceMul,ne_eq,decide_true,decide_false,tf76, he0, dz, a0, a1, a2, b2, undef]
        exact h
    · rw [if_neg c1] at h
      rcases two (-2047) 2048 with ⟨a2, b2, c2⟩ | ⟨a2, c2⟩ | ⟨a2, b2, c2⟩
      · rw [if_pos c2] at h
        try simp -dsimp only [↓RE,↓c_seq,RU,RL,if_true,if_false,forall_const,implies_true,Nat.reduceLeDiff,Nat.reduceLT,pureOp,binPure,intBin,strBin,eqPure,isConstO,unPure,sliceLo,sliceHi,slicePure,lenPure,minPure,maxPure,buildP,resK,endV,yieldE,↓reduceIte,Nat.reduceEqDiff,reduceCtorEq,Nat.reduceAdd,Nat.reduceMul,Nat.reduceSub,Int.reduceLT,Int.reduceLE,Int.reduceToNat,Int.reduceAdd,Int.reduceSub,Int.reduceMul,ne_eq,decide_true,decide_false,tf76, he0, dz, a0, a1, b1, a2, b2, undef]
        exact h
      · rw [if_neg c2] at h
        try simp -dsimp only [↓RE,↓c_seq,RU,RL,if_true,if_false,forall_const,implies_true,Nat.reduceLeDiff,Nat.reduceLT,pureOp,binPure,intBin,strBin,eqPure,isConstO,unPure,sliceLo,sliceHi,slicePure,lenPure,minPure,maxPure,buildP,resK,endV,yieldE,↓reduceIte,Nat.reduceEqDiff,reduceCtorEq,Nat.reduceAdd,Nat.reduceMul,Nat.reduceSub,Int.reduceLT,Int.reduceLE,Int.reduceToNat,Int.reduceAdd,Int.reduceSub,Int.reduceMul,ne_eq,decide_true,decide_false,tf76, he0, dz, a0, a1, b1, a2, undef]
        exact h
      · rw [if_neg c2] at h
        try simp -dsimp only [↓RE,↓c_seq,RU,RL,if_true,if_false,forall_const,implies_true,Nat.reduceLeDiff,Nat.reduceLT,pureOp,binPure,intBin,strBin,eqPure,isConstO,unPure,sliceLo,sliceHi,slicePure,lenPure,minPure,maxPure,buildP,resK,endV,yieldE,↓reduceIte,Nat.reduceEqDiff,reduceCtorEq,Nat.reduceAdd,Nat.reduceMul,Nat.reduceSub,Int.reduceLT,Int.reduceLE,Int.reduceToNat,Int.reduceAdd,Int.reduceSub,Int.reduceMul,ne_eq,decide_true,decide_false,tf76, he0, dz, a0, a1, b1, a2, b2, undef]
        exact h
  · rw [if_neg c0] at h
    rcases two (-255) 256 with ⟨a1, b1, c1⟩ | ⟨a1, c1⟩ | ⟨a1, b1, c1⟩
    · rw [if_pos c1] at h
      try simp -dsimp only [↓RE,↓c_seq,RU,RL,if_true,if_false,forall_const,implies_true,Nat.reduceLeDiff,Nat.reduceLT,pureOp,binPure,intBin,strBin,eqPure,isConstO,unPure,sliceLo,sliceHi,slicePure,lenPure,minPure,maxPure,buildP,resK,endV,yieldE,↓reduceIte,Nat.reduceEqDiff,reduceCtorEq,Nat.reduceAdd,Nat.reduceMul,Nat.reduceSub,Int.reduceLT,Int.reduceLE,Int.reduceToNat,Int.reduceAdd,Int.reduceSub,Int.reduceMul,ne_eq,decide_true,decide_false,tf76, he0, dz, a0, b0, a1, b1, undef]
      exact h
    · rw [if_neg c1] at h
      rcases two (-2047) 2048 with ⟨a2, b2, c2⟩ | ⟨a2, c2⟩ | ⟨a2, b2, c2⟩
      · rw [if_pos c2] at h
        try simp -dsimp only [↓RE,↓c_seq,RU,RL,if_true,if_false,forall_const,implies_true,Nat.reduceLeDiff,Nat.reduceLT,pureOp,binPure,intBin,strBin,eqPure,isConstO,unPure,sliceLo,sliceHi,slicePure,lenPure,minPure,maxPure,buildP,resK,endV,yieldE,↓reduceIte,Nat.reduceEqDiff,reduceCtorEq,Nat.reduceAdd,Nat.reduceMul,Nat.reduceSub,Int.reduceLT,Int.reduceLE,Int.reduceToNat,Int.reduceAdd,Int.reduceSub,Int.reduceMul,ne_eq,decide_true,decide_false,tf76, he0, dz, a0, b0, a1, a2, b2, undef]
        exact h
      · rw [if_neg c2] at h
        try simp -dsimp only [↓RE,↓c_seq,RU,RL,if_true,if_false,forall_const,implies_true,Nat.reduceLeDiff,Nat.reduceLT,pureOp,binPure,intBin,strBin,eqPure,isConstO,unPure,sliceLo,sliceHi,slicePure,lenPure,minPure,maxPure,buildP,resK,endV,yieldE,↓reduceIte,Nat.reduceEqDiff,reduceCtorEq,Nat.reduceAdd,Nat.reduceMul,Nat.reduceSub,Int.reduceLT,Int.reduceLE,Int.reduceToNat,Int.reduceAdd,Int.reduceSub,Int.reduceMul,ne_eq,decide_true,decide_false,tf76, he0, dz, a0, b0, a1, a2, undef]
        exact h
      · rw [if_neg c2] at h
        try simp -dsimp only [↓RE,↓c_seq,RU,RL,if_true,if_false,forall_const,implies_true,Nat.reduceLeDiff,Nat.reduceLT,pureOp,binPure,intBin,strBin,eqPure,isConstO,unPure,sliceLo,sliceHi,slicePure,lenPure,minPure,maxPure,buildP,resK,endV,yieldE,↓reduceIte,Nat.reduceEqDiff,reduceCtorEq,Nat.reduceAdd,Nat.reduceMul,Nat.reduceSub,Int.reduceLT,Int.reduceLE,Int.reduceToNat,Int.reduceAdd,Int.reduceSub,Int.reduceMul,ne_eq,decide_true,decide_false,tf76, he0, dz, a0, b0, a1, a2, b2, undef]
        exact h
    · rw [if_neg c1] at h
      rcases two (-2047) 2048 with ⟨a2, b2, c2⟩ | ⟨a2, c2⟩ | ⟨a2, b2, c2⟩
      · rw [if_pos c2] at h
        try simp -dsimp only [↓RE,↓c_seq,RU,RL,if_true,if_false,forall_const,implies_true,Nat.reduceLeDiff,Nat.reduceLT,pureOp,binPure,intBin,strBin,eqPure,isConstO,unPure,sliceLo,sliceHi,slicePure,lenPure,minPure,maxPure,buildP,resK,endV,yieldE,↓reduceIte,Nat.reduceEqDiff,reduceCtorEq,Nat.reduceAdd,Nat.reduceMul,Nat.reduceSub,Int.reduceLT,Int.reduceLE,Int.reduceToNat,Int.reduceAdd,Int.reduceSub,Int.reduceMul,ne_eq,decide_true,decide_false,tf76, he0, dz, a0, b0, a1, b1, a2, b2, undef]
        exact h
      · rw [if_neg c2] at h
        try simp -dsimp only [↓RE,↓c_seq,RU,RL,if_true,if_false,forall_const,implies_true,Nat.reduceLeDiff,Nat.reduceLT,pureOp,binPure,intBin,strBin,eqPure,isConstO,unPure,sliceLo,sliceHi,slicePure,lenPure,minPure,maxPure,buildP,resK,endV,yieldE,↓reduceIte,Nat.reduceEqDiff,reduceCtorEq,Nat.reduceAdd,Nat.reduceMul,Nat.reduceSub,Int.reduceLT,Int.reduceLE,Int.reduceToNat,Int.reduceAdd,Int.reduceSub,Int.reduceMul,ne_eq,decide_true,decide_false,tf76, he0, dz, a0, b0, a1, b1, a2, undef]
        exact h
      · rw [if_neg c2] at h
        try simp -dsimp only [↓RE,↓c_seq,RU,RL,if_true,if_false,forall_const,implies_true,Nat.reduceLeDiff,Nat.reduceLT,pureOp,binPure,intBin,strBin,eqPure,isConstO,unPure,sliceLo,sliceHi,slicePure,lenPure,minPure,maxPure,buildP,resK,endV,yieldE,↓reduceIte,Nat.reduceEqDiff,reduceCtorEq,Nat.reduceAdd,Nat.reduceMul,Nat.reduceSub,Int.reduceLT,Int.reduceLE,Int.reduceToNat,Int.reduceAdd,Int.reduceSub,Int.reduceMul,ne_eq,decide_true,decide_false,tf76, he0, dz, a0, b0, a1, b1, a2, b2, undef]
        exact h

theorem rises_ok {w : World} {A : Option Addr} {n c : Nat} {l : List Int} (hR : Rd w A n 1 (l.map (Value.int .i64))) (hn : n ≤ 140737488355328) {R : VWK}
    (hbad : ∀ i w', 0 < i → i < n → l.getD i 0 ≤ l.getD (i - 1) 0 → Grow w w' → R (.bool false) w') (h : ∀ w', Rises l n → Grow w w' → R (.bool true) w') :
    CallsV Tryz.prog 73 [.slice A n c] w R := by
  have hl := hR.len1
  refine calls_of_wpC mixed Tryz.func73 rfl (by kernel_rfl) ?_
  intro e he
  have he0 := he 0
  simp only [List.getD_cons_zero, List.getD_cons_succ] at he0
  clear he
  try simp -dsimp only [↓RE,↓c_seq,RU,RL,if_true,if_false,forall_const,implies_true,Nat.reduceLeDiff,Nat.reduceLT,pureOp,binPure,intBin,strBin,eqPure,isConstO,unPure,sliceLo,sliceHi,slicePure,lenPure,minPure,maxPure,buildP,resK,endV,yieldE,↓reduceIte,Nat.reduceEqDiff,reduceCtorEq,Nat.reduceAdd,Nat.reduceMul,Nat.reduceSub,Int.reduceLT,Int.reduceLE,Int.reduceToNat,Int.reduceAdd,Int.reduceSub,Int.reduceMul,ne_eq,decide_true,decide_false,tf73, he0]
  refine wpLoop_intro (fun e' w' => e' 0 = .slice A n c ∧ ∃ k : Nat, 0 < k ∧ e' 3 = .int .i64 k ∧ (k ≤ n ∨ k = 1) ∧ Rises l k ∧ Grow w w') (fun e' _ => n + 1 - (envInt (e' 3)).toNat) ⟨?_, 1, by omega, ?_, .inr rfl, fun i h0 h1 => absurd h0 (by omega), Keep.refl _ _⟩ ?_
  · simp -dsimp only [↓RE,↓c_seq,RU,RL,if_true,if_false,forall_const,implies_true,Nat.reduceLeDiff,Nat.reduceLT,pureOp,binPure,intBin,strBin,eqPure,isConstO,unPure,sliceLo,sliceHi,slicePure,lenPure,minPure,maxPure,buildP,resK,endV,yieldE,↓reduceIte,Nat.reduceEqDiff,reduceCtorEq,Nat.reduceAdd,Nat.reduceMul,Nat.reduceSub,Int.reduceLT,Int.reduceLE,Int.reduceToNat,Int.reduceAdd,Int.reduceSub,Int.reduceMul,ne_eq,decide_true,decide_false,tf73, he0]
  · simp -dsimp only [↓RE,↓c_seq,RU,RL,if_true,if_false,forall_const,implies_true,Nat.reduceLeDiff,Nat.reduceLT,pureOp,binPure,intBin,strBin,eqPure,isConstO,unPure,sliceLo,sliceHi,slicePure,lenPure,minPure,maxPure,buildP,resK,endV,yieldE,↓reduceIte,Nat.reduceEqDiff,reduceCtorEq,Nat.reduceAdd,Nat.reduceMul,Nat.reduceSub,Int.reduceLT,Int.reduceLE,Int.reduceToNat,Int.reduceAdd,Int.reduceSub,Int.reduceMul,ne_eq,decide_true,decide_false,tf73, he0, Int.cast_ofNat_Int]
  rintro e' w' ⟨h0, k, hk0, h3, hk, hrs, hg⟩
  try simp -dsimp only [↓RE,↓c_seq,RU,RL,if_true,if_false,forall_const,implies_true,Nat.reduceLeDiff,Nat.reduceLT,pureOp,binPure,intBin,strBin,eqPure,isConstO,unPure,sliceLo,sliceHi,slicePure,lenPure,minPure,maxPure,buildP,resK,endV,yieldE,↓reduceIte,Nat.reduceEqDiff,reduceCtorEq,Nat.reduceAdd,Nat.reduceMul,Nat.reduceSub,Int.reduceLT,Int.reduceLE,Int.reduceToNat,Int.reduceAdd,Int.reduceSub,Int.reduceMul,ne_eq,decide_true,decide_false,tf73, h0, h3]
  refine ⟨fun hlt => ?_, fun hge => ?_⟩
  · obtain ⟨ad, hAd, hca⟩ := (hR.grow hg).drew.int (k := k) (by omega)
    obtain ⟨ad', hAd', hcb⟩ := (hR.grow hg).drew.int (k := k - 1) (by omega)
    subst hAd
    injection hAd' with hAd'
    subst hAd'
    have w1 : IntKind.i64.wrap ((k : Int) - 1) = ((k - 1 : Nat) : Int) := by rw [wrap_i64_in (by omega) (by omega)]; omega
    try simp -dsimp only [↓RE,↓c_seq,RU,RL,if_true,if_false,forall_const,implies_true,Nat.reduceLeDiff,Nat.reduceLT,pureOp,binPure,intBin,strBin,eqPure,isConstO,unPure,sliceLo,sliceHi,slicePure,lenPure,minPure,maxPure,buildP,resK,endV,yieldE,↓reduceIte,Nat.reduceEqDiff,reduceCtorEq,Nat.reduceAdd,Nat.reduceMul,Nat.reduceSub,Int.reduceLT,Int.reduceLE,Int.reduceToNat,Int.reduceAdd,Int.reduceSub,Int.reduceMul,ne_eq,decide_true,decide_false,tf73, h0, h3]
    refine wpDraw_still (by kernel_rfl) ?_
    try simp -dsimp only [↓RE,↓c_seq,RU,RL,if_true,if_false,forall_const,implies_true,Nat.reduceLeDiff,Nat.reduceLT,pureOp,binPure,intBin,strBin,eqPure,isConstO,unPure,sliceLo,sliceHi,slicePure,lenPure,minPure,maxPure,buildP,resK,endV,yieldE,↓reduceIte,Nat.reduceEqDiff,reduceCtorEq,Nat.reduceAdd,Nat.reduceMul,Nat.reduceSub,Int.reduceLT,Int.reduceLE,Int.reduceToNat,Int.reduceAdd,Int.reduceSub,Int.reduceMul,ne_eq,decide_true,decide_false,tf73, h0, h3, w1, Int.toNat_natCast, hca, hcb]
    refine ⟨⟨by omega, by omega⟩, ?_⟩
    try simp -dsimp only [↓RE,↓c_seq,RU,RL,if_true,if_false,forall_const,implies_true,Nat.reduceLeDiff,Nat.reduceLT,pureOp,binPure,intBin,strBin,eqPure,isConstO,unPure,sliceLo,sliceHi,slicePure,lenPure,minPure,maxPure,buildP,resK,endV,yieldE,↓reduceIte,Nat.reduceEqDiff,reduceCtorEq,Nat.reduceAdd,Nat.reduceMul,Nat.reduceSub,Int.reduceLT,Int.reduceLE,Int.reduceToNat,Int.reduceAdd,Int.reduceSub,Int.reduceMul,ne_eq,decide_true,decide_false,tf73, h0, h3, w1, Int.toNat_natCast, hca, hcb]
    refine ⟨⟨by omega, by omega⟩, ?_⟩
    try simp -dsimp only [↓RE,↓c_seq,RU,RL,if_true,if_false,forall_const,implies_true,Nat.reduceLeDiff,Nat.reduceLT,pureOp,binPure,intBin,strBin,eqPure,isConstO,unPure,sliceLo,sliceHi,slicePure,lenPure,minPure,maxPure,buildP,resK,endV,yieldE,↓reduceIte,Nat.reduceEqDiff,reduceCtorEq,Nat.reduceAdd,Nat.reduceMul,Nat.reduceSub,Int.reduceLT,Int.reduceLE,Int.reduceToNat,Int.reduceAdd,Int.reduceSub,Int.reduceMul,ne_eq,decide_true,decide_false,tf73, h0, h3, w1, Int.toNat_natCast, hca, hcb]
    refine ⟨fun hb => ?_, fun hb => ?_⟩
    · try simp -dsimp only [↓RE,↓c_seq,RU,RL,if_true,if_false,forall_const,implies_true,Nat.reduceLeDiff,Nat.reduceLT,pureOp,binPure,intBin,strBin,eqPure,isConstO,unPure,sliceLo,sliceHi,slicePure,lenPure,minPure,maxPure,buildP,resK,endV,yieldE,↓reduceIte,Nat.reduceEqDiff,reduceCtorEq,Nat.reduceAdd,Nat.reduceMul,Nat.reduceSub,Int.reduceLT,Int.reduceLE,Int.reduceToNat,Int.reduceAdd,Int.reduceSub,Int.reduceMul,ne_eq,decide_true,decide_false,tf73, h0, h3]
      exact hbad k _ hk0 (by omega) hb (hg.trans (Grow.drew w'))
    · try simp -dsimp only [↓RE,↓c_seq,RU,RL,if_true,if_false,forall_const,implies_true,Nat.reduceLeDiff,Nat.reduceLT,pureOp,binPure,intBin,strBin,eqPure,isConstO,unPure,sliceLo,sliceHi,slicePure,lenPure,minPure,maxPure,buildP,resK,endV,yieldE,↓reduceIte,Nat.reduceEqDiff,reduceCtorEq,Nat.reduceAdd,Nat.reduceMul,Nat.reduceSub,Int.reduceLT,Int.reduceLE,Int.reduceToNat,Int.reduceAdd,Int.reduceSub,Int.reduceMul,ne_eq,decide_true,decide_false,tf73, h0, h3]
      refine hold_intro ⟨⟨?_, k + 1, by omega, ?_, by omega, fun i hi h0 => ?_, hg.trans (Grow.drew w')⟩, ?_⟩
      · simp -dsimp only [↓RE,↓c_seq,RU,RL,if_true,if_false,forall_const,implies_true,Nat.reduceLeDiff,Nat.reduceLT,pureOp,binPure,intBin,strBin,eqPure,isConstO,unPure,sliceLo,sliceHi,slicePure,lenPure,minPure,maxPure,buildP,resK,endV,yieldE,↓reduceIte,Nat.reduceEqDiff,reduceCtorEq,Nat.reduceAdd,Nat.reduceMul,Nat.reduceSub,Int.reduceLT,Int.reduceLE,Int.reduceToNat,Int.reduceAdd,Int.reduceSub,Int.reduceMul,ne_eq,decide_true,decide_false,tf73, h0]
      · simp -dsimp only [↓RE,↓c_seq,RU,RL,if_true,if_false,forall_const,implies_true,Nat.reduceLeDiff,Nat.reduceLT,pureOp,binPure,intBin,strBin,eqPure,isConstO,unPure,sliceLo,sliceHi,slicePure,lenPure,minPure,maxPure,buildP,resK,endV,yieldE,↓reduceIte,Nat.reduceEqDiff,reduceCtorEq,Nat.reduceAdd,Nat.reduceMul,Nat.reduceSub,Int.reduceLT,Int.reduceLE,Int.reduceToNat,Int.reduceAdd,Int.reduceSub,Int.reduceMul,ne_eq,decide_true,decide_false,tf73, h3]
        rw [wrap_i64_in (by omega) (by omega)]; rfl
      · by_cases ei : i = k
        · subst ei; omega
        · exact hrs i (by omega) h0
      · simp -dsimp only [↓RE,↓c_seq,RU,RL,if_true,if_false,forall_const,implies_true,Nat.reduceLeDiff,Nat.reduceLT,pureOp,binPure,intBin,strBin,eqPure,isConstO,unPure,sliceLo,sliceHi,slicePure,lenPure,minPure,maxPure,buildP,resK,endV,yieldE,↓reduceIte,Nat.reduceEqDiff,reduceCtorEq,Nat.reduceAdd,Nat.reduceMul,Nat.reduceSub,Int.reduceLT,Int.reduceLE,Int.reduceToNat,Int.reduceAdd,Int.reduceSub,Int.reduceMul,ne_eq,decide_true,decide_false,tf73, h3]
        rw [wrap_i64_in (by omega) (by omega), envInt_int, envInt_int]; omega
  · try simp -dsimp only [↓RE,↓c_seq,RU,RL,if_true,if_false,forall_const,implies_true,Nat.reduceLeDiff,Nat.reduceLT,pureOp,binPure,intBin,strBin,eqPure,isConstO,unPure,sliceLo,sliceHi,slicePure,lenPure,minPure,maxPure,buildP,resK,endV,yieldE,↓reduceIte,Nat.reduceEqDiff,reduceCtorEq,Nat.reduceAdd,Nat.reduceMul,Nat.reduceSub,Int.reduceLT,Int.reduceLE,Int.reduceToNat,Int.reduceAdd,Int.reduceSub,Int.reduceMul,ne_eq,decide_true,decide_false,tf73, h0, h3]
    refine h w' (fun i hi h0 => ?_) hg
    exact hrs i (by omega) h0

/-- the document's Writer at a block of its own, beside an error that is not set. -/
structure TI (w : World) (s1 : Nat) (q : List Int × Nat) (F : Nat → Prop) (w' : World) : Prop where
  at_ : WAt 134 w' F s1 q.1 q.2
  own : ∀ i, F i → s1 ≤ i
  grow : Grow w w'
  bad : Blk w' w.heap.size 31 [.int .i64 0, .int .i64 0, .int .i64 0, .bool false, .bool false]
  lt : w.heap.size < s1
theorem TI.size {w : World} {s1 : Nat} {q : List Int × Nat} {F : Nat → Prop} {w' : World} (h : TI w s1 q F w') : s1 < w'.heap.size := by
  obtain ⟨sv, hB, _⟩ := h.at_
  exact hB.lt
theorem TI.next {w : World} {s1 : Nat} {q q2 : List Int × Nat} {F F2 : Nat → Prop} {w' w2 : World} (h : TI w s1 q F w') (hS : Step F F2 w' w2) (hW : WAt 134 w2 F2 s1 q2.1 q2.2) : TI w s1 q2 F2 w2 := by
  have hs := h.size
  have hlt := h.lt
  exact ⟨hW, fun i hi => (hS.sub i hi).elim (h.own i) (fun h => by omega), h.grow.above hS.keep (fun i hi hf => absurd (h.own i hf) (by omega)), h.bad.keep hS.keep (fun hf => absurd (h.own _ hf) (by omega)), hlt⟩
theorem TI.grew {w : World} {s1 : Nat} {q : List Int × Nat} {F : Nat → Prop} {w' w2 : World} (h : TI w s1 q F w') (g : Grow w' w2) : TI w s1 q F w2 := ⟨h.at_.grow g, h.own, h.grow.trans g, h.bad.grow g, h.lt⟩

theorem rtimes_ok {w : World} {A : Option Addr} {n c : Nat} {l : List Int} (hR : Rd w A n 1 (l.map (Value.int .i64))) (hl0 : ∀ z ∈ l, -9223372036854775808 ≤ z ∧ z < 9223372036854775808) (hn : n ≤ 140737488355328) {R : VWK}
    (herr : ∀ er w', tErr l = some er → er ≠ 0 → Grow w w' → R (.tuple #[.slice none 0 0, BadV.v ⟨er, 0, 0, false, false⟩]) w')
    (h : tErr l = none → ∀ w' A' c', Rd w' A' (tW l n).1.length 1 ((tW l n).1.map (Value.int .u8)) → (∀ k, fpA A' k → w.heap.size ≤ k) → Grow w w' → R (.tuple #[.slice A' (tW l n).1.length c', BadV.none.v]) w') :
    CallsV Tryz.prog 48 [.slice A n c] w R := by
  have hl := hR.len1
  have hrg := i64_get hl0
  refine calls_of_wpC mixed Tryz.func48 rfl (by kernel_rfl) ?_
  intro e he
  have he0 := he 0
  simp only [List.getD_cons_zero, List.getD_cons_succ] at he0
  clear he
  rw [c_seq]
  simp -dsimp only [↓RE,RU,RL,if_true,if_false,forall_const,implies_true,Nat.reduceLeDiff,Nat.reduceLT,pureOp,binPure,intBin,strBin,eqPure,isConstO,unPure,sliceLo,sliceHi,slicePure,lenPure,minPure,maxPure,buildP,resK,endV,yieldE,↓reduceIte,Nat.reduceEqDiff,reduceCtorEq,Nat.reduceAdd,Nat.reduceMul,Nat.reduceSub,Int.reduceLT,Int.reduceLE,Int.reduceToNat,Int.reduceAdd,Int.reduceSub,Int.reduceMul,ne_eq,decide_true,decide_false,tf48, he0]
  have hz0 := Blk.new' w 31 #[.int .i64 0, .int .i64 0, .int .i64 0, .bool false, .bool false]
  have g0 := Grow.alloc w (.cells #[.int .i64 0, .int .i64 0, .int .i64 0, .bool false, .bool false] 31)
  generalize hw0 : w.alloc (.cells #[.int .i64 0, .int .i64 0, .int .i64 0, .bool false, .bool false] 31) = w0 at hz0 g0
  have put : ∀ {w' : World} {b : BadV} {K : WK} {tk : Tok K}, Grow w w' → Blk w' w.heap.size 31 [.int .i64 0, .int .i64 0, .int .i64 0, .bool false, .bool false] →
      (∀ w2, Blk w2 w.heap.size 31 b.cells → Keep (fun k => k = w.heap.size) w' w2 → Grow w w2 → K w2) → aggSt Tryz.prog w' ⟨w.heap.size, 0, none⟩ [.int .i64 b.code, .int .i64 b.at_, .int .i64 b.ins, .bool b.placed, .bool b.numbered] K tk := by
    intro w' b K tk g hB hk
    refine hB.stAgg (by simp) (by simp [Value.oneCell']) (fun w2 hB2 hK2 => hk w2 (by simpa [BadV.cells] using hB2) hK2 (g.above hK2 (fun i hi e => by omega)))
  try simp -dsimp only [↓RE,↓c_seq,RU,RL,if_true,if_false,forall_const,implies_true,Nat.reduceLeDiff,Nat.reduceLT,pureOp,binPure,intBin,strBin,eqPure,isConstO,unPure,sliceLo,sliceHi,slicePure,lenPure,minPure,maxPure,buildP,resK,endV,yieldE,↓reduceIte,Nat.reduceEqDiff,reduceCtorEq,Nat.reduceAdd,Nat.reduceMul,Nat.reduceSub,Int.reduceLT,Int.reduceLE,Int.reduceToNat,Int.reduceAdd,Int.reduceSub,Int.reduceMul,ne_eq,decide_true,decide_false,tf48, he0, hw0]
  refine ⟨fun hgt => ?_, fun hle => ?_⟩
  · try simp -dsimp only [↓RE,↓c_seq,RU,RL,if_true,if_false,forall_const,implies_true,Nat.reduceLeDiff,Nat.reduceLT,pureOp,binPure,intBin,strBin,eqPure,isConstO,unPure,sliceLo,sliceHi,slicePure,lenPure,minPure,maxPure,buildP,resK,endV,yieldE,↓reduceIte,Nat.reduceEqDiff,reduceCtorEq,Nat.reduceAdd,Nat.reduceMul,Nat.reduceSub,Int.reduceLT,Int.reduceLE,Int.reduceToNat,Int.reduceAdd,Int.reduceSub,Int.reduceMul,ne_eq,decide_true,decide_false,tf48, he0, hw0]
    refine rnew_ok (fun w1 g1 => ?_)
    try simp -dsimp only [↓RE,↓c_seq,RU,RL,if_true,if_false,forall_const,implies_true,Nat.reduceLeDiff,Nat.reduceLT,pureOp,binPure,intBin,strBin,eqPure,isConstO,unPure,sliceLo,sliceHi,slicePure,lenPure,minPure,maxPure,buildP,resK,endV,yieldE,↓reduceIte,Nat.reduceEqDiff,reduceCtorEq,Nat.reduceAdd,Nat.reduceMul,Nat.reduceSub,Int.reduceLT,Int.reduceLE,Int.reduceToNat,Int.reduceAdd,Int.reduceSub,Int.reduceMul,ne_eq,decide_true,decide_false,tf48, he0, BadV.v, BadV.cells]
    refine put (b := ⟨6, 0, 0, false, false⟩) (g0.trans g1) (hz0.grow g1) (fun w2 hB2 _ g2 => ?_)
    try simp -dsimp only [↓RE,↓c_seq,RU,RL,if_true,if_false,forall_const,implies_true,Nat.reduceLeDiff,Nat.reduceLT,pureOp,binPure,intBin,strBin,eqPure,isConstO,unPure,sliceLo,sliceHi,slicePure,lenPure,minPure,maxPure,buildP,resK,endV,yieldE,↓reduceIte,Nat.reduceEqDiff,reduceCtorEq,Nat.reduceAdd,Nat.reduceMul,Nat.reduceSub,Int.reduceLT,Int.reduceLE,Int.reduceToNat,Int.reduceAdd,Int.reduceSub,Int.reduceMul,ne_eq,decide_true,decide_false,tf48, he0]
    refine hB2.aggK (by simp [BadV.cells]) ?_
    try simp -dsimp only [↓RE,↓c_seq,RU,RL,if_true,if_false,forall_const,implies_true,Nat.reduceLeDiff,Nat.reduceLT,pureOp,binPure,intBin,strBin,eqPure,isConstO,unPure,sliceLo,sliceHi,slicePure,lenPure,minPure,maxPure,buildP,resK,endV,yieldE,↓reduceIte,Nat.reduceEqDiff,reduceCtorEq,Nat.reduceAdd,Nat.reduceMul,Nat.reduceSub,Int.reduceLT,Int.reduceLE,Int.reduceToNat,Int.reduceAdd,Int.reduceSub,Int.reduceMul,ne_eq,decide_true,decide_false,tf48, he0]
    exact herr 6 w2 (tErr_long (by omega)) (by decide) g2
  have hn2 : n ≤ 1048576 := by omega
  try simp -dsimp only [↓RE,↓c_seq,RU,RL,if_true,if_false,forall_const,implies_true,Nat.reduceLeDiff,Nat.reduceLT,pureOp,binPure,intBin,strBin,eqPure,isConstO,unPure,sliceLo,sliceHi,slicePure,lenPure,minPure,maxPure,buildP,resK,endV,yieldE,↓reduceIte,Nat.reduceEqDiff,reduceCtorEq,Nat.reduceAdd,Nat.reduceMul,Nat.reduceSub,Int.reduceLT,Int.reduceLE,Int.reduceToNat,Int.reduceAdd,Int.reduceSub,Int.reduceMul,ne_eq,decide_true,decide_false,tf48, he0, hw0]
  refine rises_ok (hR.grow g0) hn (fun i w1 hi0 hi1 hbad g1 => ?_) (fun w1 hrs g1 => ?_)
  · try simp -dsimp only [↓RE,↓c_seq,RU,RL,if_true,if_false,forall_const,implies_true,Nat.reduceLeDiff,Nat.reduceLT,pureOp,binPure,intBin,strBin,eqPure,isConstO,unPure,sliceLo,sliceHi,slicePure,lenPure,minPure,maxPure,buildP,resK,endV,yieldE,↓reduceIte,Nat.reduceEqDiff,reduceCtorEq,Nat.reduceAdd,Nat.reduceMul,Nat.reduceSub,Int.reduceLT,Int.reduceLE,Int.reduceToNat,Int.reduceAdd,Int.reduceSub,Int.reduceMul,ne_eq,decide_true,decide_false,tf48, he0]
    refine rnew_ok (fun w2 g2 => ?_)
    try simp -dsimp only [↓RE,↓c_seq,RU,RL,if_true,if_false,forall_const,implies_true,Nat.reduceLeDiff,Nat.reduceLT,pureOp,binPure,intBin,strBin,eqPure,isConstO,unPure,sliceLo,sliceHi,slicePure,lenPure,minPure,maxPure,buildP,resK,endV,yieldE,↓reduceIte,Nat.reduceEqDiff,reduceCtorEq,Nat.reduceAdd,Nat.reduceMul,Nat.reduceSub,Int.reduceLT,Int.reduceLE,Int.reduceToNat,Int.reduceAdd,Int.reduceSub,Int.reduceMul,ne_eq,decide_true,decide_false,tf48, he0, BadV.v, BadV.cells]
    refine put (b := ⟨2, 0, 0, false, false⟩) ((g0.trans g1).trans g2) ((hz0.grow g1).grow g2) (fun w3 hB3 _ g3 => ?_)
    try simp -dsimp only [↓RE,↓c_seq,RU,RL,if_true,if_false,forall_const,implies_true,Nat.reduceLeDiff,Nat.reduceLT,pureOp,binPure,intBin,strBin,eqPure,isConstO,unPure,sliceLo,sliceHi,slicePure,lenPure,minPure,maxPure,buildP,resK,endV,yieldE,↓reduceIte,Nat.reduceEqDiff,reduceCtorEq,Nat.reduceAdd,Nat.reduceMul,Nat.reduceSub,Int.reduceLT,Int.reduceLE,Int.reduceToNat,Int.reduceAdd,Int.reduceSub,Int.reduceMul,ne_eq,decide_true,decide_false,tf48, he0]
    refine hB3.aggK (by simp [BadV.cells]) ?_
    try simp -dsimp only [↓RE,↓c_seq,RU,RL,if_true,if_false,forall_const,implies_true,Nat.reduceLeDiff,Nat.reduceLT,pureOp,binPure,intBin,strBin,eqPure,isConstO,unPure,sliceLo,sliceHi,slicePure,lenPure,minPure,maxPure,buildP,resK,endV,yieldE,↓reduceIte,Nat.reduceEqDiff,reduceCtorEq,Nat.reduceAdd,Nat.reduceMul,Nat.reduceSub,Int.reduceLT,Int.reduceLE,Int.reduceToNat,Int.reduceAdd,Int.reduceSub,Int.reduceMul,ne_eq,decide_true,decide_false,tf48, he0]
    exact herr 2 w3 (tErr_fall (by omega) hi0 (by omega) hbad) (by decide) g3
  have hte : tErr l = none := tErr_rise (by omega) (by rw [hl]; exact hrs)
  have hz1 := hz0.grow g1
  have g01 := g0.trans g1
  have hs01 := g01.size
  have hzlt := hz1.lt
  have hBw := Blk.new' w1 134 #[.slice none 0 0, .int .i64 0]
  have gw := Grow.alloc w1 (.cells #[.slice none 0 0, .int .i64 0] 134)
  have hW0 : WAt 134 (w1.alloc (.cells #[.slice none 0 0, .int .i64 0] 134)) (fun k => k = w1.heap.size ∨ fpV (.slice none 0 0) k) w1.heap.size [] 0 := ⟨_, hBw, own_nil _ _ _, rfl⟩
  have hge : ∀ k, (k = w1.heap.size ∨ fpV (.slice none 0 0) k) → w1.heap.size ≤ k := by
    rintro k (rfl | hk)
    · exact Nat.le_refl _
    · exact absurd hk (fpV_none _)
  have q0 : IntKind.u64.wrap (n : Int) = (n : Int) := by rw [wrap_u64]; omega
  simp -dsimp only [↓RE,RU,RL,if_true,if_false,forall_const,implies_true,Nat.reduceLeDiff,Nat.reduceLT,pureOp,binPure,intBin,strBin,eqPure,isConstO,unPure,sliceLo,sliceHi,slicePure,lenPure,minPure,maxPure,buildP,resK,endV,yieldE,↓reduceIte,Nat.reduceEqDiff,reduceCtorEq,Nat.reduceAdd,Nat.reduceMul,Nat.reduceSub,Int.reduceLT,Int.reduceLE,Int.reduceToNat,Int.reduceAdd,Int.reduceSub,Int.reduceMul,ne_eq,decide_true,decide_false,tf48, he0, q0]
  rw [c_seq]
  simp -dsimp only [↓RE,RU,RL,if_true,if_false,forall_const,implies_true,Nat.reduceLeDiff,Nat.reduceLT,pureOp,binPure,intBin,strBin,eqPure,isConstO,unPure,sliceLo,sliceHi,slicePure,lenPure,minPure,maxPure,buildP,resK,endV,yieldE,↓reduceIte,Nat.reduceEqDiff,reduceCtorEq,Nat.reduceAdd,Nat.reduceMul,Nat.reduceSub,Int.reduceLT,Int.reduceLE,Int.reduceToNat,Int.reduceAdd,Int.reduceSub,Int.reduceMul,ne_eq,decide_true,decide_false,tf48, he0, q0]
  rw [c_seq]
  simp -dsimp only [↓RE,RU,RL,if_true,if_false,forall_const,implies_true,Nat.reduceLeDiff,Nat.reduceLT,pureOp,binPure,intBin,strBin,eqPure,isConstO,unPure,sliceLo,sliceHi,slicePure,lenPure,minPure,maxPure,buildP,resK,endV,yieldE,↓reduceIte,Nat.reduceEqDiff,reduceCtorEq,Nat.reduceAdd,Nat.reduceMul,Nat.reduceSub,Int.reduceLT,Int.reduceLE,Int.reduceToNat,Int.reduceAdd,Int.reduceSub,Int.reduceMul,ne_eq,decide_true,decide_false,tf48, he0, q0]
  refine ruint_ok (v := (n : Int)) hW0 (by omega) (by omega) (by simp) (fun w2 F2 hW2 hS2 => ?_)
  have hT2 : TI w w1.heap.size (tW l 0) F2 w2 := by
    have hT : TI w w1.heap.size ([], 0) _ _ := ⟨hW0, hge, g01.trans gw, hz1.grow gw, hzlt⟩
    refine hT.next hS2 ?_
    simpa [tW, hl] using hW2
  have hlen := fun k => tW_len (l := l) (by omega) hl0 k
  have hz := hrg 0
  simp -dsimp only [↓RE,RU,RL,if_true,if_false,forall_const,implies_true,Nat.reduceLeDiff,Nat.reduceLT,pureOp,binPure,intBin,strBin,eqPure,isConstO,unPure,sliceLo,sliceHi,slicePure,lenPure,minPure,maxPure,buildP,resK,endV,yieldE,↓reduceIte,Nat.reduceEqDiff,reduceCtorEq,Nat.reduceAdd,Nat.reduceMul,Nat.reduceSub,Int.reduceLT,Int.reduceLE,Int.reduceToNat,Int.reduceAdd,Int.reduceSub,Int.reduceMul,ne_eq,decide_true,decide_false,tf48, he0]
  refine c_seq_cut (fun e' w' => e' 0 = .slice A n c ∧ e' 3 = .pointer (some ⟨w.heap.size, 0, none⟩) ∧ e' 4 = .pointer (some ⟨w1.heap.size, 0, none⟩) ∧ ∃ F, TI w w1.heap.size (tW l (min n 1)) F w') ?_ ?_
  · try simp -dsimp only [↓RE,↓c_seq,RU,RL,if_true,if_false,forall_const,implies_true,Nat.reduceLeDiff,Nat.reduceLT,pureOp,binPure,intBin,strBin,eqPure,isConstO,unPure,sliceLo,sliceHi,slicePure,lenPure,minPure,maxPure,buildP,resK,endV,yieldE,↓reduceIte,Nat.reduceEqDiff,reduceCtorEq,Nat.reduceAdd,Nat.reduceMul,Nat.reduceSub,Int.reduceLT,Int.reduceLE,Int.reduceToNat,Int.reduceAdd,Int.reduceSub,Int.reduceMul,ne_eq,decide_true,decide_false,tf48, he0]
    refine ⟨fun hpos => ?_, fun hneg => ?_⟩
    · obtain ⟨ad, hAd, hca⟩ := (hR.grow hT2.grow).int (k := 0) (by omega)
      subst hAd
      rw [add_zero'] at hca
      have hl0' := hlen 0
      try simp -dsimp only [↓RE,↓c_seq,RU,RL,if_true,if_false,forall_const,implies_true,Nat.reduceLeDiff,Nat.reduceLT,pureOp,binPure,intBin,strBin,eqPure,isConstO,unPure,sliceLo,sliceHi,slicePure,lenPure,minPure,maxPure,buildP,resK,endV,yieldE,↓reduceIte,Nat.reduceEqDiff,reduceCtorEq,Nat.reduceAdd,Nat.reduceMul,Nat.reduceSub,Int.reduceLT,Int.reduceLE,Int.reduceToNat,Int.reduceAdd,Int.reduceSub,Int.reduceMul,ne_eq,decide_true,decide_false,tf48, he0]
      refine ⟨by omega, ?_⟩
      try simp -dsimp only [↓RE,↓c_seq,RU,RL,if_true,if_false,forall_const,implies_true,Nat.reduceLeDiff,Nat.reduceLT,pureOp,binPure,intBin,strBin,eqPure,isConstO,unPure,sliceLo,sliceHi,slicePure,lenPure,minPure,maxPure,buildP,resK,endV,yieldE,↓reduceIte,Nat.reduceEqDiff,reduceCtorEq,Nat.reduceAdd,Nat.reduceMul,Nat.reduceSub,Int.reduceLT,Int.reduceLE,Int.reduceToNat,Int.reduceAdd,Int.reduceSub,Int.reduceMul,ne_eq,decide_true,decide_false,tf48, he0, hca, add_zero']
      refine rint_ok hT2.at_ hz.1 hz.2 (by omega) (fun w3 F3 hW3 hS3 => ?_)
      try simp -dsimp only [↓RE,↓c_seq,RU,RL,if_true,if_false,forall_const,implies_true,Nat.reduceLeDiff,Nat.reduceLT,pureOp,binPure,intBin,strBin,eqPure,isConstO,unPure,sliceLo,sliceHi,slicePure,lenPure,minPure,maxPure,buildP,resK,endV,yieldE,↓reduceIte,Nat.reduceEqDiff,reduceCtorEq,Nat.reduceAdd,Nat.reduceMul,Nat.reduceSub,Int.reduceLT,Int.reduceLE,Int.reduceToNat,Int.reduceAdd,Int.reduceSub,Int.reduceMul,ne_eq,decide_true,decide_false,tf48, he0]
      refine hold_intro ⟨?_, ?_, ?_, F3, hT2.next hS3 (by rw [show min n 1 = 1 by omega]; simpa [tW] using hW3)⟩ <;> simp -dsimp only [↓RE,↓c_seq,RU,RL,if_true,if_false,forall_const,implies_true,Nat.reduceLeDiff,Nat.reduceLT,pureOp,binPure,intBin,strBin,eqPure,isConstO,unPure,sliceLo,sliceHi,slicePure,lenPure,minPure,maxPure,buildP,resK,endV,yieldE,↓reduceIte,Nat.reduceEqDiff,reduceCtorEq,Nat.reduceAdd,Nat.reduceMul,Nat.reduceSub,Int.reduceLT,Int.reduceLE,Int.reduceToNat,Int.reduceAdd,Int.reduceSub,Int.reduceMul,ne_eq,decide_true,decide_false,tf48, he0]
    · try simp -dsimp only [↓RE,↓c_seq,RU,RL,if_true,if_false,forall_const,implies_true,Nat.reduceLeDiff,Nat.reduceLT,pureOp,binPure,intBin,strBin,eqPure,isConstO,unPure,sliceLo,sliceHi,slicePure,lenPure,minPure,maxPure,buildP,resK,endV,yieldE,↓reduceIte,Nat.reduceEqDiff,reduceCtorEq,Nat.reduceAdd,Nat.reduceMul,Nat.reduceSub,Int.reduceLT,Int.reduceLE,Int.reduceToNat,Int.reduceAdd,Int.reduceSub,Int.reduceMul,ne_eq,decide_true,decide_false,tf48, he0]
      refine hold_intro ⟨?_, ?_, ?_, F2, by rw [show min n 1 = 0 by omega]; exact hT2⟩ <;> simp -dsimp only [↓RE,↓c_seq,RU,RL,if_true,if_false,forall_const,implies_true,Nat.reduceLeDiff,Nat.reduceLT,pureOp,binPure,intBin,strBin,eqPure,isConstO,unPure,sliceLo,sliceHi,slicePure,lenPure,minPure,maxPure,buildP,resK,endV,yieldE,↓reduceIte,Nat.reduceEqDiff,reduceCtorEq,Nat.reduceAdd,Nat.reduceMul,Nat.reduceSub,Int.reduceLT,Int.reduceLE,Int.reduceToNat,Int.reduceAdd,Int.reduceSub,Int.reduceMul,ne_eq,decide_true,decide_false,tf48, he0]
  rintro e w3 ⟨he0, he3, he4, F3, hT3⟩
  refine c_seq_cut (fun e' w' => e' 0 = .slice A n c ∧ e' 3 = .pointer (some ⟨w.heap.size, 0, none⟩) ∧ e' 4 = .pointer (some ⟨w1.heap.size, 0, none⟩) ∧ ∃ F, TI w w1.heap.size (tW l (min n 2)) F w') ?_ ?_
  · try simp -dsimp only [↓RE,↓c_seq,RU,RL,if_true,if_false,forall_const,implies_true,Nat.reduceLeDiff,Nat.reduceLT,pureOp,binPure,intBin,strBin,eqPure,isConstO,unPure,sliceLo,sliceHi,slicePure,lenPure,minPure,maxPure,buildP,resK,endV,yieldE,↓reduceIte,Nat.reduceEqDiff,reduceCtorEq,Nat.reduceAdd,Nat.reduceMul,Nat.reduceSub,Int.reduceLT,Int.reduceLE,Int.reduceToNat,Int.reduceAdd,Int.reduceSub,Int.reduceMul,ne_eq,decide_true,decide_false,tf48, he0, he3, he4]
    refine ⟨fun hpos => ?_, fun hneg => ?_⟩
    · obtain ⟨ad, hAd, hca⟩ := (hR.grow (hT3.grow.trans (Grow.drew w3))).int (k := 1) (by omega)
      obtain ⟨ad', hAd', hcb⟩ := (hR.grow (hT3.grow.trans (Grow.drew w3))).int (k := 0) (by omega)
      subst hAd
      injection hAd' with hAd'
      subst hAd'
      rw [add_zero'] at hcb
      have hl1 := hlen 1
      have w2' : IntKind.u64.wrap (IntKind.u64.wrap (l.getD 1 0) - IntKind.u64.wrap (l.getD 0 0)) = (l.getD 1 0 - l.getD 0 0) % 18446744073709551616 := by rw [wrap_u64, wrap_u64, wrap_u64]; omega
      have hT3d := hT3.grew (Grow.drew w3)
      try simp -dsimp only [↓RE,↓c_seq,RU,RL,if_true,if_false,forall_const,implies_true,Nat.reduceLeDiff,Nat.reduceLT,pureOp,binPure,intBin,strBin,eqPure,isConstO,unPure,sliceLo,sliceHi,slicePure,lenPure,minPure,maxPure,buildP,resK,endV,yieldE,↓reduceIte,Nat.reduceEqDiff,reduceCtorEq,Nat.reduceAdd,Nat.reduceMul,Nat.reduceSub,Int.reduceLT,Int.reduceLE,Int.reduceToNat,Int.reduceAdd,Int.reduceSub,Int.reduceMul,ne_eq,decide_true,decide_false,tf48, he0, he3, he4]
      refine wpDraw_by (fun w' => w'.cell? (ad.add 1) = some (.int .i64 (l.getD 1 0)) ∧ w'.cell? ad = some (.int .i64 (l.getD 0 0))) [(0, true), (1, true), (2, true), (3, true), (4, true), (5, true), (6, true), (7, true), (8, true), (9, true), (10, false)] (by kernel_rfl) ⟨hca, hcb⟩ ?_
      simp only [planL, List.getElem?_toArray, List.getElem?_cons_zero, List.getElem?_cons_succ, Option.toList_some, List.map_cons, List.map_nil, List.cons_append, List.nil_append]
      try simp -dsimp only [↓RE,↓c_seq,RU,RL,if_true,if_false,forall_const,implies_true,Nat.reduceLeDiff,Nat.reduceLT,pureOp,binPure,intBin,strBin,eqPure,isConstO,unPure,sliceLo,sliceHi,slicePure,lenPure,minPure,maxPure,buildP,resK,endV,yieldE,↓reduceIte,Nat.reduceEqDiff,reduceCtorEq,Nat.reduceAdd,Nat.reduceMul,Nat.reduceSub,Int.reduceLT,Int.reduceLE,Int.reduceToNat,Int.reduceAdd,Int.reduceSub,Int.reduceMul,ne_eq,decide_true,decide_false,tf48, he0, he3, he4]
      refine ⟨by omega, ?_⟩
      try simp -dsimp only [↓RE,↓c_seq,RU,RL,if_true,if_false,forall_const,implies_true,Nat.reduceLeDiff,Nat.reduceLT,pureOp,binPure,intBin,strBin,eqPure,isConstO,unPure,sliceLo,sliceHi,slicePure,lenPure,minPure,maxPure,buildP,resK,endV,yieldE,↓reduceIte,Nat.reduceEqDiff,reduceCtorEq,Nat.reduceAdd,Nat.reduceMul,Nat.reduceSub,Int.reduceLT,Int.reduceLE,Int.reduceToNat,Int.reduceAdd,Int.reduceSub,Int.reduceMul,ne_eq,decide_true,decide_false,tf48, he0, he3, he4, Int.reduceToNat]
      refine ⟨_, fun w' hS => hS.1, ?_⟩
      try simp -dsimp only [↓RE,↓c_seq,RU,RL,if_true,if_false,forall_const,implies_true,Nat.reduceLeDiff,Nat.reduceLT,pureOp,binPure,intBin,strBin,eqPure,isConstO,unPure,sliceLo,sliceHi,slicePure,lenPure,minPure,maxPure,buildP,resK,endV,yieldE,↓reduceIte,Nat.reduceEqDiff,reduceCtorEq,Nat.reduceAdd,Nat.reduceMul,Nat.reduceSub,Int.reduceLT,Int.reduceLE,Int.reduceToNat,Int.reduceAdd,Int.reduceSub,Int.reduceMul,ne_eq,decide_true,decide_false,tf48, he0, he3, he4]
      refine ⟨by omega, ?_⟩
      try simp -dsimp only [↓RE,↓c_seq,RU,RL,if_true,if_false,forall_const,implies_true,Nat.reduceLeDiff,Nat.reduceLT,pureOp,binPure,intBin,strBin,eqPure,isConstO,unPure,sliceLo,sliceHi,slicePure,lenPure,minPure,maxPure,buildP,resK,endV,yieldE,↓reduceIte,Nat.reduceEqDiff,reduceCtorEq,Nat.reduceAdd,Nat.reduceMul,Nat.reduceSub,Int.reduceLT,Int.reduceLE,Int.reduceToNat,Int.reduceAdd,Int.reduceSub,Int.reduceMul,ne_eq,decide_true,decide_false,tf48, he0, he3, he4, add_zero']
      refine ⟨_, fun w' hS => hS.2, ?_⟩
      try simp -dsimp only [↓RE,↓c_seq,RU,RL,if_true,if_false,forall_const,implies_true,Nat.reduceLeDiff,Nat.reduceLT,pureOp,binPure,intBin,strBin,eqPure,isConstO,unPure,sliceLo,sliceHi,slicePure,lenPure,minPure,maxPure,buildP,resK,endV,yieldE,↓reduceIte,Nat.reduceEqDiff,reduceCtorEq,Nat.reduceAdd,Nat.reduceMul,Nat.reduceSub,Int.reduceLT,Int.reduceLE,Int.reduceToNat,Int.reduceAdd,Int.reduceSub,Int.reduceMul,ne_eq,decide_true,decide_false,tf48, he0, he3, he4, w2']
      refine ruint_ok (v := (l.getD 1 0 - l.getD 0 0) % 18446744073709551616) hT3d.at_ (by omega) (by omega) (by rw [show min n 1 = 1 by omega]; omega) (fun w4 F4 hW4 hS4 => ?_)
      have hT4 : TI w w1.heap.size (tW l (min n 2)) F4 w4 := hT3d.next hS4 (by rw [show min n 1 = 1 by omega] at hW4; rw [show min n 2 = 2 by omega]; exact hW4)
      obtain ⟨c1, hc1⟩ := (hR.grow hT4.grow).int (k := 1) (by omega)
      obtain ⟨c2, hc2⟩ := (hR.grow hT4.grow).int (k := 0) (by omega)
      have hc1' := hc1.1; injection hc1' with hc1'; subst hc1'
      have hc2' := hc2.1; injection hc2' with hc2'; subst hc2'
      have hc2e := hc2.2
      rw [add_zero'] at hc2e
      try simp -dsimp only [↓RE,↓c_seq,RU,RL,if_true,if_false,forall_const,implies_true,Nat.reduceLeDiff,Nat.reduceLT,pureOp,binPure,intBin,strBin,eqPure,isConstO,unPure,sliceLo,sliceHi,slicePure,lenPure,minPure,maxPure,buildP,resK,endV,yieldE,↓reduceIte,Nat.reduceEqDiff,reduceCtorEq,Nat.reduceAdd,Nat.reduceMul,Nat.reduceSub,Int.reduceLT,Int.reduceLE,Int.reduceToNat,Int.reduceAdd,Int.reduceSub,Int.reduceMul,ne_eq,decide_true,decide_false,tf48, he0, he3, he4]
      refine ⟨⟨hc1.2, hc2e⟩, hold_intro ⟨?_, ?_, ?_, F4, hT4⟩⟩ <;> simp -dsimp only [↓RE,↓c_seq,RU,RL,if_true,if_false,forall_const,implies_true,Nat.reduceLeDiff,Nat.reduceLT,pureOp,binPure,intBin,strBin,eqPure,isConstO,unPure,sliceLo,sliceHi,slicePure,lenPure,minPure,maxPure,buildP,resK,endV,yieldE,↓reduceIte,Nat.reduceEqDiff,reduceCtorEq,Nat.reduceAdd,Nat.reduceMul,Nat.reduceSub,Int.reduceLT,Int.reduceLE,Int.reduceToNat,Int.reduceAdd,Int.reduceSub,Int.reduceMul,ne_eq,decide_true,decide_false,tf48, he0, he3, he4]
    · try simp -dsimp only [↓RE,↓c_seq,RU,RL,if_true,if_false,forall_const,implies_true,Nat.reduceLeDiff,Nat.reduceLT,pureOp,binPure,intBin,strBin,eqPure,isConstO,unPure,sliceLo,sliceHi,slicePure,lenPure,minPure,maxPure,buildP,resK,endV,yieldE,↓reduceIte,Nat.reduceEqDiff,reduceCtorEq,Nat.reduceAdd,Nat.reduceMul,Nat.reduceSub,Int.reduceLT,Int.reduceLE,Int.reduceToNat,Int.reduceAdd,Int.reduceSub,Int.reduceMul,ne_eq,decide_true,decide_false,tf48, he0, he3, he4]
      refine hold_intro ⟨?_, ?_, ?_, F3, by rw [show min n 2 = min n 1 by omega]; exact hT3⟩ <;> simp -dsimp only [↓RE,↓c_seq,RU,RL,if_true,if_false,forall_const,implies_true,Nat.reduceLeDiff,Nat.reduceLT,pureOp,binPure,intBin,strBin,eqPure,isConstO,unPure,sliceLo,sliceHi,slicePure,lenPure,minPure,maxPure,buildP,resK,endV,yieldE,↓reduceIte,Nat.reduceEqDiff,reduceCtorEq,Nat.reduceAdd,Nat.reduceMul,Nat.reduceSub,Int.reduceLT,Int.reduceLE,Int.reduceToNat,Int.reduceAdd,Int.reduceSub,Int.reduceMul,ne_eq,decide_true,decide_false,tf48, he0, he3, he4]
  rintro e w4 ⟨he0, he3, he4, F4, hT4⟩
  try simp -dsimp only [↓RE,↓c_seq,RU,RL,if_true,if_false,forall_const,implies_true,Nat.reduceLeDiff,Nat.reduceLT,pureOp,binPure,intBin,strBin,eqPure,isConstO,unPure,sliceLo,sliceHi,slicePure,lenPure,minPure,maxPure,buildP,resK,endV,yieldE,↓reduceIte,Nat.reduceEqDiff,reduceCtorEq,Nat.reduceAdd,Nat.reduceMul,Nat.reduceSub,Int.reduceLT,Int.reduceLE,Int.reduceToNat,Int.reduceAdd,Int.reduceSub,Int.reduceMul,ne_eq,decide_true,decide_false,tf48, he0, he3, he4]
  refine wpLoop_intro (fun e' w' => e' 0 = .slice A n c ∧ e' 3 = .pointer (some ⟨w.heap.size, 0, none⟩) ∧ e' 4 = .pointer (some ⟨w1.heap.size, 0, none⟩) ∧ ∃ (k : Nat) (F : Nat → Prop), 2 ≤ k ∧ (k ≤ n ∨ k = 2) ∧ e' 5 = .int .i64 k ∧ TI w w1.heap.size (tW l (min n k)) F w')
    (fun e' _ => n + 2 - (envInt (e' 5)).toNat) ⟨?_, ?_, ?_, 2, F4, by omega, .inr rfl, ?_, hT4⟩ ?_
  · simp -dsimp only [↓RE,↓c_seq,RU,RL,if_true,if_false,forall_const,implies_true,Nat.reduceLeDiff,Nat.reduceLT,pureOp,binPure,intBin,strBin,eqPure,isConstO,unPure,sliceLo,sliceHi,slicePure,lenPure,minPure,maxPure,buildP,resK,endV,yieldE,↓reduceIte,Nat.reduceEqDiff,reduceCtorEq,Nat.reduceAdd,Nat.reduceMul,Nat.reduceSub,Int.reduceLT,Int.reduceLE,Int.reduceToNat,Int.reduceAdd,Int.reduceSub,Int.reduceMul,ne_eq,decide_true,decide_false,tf48, he0]
  · simp -dsimp only [↓RE,↓c_seq,RU,RL,if_true,if_false,forall_const,implies_true,Nat.reduceLeDiff,Nat.reduceLT,pureOp,binPure,intBin,strBin,eqPure,isConstO,unPure,sliceLo,sliceHi,slicePure,lenPure,minPure,maxPure,buildP,resK,endV,yieldE,↓reduceIte,Nat.reduceEqDiff,reduceCtorEq,Nat.reduceAdd,Nat.reduceMul,Nat.reduceSub,Int.reduceLT,Int.reduceLE,Int.reduceToNat,Int.reduceAdd,Int.reduceSub,Int.reduceMul,ne_eq,decide_true,decide_false,tf48, he3]
  · simp -dsimp only [↓RE,↓c_seq,RU,RL,if_true,if_false,forall_const,implies_true,Nat.reduceLeDiff,Nat.reduceLT,pureOp,binPure,intBin,strBin,eqPure,isConstO,unPure,sliceLo,sliceHi,slicePure,lenPure,minPure,maxPure,buildP,resK,endV,yieldE,↓reduceIte,Nat.reduceEqDiff,reduceCtorEq,Nat.reduceAdd,Nat.reduceMul,Nat.reduceSub,Int.reduceLT,Int.reduceLE,Int.reduceToNat,Int.reduceAdd,Int.reduceSub,Int.reduceMul,ne_eq,decide_true,decide_false,tf48, he4]
  · simp -dsimp only [↓RE,↓c_seq,RU,RL,if_true,if_false,forall_const,implies_true,Nat.reduceLeDiff,Nat.reduceLT,pureOp,binPure,intBin,strBin,eqPure,isConstO,unPure,sliceLo,sliceHi,slicePure,lenPure,minPure,maxPure,buildP,resK,endV,yieldE,↓reduceIte,Nat.reduceEqDiff,reduceCtorEq,Nat.reduceAdd,Nat.reduceMul,Nat.reduceSub,Int.reduceLT,Int.reduceLE,Int.reduceToNat,Int.reduceAdd,Int.reduceSub,Int.reduceMul,ne_eq,decide_true,decide_false,tf48, he0, Int.cast_ofNat_Int]
  rintro e' w' ⟨h0, h3, h4, k, F, hk2, hk, h5, hT⟩
  try simp -dsimp only [↓RE,↓c_seq,RU,RL,if_true,if_false,forall_const,implies_true,Nat.reduceLeDiff,Nat.reduceLT,pureOp,binPure,intBin,strBin,eqPure,isConstO,unPure,sliceLo,sliceHi,slicePure,lenPure,minPure,maxPure,buildP,resK,endV,yieldE,↓reduceIte,Nat.reduceEqDiff,reduceCtorEq,Nat.reduceAdd,Nat.reduceMul,Nat.reduceSub,Int.reduceLT,Int.reduceLE,Int.reduceToNat,Int.reduceAdd,Int.reduceSub,Int.reduceMul,ne_eq,decide_true,decide_false,tf48, h0, h3, h4, h5]
  refine ⟨fun hlt => ?_, fun hge => ?_⟩
  · rw [show min n k = k by omega] at hT
    have hTd := hT.grew (Grow.drew w')
    obtain ⟨ad, hAd, hca⟩ := (hR.grow hTd.grow).int (k := k) (by omega)
    obtain ⟨ad1, hAd1, hcb⟩ := (hR.grow hTd.grow).int (k := k - 1) (by omega)
    obtain ⟨ad2, hAd2, hcc⟩ := (hR.grow hTd.grow).int (k := k - 2) (by omega)
    subst hAd
    injection hAd1 with hAd1
    subst hAd1
    injection hAd2 with hAd2
    subst hAd2
    have z0 := hrg k
    have z1 := hrg (k - 1)
    have z2 := hrg (k - 2)
    have hlk := hlen k
    have v1 : IntKind.i64.wrap ((k : Int) - 1) = ((k - 1 : Nat) : Int) := by rw [wrap_i64_in (by omega) (by omega)]; omega
    have v2 : IntKind.i64.wrap ((k : Int) - 2) = ((k - 2 : Nat) : Int) := by rw [wrap_i64_in (by omega) (by omega)]; omega
    have v3 : IntKind.i64.wrap (IntKind.u64.wrap (IntKind.u64.wrap (IntKind.u64.wrap (l.getD k 0) - IntKind.u64.wrap (l.getD (k - 1) 0)) - IntKind.u64.wrap (IntKind.u64.wrap (l.getD (k - 1) 0) - IntKind.u64.wrap (l.getD (k - 2) 0)))) = tD l k := by
      unfold tD
      simp only [wrap_u64, wrap_i64]
      omega
    have htd : -9223372036854775808 ≤ tD l k ∧ tD l k < 9223372036854775808 := by unfold tD; rw [wrap_i64]; omega
    have hcr := cls_range (tD l k)
    have hcd := cls_dput htd.1 htd.2 (tW l k)
    try simp -dsimp only [↓RE,↓c_seq,RU,RL,if_true,if_false,forall_const,implies_true,Nat.reduceLeDiff,Nat.reduceLT,pureOp,binPure,intBin,strBin,eqPure,isConstO,unPure,sliceLo,sliceHi,slicePure,lenPure,minPure,maxPure,buildP,resK,endV,yieldE,↓reduceIte,Nat.reduceEqDiff,reduceCtorEq,Nat.reduceAdd,Nat.reduceMul,Nat.reduceSub,Int.reduceLT,Int.reduceLE,Int.reduceToNat,Int.reduceAdd,Int.reduceSub,Int.reduceMul,ne_eq,decide_true,decide_false,tf48, h0, h3, h4, h5]
    refine wpDraw_still (by kernel_rfl) ?_
    try simp -dsimp only [↓RE,↓c_seq,RU,RL,if_true,if_false,forall_const,implies_true,Nat.reduceLeDiff,Nat.reduceLT,pureOp,binPure,intBin,strBin,eqPure,isConstO,unPure,sliceLo,sliceHi,slicePure,lenPure,minPure,maxPure,buildP,resK,endV,yieldE,↓reduceIte,Nat.reduceEqDiff,reduceCtorEq,Nat.reduceAdd,Nat.reduceMul,Nat.reduceSub,Int.reduceLT,Int.reduceLE,Int.reduceToNat,Int.reduceAdd,Int.reduceSub,Int.reduceMul,ne_eq,decide_true,decide_false,tf48, h0, h3, h4, h5, Int.toNat_natCast, hca]
    refine ⟨⟨by omega, by omega⟩, ?_⟩
    try simp -dsimp only [↓RE,↓c_seq,RU,RL,if_true,if_false,forall_const,implies_true,Nat.reduceLeDiff,Nat.reduceLT,pureOp,binPure,intBin,strBin,eqPure,isConstO,unPure,sliceLo,sliceHi,slicePure,lenPure,minPure,maxPure,buildP,resK,endV,yieldE,↓reduceIte,Nat.reduceEqDiff,reduceCtorEq,Nat.reduceAdd,Nat.reduceMul,Nat.reduceSub,Int.reduceLT,Int.reduceLE,Int.reduceToNat,Int.reduceAdd,Int.reduceSub,Int.reduceMul,ne_eq,decide_true,decide_false,tf48, h0, h3, h4, h5, Int.toNat_natCast, hca, v1, hcb]
    refine ⟨⟨by omega, by omega⟩, ?_⟩
    try simp -dsimp only [↓RE,↓c_seq,RU,RL,if_true,if_false,forall_const,implies_true,Nat.reduceLeDiff,Nat.reduceLT,pureOp,binPure,intBin,strBin,eqPure,isConstO,unPure,sliceLo,sliceHi,slicePure,lenPure,minPure,maxPure,buildP,resK,endV,yieldE,↓reduceIte,Nat.reduceEqDiff,reduceCtorEq,Nat.reduceAdd,Nat.reduceMul,Nat.reduceSub,Int.reduceLT,Int.reduceLE,Int.reduceToNat,Int.reduceAdd,Int.reduceSub,Int.reduceMul,ne_eq,decide_true,decide_false,tf48, h0, h3, h4, h5, Int.toNat_natCast, hca, v1, hcb]
    refine ⟨⟨by omega, by omega⟩, ?_⟩
    try simp -dsimp only [↓RE,↓c_seq,RU,RL,if_true,if_false,forall_const,implies_true,Nat.reduceLeDiff,Nat.reduceLT,pureOp,binPure,intBin,strBin,eqPure,isConstO,unPure,sliceLo,sliceHi,slicePure,lenPure,minPure,maxPure,buildP,resK,endV,yieldE,↓reduceIte,Nat.reduceEqDiff,reduceCtorEq,Nat.reduceAdd,Nat.reduceMul,Nat.reduceSub,Int.reduceLT,Int.reduceLE,Int.reduceToNat,Int.reduceAdd,Int.reduceSub,Int.reduceMul,ne_eq,decide_true,decide_false,tf48, h0, h3, h4, h5, Int.toNat_natCast, hca, v1, v2, hcb, hcc]
    refine ⟨⟨by omega, by omega⟩, ?_⟩
    try simp -dsimp only [↓RE,↓c_seq,RU,RL,if_true,if_false,forall_const,implies_true,Nat.reduceLeDiff,Nat.reduceLT,pureOp,binPure,intBin,strBin,eqPure,isConstO,unPure,sliceLo,sliceHi,slicePure,lenPure,minPure,maxPure,buildP,resK,endV,yieldE,↓reduceIte,Nat.reduceEqDiff,reduceCtorEq,Nat.reduceAdd,Nat.reduceMul,Nat.reduceSub,Int.reduceLT,Int.reduceLE,Int.reduceToNat,Int.reduceAdd,Int.reduceSub,Int.reduceMul,ne_eq,decide_true,decide_false,tf48, h0, h3, h4, h5, Int.toNat_natCast, hca, v1, v2, hcb, hcc, v3]
    refine class_ok (d := tD l k) ?_
    have hokk := tW_ok l k
    have v4 : 0 ≤ IntKind.u64.wrap (IntKind.i64.wrap (tD l k + (cls (tD l k)).2.2.1)) ∧ IntKind.u64.wrap (IntKind.i64.wrap (tD l k + (cls (tD l k)).2.2.1)) < 18446744073709551616 := by rw [wrap_u64]; omega
    have hsn : tW l (min n (k + 1)) = dput (tD l k) (tW l k) := by
      rw [show min n (k + 1) = k + 1 by omega]
      obtain ⟨j, rfl⟩ : ∃ j, k = j + 2 := ⟨k - 2, by omega⟩
      rfl
    try simp -dsimp only [↓RE,↓c_seq,RU,RL,if_true,if_false,forall_const,implies_true,Nat.reduceLeDiff,Nat.reduceLT,pureOp,binPure,intBin,strBin,eqPure,isConstO,unPure,sliceLo,sliceHi,slicePure,lenPure,minPure,maxPure,buildP,resK,endV,yieldE,↓reduceIte,Nat.reduceEqDiff,reduceCtorEq,Nat.reduceAdd,Nat.reduceMul,Nat.reduceSub,Int.reduceLT,Int.reduceLE,Int.reduceToNat,Int.reduceAdd,Int.reduceSub,Int.reduceMul,ne_eq,decide_true,decide_false,tf48, h0, h3, h4, h5, v3]
    refine rbits_ok (v := (cls (tD l k)).1) (n := (cls (tD l k)).2.1) hTd.at_ hokk hcr.1 (by omega) (by omega) (fun w5 F5 hW5 hS5 => ?_)
    have hT5 := hTd.next (q2 := pushBits (cls (tD l k)).1 (brought (cls (tD l k)).2.1) (tW l k)) hS5 hW5
    have hok5 := pushBits_ok (cls (tD l k)).1 (brought (cls (tD l k)).2.1) (tW l k) hokk
    have hl5 := pushBits_len (cls (tD l k)).1 (brought (cls (tD l k)).2.1) (tW l k)
    have hbr5 := brought_le (cls (tD l k)).2.1
    try simp -dsimp only [↓RE,↓c_seq,RU,RL,if_true,if_false,forall_const,implies_true,Nat.reduceLeDiff,Nat.reduceLT,pureOp,binPure,intBin,strBin,eqPure,isConstO,unPure,sliceLo,sliceHi,slicePure,lenPure,minPure,maxPure,buildP,resK,endV,yieldE,↓reduceIte,Nat.reduceEqDiff,reduceCtorEq,Nat.reduceAdd,Nat.reduceMul,Nat.reduceSub,Int.reduceLT,Int.reduceLE,Int.reduceToNat,Int.reduceAdd,Int.reduceSub,Int.reduceMul,ne_eq,decide_true,decide_false,tf48, h0, h3, h4, h5, v3]
    refine rbits_ok (v := IntKind.u64.wrap (IntKind.i64.wrap (tD l k + (cls (tD l k)).2.2.1))) (n := (cls (tD l k)).2.2.2) hT5.at_ hok5 v4.1 v4.2 (by omega) (fun w6 F6 hW6 hS6 => ?_)
    have hT6 := hT5.next (q2 := dput (tD l k) (tW l k)) hS6 (by rw [← hcd]; exact hW6)
    try simp -dsimp only [↓RE,↓c_seq,RU,RL,if_true,if_false,forall_const,implies_true,Nat.reduceLeDiff,Nat.reduceLT,pureOp,binPure,intBin,strBin,eqPure,isConstO,unPure,sliceLo,sliceHi,slicePure,lenPure,minPure,maxPure,buildP,resK,endV,yieldE,↓reduceIte,Nat.reduceEqDiff,reduceCtorEq,Nat.reduceAdd,Nat.reduceMul,Nat.reduceSub,Int.reduceLT,Int.reduceLE,Int.reduceToNat,Int.reduceAdd,Int.reduceSub,Int.reduceMul,ne_eq,decide_true,decide_false,tf48, h0, h3, h4, h5, v3]
    refine hold_intro ⟨⟨?_, ?_, ?_, k + 1, F6, by omega, by omega, ?_, by rw [hsn]; exact hT6⟩, ?_⟩
    · simp -dsimp only [↓RE,↓c_seq,RU,RL,if_true,if_false,forall_const,implies_true,Nat.reduceLeDiff,Nat.reduceLT,pureOp,binPure,intBin,strBin,eqPure,isConstO,unPure,sliceLo,sliceHi,slicePure,lenPure,minPure,maxPure,buildP,resK,endV,yieldE,↓reduceIte,Nat.reduceEqDiff,reduceCtorEq,Nat.reduceAdd,Nat.reduceMul,Nat.reduceSub,Int.reduceLT,Int.reduceLE,Int.reduceToNat,Int.reduceAdd,Int.reduceSub,Int.reduceMul,ne_eq,decide_true,decide_false,tf48, h0]
    · simp -dsimp only [↓RE,↓c_seq,RU,RL,if_true,if_false,forall_const,implies_true,Nat.reduceLeDiff,Nat.reduceLT,pureOp,binPure,intBin,strBin,eqPure,isConstO,unPure,sliceLo,sliceHi,slicePure,lenPure,minPure,maxPure,buildP,resK,endV,yieldE,↓reduceIte,Nat.reduceEqDiff,reduceCtorEq,Nat.reduceAdd,Nat.reduceMul,Nat.reduceSub,Int.reduceLT,Int.reduceLE,Int.reduceToNat,Int.reduceAdd,Int.reduceSub,Int.reduceMul,ne_eq,decide_true,decide_false,tf48, h3]
    · simp -dsimp only [↓RE,↓c_seq,RU,RL,if_true,if_false,forall_const,implies_true,Nat.reduceLeDiff,Nat.reduceLT,pureOp,binPure,intBin,strBin,eqPure,isConstO,unPure,sliceLo,sliceHi,slicePure,lenPure,minPure,maxPure,buildP,resK,endV,yieldE,↓reduceIte,Nat.reduceEqDiff,reduceCtorEq,Nat.reduceAdd,Nat.reduceMul,Nat.reduceSub,Int.reduceLT,Int.reduceLE,Int.reduceToNat,Int.reduceAdd,Int.reduceSub,Int.reduceMul,ne_eq,decide_true,decide_false,tf48, h4]
    · simp -dsimp only [↓RE,↓c_seq,RU,RL,if_true,if_false,forall_const,implies_true,Nat.reduceLeDiff,Nat.reduceLT,pureOp,binPure,intBin,strBin,eqPure,isConstO,unPure,sliceLo,sliceHi,slicePure,lenPure,minPure,maxPure,buildP,resK,endV,yieldE,↓reduceIte,Nat.reduceEqDiff,reduceCtorEq,Nat.reduceAdd,Nat.reduceMul,Nat.reduceSub,Int.reduceLT,Int.reduceLE,Int.reduceToNat,Int.reduceAdd,Int.reduceSub,Int.reduceMul,ne_eq,decide_true,decide_false,tf48, h5]
      rw [wrap_i64_in (by omega) (by omega)]; rfl
    · simp -dsimp only [↓RE,↓c_seq,RU,RL,if_true,if_false,forall_const,implies_true,Nat.reduceLeDiff,Nat.reduceLT,pureOp,binPure,intBin,strBin,eqPure,isConstO,unPure,sliceLo,sliceHi,slicePure,lenPure,minPure,maxPure,buildP,resK,endV,yieldE,↓reduceIte,Nat.reduceEqDiff,reduceCtorEq,Nat.reduceAdd,Nat.reduceMul,Nat.reduceSub,Int.reduceLT,Int.reduceLE,Int.reduceToNat,Int.reduceAdd,Int.reduceSub,Int.reduceMul,ne_eq,decide_true,decide_false,tf48, h5]
      rw [wrap_i64_in (by omega) (by omega), envInt_int, envInt_int]; omega
  · rw [show min n k = n by omega] at hT
    have hWn := hT.at_
    obtain ⟨sv, hBn, hOn, rfl⟩ := hWn
    obtain ⟨An, cn, rfl, _⟩ := own_form hOn
    have hown := hT.own
    have hTlt := hT.lt
    have hTs := hT.size
    try simp -dsimp only [↓RE,↓c_seq,RU,RL,if_true,if_false,forall_const,implies_true,Nat.reduceLeDiff,Nat.reduceLT,pureOp,binPure,intBin,strBin,eqPure,isConstO,unPure,sliceLo,sliceHi,slicePure,lenPure,minPure,maxPure,buildP,resK,endV,yieldE,↓reduceIte,Nat.reduceEqDiff,reduceCtorEq,Nat.reduceAdd,Nat.reduceMul,Nat.reduceSub,Int.reduceLT,Int.reduceLE,Int.reduceToNat,Int.reduceAdd,Int.reduceSub,Int.reduceMul,ne_eq,decide_true,decide_false,tf48, h0, h3, h4, h5, hBn.cell]
    refine put (b := BadV.none) hT.grow hT.bad (fun w5 hB5 k5 g5 => ?_)
    have hO5 := own_keep hOn k5 (fun i hi e => by have := hown i (.inr hi); omega)
    try simp -dsimp only [↓RE,↓c_seq,RU,RL,if_true,if_false,forall_const,implies_true,Nat.reduceLeDiff,Nat.reduceLT,pureOp,binPure,intBin,strBin,eqPure,isConstO,unPure,sliceLo,sliceHi,slicePure,lenPure,minPure,maxPure,buildP,resK,endV,yieldE,↓reduceIte,Nat.reduceEqDiff,reduceCtorEq,Nat.reduceAdd,Nat.reduceMul,Nat.reduceSub,Int.reduceLT,Int.reduceLE,Int.reduceToNat,Int.reduceAdd,Int.reduceSub,Int.reduceMul,ne_eq,decide_true,decide_false,tf48, h0, h3, h4]
    refine hB5.aggK (by simp [BadV.cells]) ?_
    try simp -dsimp only [↓RE,↓c_seq,RU,RL,if_true,if_false,forall_const,implies_true,Nat.reduceLeDiff,Nat.reduceLT,pureOp,binPure,intBin,strBin,eqPure,isConstO,unPure,sliceLo,sliceHi,slicePure,lenPure,minPure,maxPure,buildP,resK,endV,yieldE,↓reduceIte,Nat.reduceEqDiff,reduceCtorEq,Nat.reduceAdd,Nat.reduceMul,Nat.reduceSub,Int.reduceLT,Int.reduceLE,Int.reduceToNat,Int.reduceAdd,Int.reduceSub,Int.reduceMul,ne_eq,decide_true,decide_false,tf48, h0, h3, h4]
    exact h hte w5 An cn (Rd.of_own hO5) (fun i hi => by have := hown i (.inr (by rw [fpV_fpA]; exact hi)); omega) g5

end Go.Proofs.YtmgiichlccdcfaaGreatDoor
