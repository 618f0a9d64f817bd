/- Numbers read by wire.Reader. -/
import Derived.Test.YtcjlhfmjcioeeaaReader
import Derived.Test.YtcjlhfmjcioeeaaNumSpec
set_option linter.unusedVariables false
set_option linter.unusedSimpArgs false
set_option maxRecDepth 100000
namespace Go.Proofs.Ytcjlhfmjcioeeaa
open Go

theorem scan_cons (c : Int) (r : List Int) (k : Nat) (v : Int) (i : Nat) : scan (c :: r) k v i = if (k = 9 ∧ 1 < c) ∨ (0 < k ∧ c = 0) then .error (i, 31) else if c < 128 then .ok (v + c % 128 * 2 ^ (7 * k), i + 1) else scan r (k + 1) (v + c % 128 * 2 ^ (7 * k)) (i + 1) := rfl
theorem number_ok {w : World} {F : Nat → Prop} {p : Nat} {s : RS} (hR : RAt w F p s) (ok : RSok s) {most above : Int} (m0 : 0 ≤ most) (ha : above ≠ 0) {R : VWK}
    (h : ∀ w', RAt w' F p (rNumber most above s).1 → Keep (fun k => k = p) w w' → R (.int .u64 (rNumber most above s).2) w') :
    CallsV Try.prog 78 [.pointer (some ⟨p, 0, none⟩), .int .u64 most, .int .i64 above] w R := by
  have hle := ok.le
  have hln := ok.len
  refine calls_of_wpC mixed Try.func78 rfl (by kernel_rfl) ?_
  intro e he
  have he0 := he 0
  have he1 := he 1
  have he2 := he 2
  simp only [List.getD_cons_zero, List.getD_cons_succ] at he0 he1 he2
  clear he
  simp -dsimp only [↓RE,↓c_seq,RU,RL,if_true,if_false,forall_const,implies_true,Nat.reduceLeDiff,Nat.reduceLT,pureOp,binPure,intBin,strBin,eqPure,isConstO,unPure,sliceLo,sliceHi,slicePure,lenPure,minPure,maxPure,buildP,resK,endV,yieldE,↓reduceIte,Nat.reduceEqDiff,reduceCtorEq,Nat.reduceAdd,Nat.reduceMul,Nat.reduceSub,Int.reduceLT,Int.reduceLE,Int.reduceToNat,Int.reduceAdd,Int.reduceSub,Int.reduceMul,ne_eq,decide_true,decide_false,tf78, he0]
  unfold rNumber at h
  refine begin_ok hR ok (fun w1 hR1 k1 => ?_)
  cases hb : (rBegin s).2 with
  | false =>
    rw [if_neg (by simp [hb])] at h
    simp -dsimp only [↓RE,↓c_seq,RU,RL,if_true,if_false,forall_const,implies_true,Nat.reduceLeDiff,Nat.reduceLT,pureOp,binPure,intBin,strBin,eqPure,isConstO,unPure,sliceLo,sliceHi,slicePure,lenPure,minPure,maxPure,buildP,resK,endV,yieldE,↓reduceIte,Nat.reduceEqDiff,reduceCtorEq,Nat.reduceAdd,Nat.reduceMul,Nat.reduceSub,Int.reduceLT,Int.reduceLE,Int.reduceToNat,Int.reduceAdd,Int.reduceSub,Int.reduceMul,ne_eq,decide_true,decide_false,tf78, he0]
    exact h w1 hR1 k1
  | true =>
    rw [if_pos hb] at h
    obtain ⟨e1, _, _⟩ := rBegin_true hb
    rw [e1] at hR1
    obtain ⟨A, c, hB, hRd, hp, hc, hF⟩ := id hR1
    simp -dsimp only [↓RE,↓c_seq,RU,RL,if_true,if_false,forall_const,implies_true,Nat.reduceLeDiff,Nat.reduceLT,pureOp,binPure,intBin,strBin,eqPure,isConstO,unPure,sliceLo,sliceHi,slicePure,lenPure,minPure,maxPure,buildP,resK,endV,yieldE,↓reduceIte,Nat.reduceEqDiff,reduceCtorEq,Nat.reduceAdd,Nat.reduceMul,Nat.reduceSub,Int.reduceLT,Int.reduceLE,Int.reduceToNat,Int.reduceAdd,Int.reduceSub,Int.reduceMul,ne_eq,decide_true,decide_false,tf78, he0, he1, he2, hB.cell]
    refine wpLoop_intro (fun e' w' => w' = w1 ∧ e' 0 = .pointer (some ⟨p, 0, none⟩) ∧ e' 1 = .int .u64 most ∧ e' 2 = .int .i64 above ∧ ∃ (i k : Nat) (v : Int), e' 8 = .int .i64 i ∧ e' 9 = .int .i64 k ∧ e' 7 = .int .u64 v ∧ k ≤ 9 ∧ 0 ≤ v ∧ v < 2 ^ (7 * k) ∧ i ≤ s.xs.length ∧
      scan (s.xs.drop i) k v i = scan (s.xs.drop s.pos) 0 0 s.pos) (fun e' _ => s.xs.length - (envInt (e' 8)).toNat) ⟨rfl, ?_, ?_, ?_, s.pos, 0, 0, ?_, ?_, ?_, by omega, by omega, by simp, hle, rfl⟩ ?_
    · simp -dsimp only [↓RE,RU,RL,if_true,if_false,↓reduceIte,Nat.reduceEqDiff,reduceCtorEq,decide_true,decide_false, he0]
    · simp -dsimp only [↓RE,RU,RL,if_true,if_false,↓reduceIte,Nat.reduceEqDiff,reduceCtorEq,decide_true,decide_false, he1]
    · simp -dsimp only [↓RE,RU,RL,if_true,if_false,↓reduceIte,Nat.reduceEqDiff,reduceCtorEq,decide_true,decide_false, he2]
    · simp -dsimp only [↓RE,RU,RL,if_true,if_false,↓reduceIte,Nat.reduceEqDiff,reduceCtorEq,decide_true,decide_false, he0]
    · simp -dsimp only [↓RE,RU,RL,if_true,if_false,↓reduceIte,Nat.reduceEqDiff,reduceCtorEq,decide_true,decide_false, Int.cast_ofNat_Int]
    · simp -dsimp only [↓RE,RU,RL,if_true,if_false,↓reduceIte,Nat.reduceEqDiff,reduceCtorEq,decide_true,decide_false, he0]
    rintro e' w' ⟨rfl, h0, h1, h2, i, k, v, h8, h9, h7, hk, v0, v1, hi, hsc⟩
    simp -dsimp only [↓RE,↓c_seq,RU,RL,if_true,if_false,forall_const,implies_true,Nat.reduceLeDiff,Nat.reduceLT,pureOp,binPure,intBin,strBin,eqPure,isConstO,unPure,sliceLo,sliceHi,slicePure,lenPure,minPure,maxPure,buildP,resK,endV,yieldE,↓reduceIte,Nat.reduceEqDiff,reduceCtorEq,Nat.reduceAdd,Nat.reduceMul,Nat.reduceSub,Int.reduceLT,Int.reduceLE,Int.reduceToNat,Int.reduceAdd,Int.reduceSub,Int.reduceMul,ne_eq,decide_true,decide_false,tf78, h0, h1, h2, h8, h9, h7, hB.cell]
    refine ⟨fun heq => ?_, fun hne => ?_⟩
    · obtain rfl : i = s.xs.length := by omega
      rw [List.drop_length] at hsc
      rw [← hsc] at h
      try simp -dsimp only [↓RE,↓c_seq,RU,RL,if_true,if_false,forall_const,implies_true,Nat.reduceLeDiff,Nat.reduceLT,pureOp,binPure,intBin,strBin,eqPure,isConstO,unPure,sliceLo,sliceHi,slicePure,lenPure,minPure,maxPure,buildP,resK,endV,yieldE,↓reduceIte,Nat.reduceEqDiff,reduceCtorEq,Nat.reduceAdd,Nat.reduceMul,Nat.reduceSub,Int.reduceLT,Int.reduceLE,Int.reduceToNat,Int.reduceAdd,Int.reduceSub,Int.reduceMul,ne_eq,decide_true,decide_false,tf78, h0, h8]
      refine fat_ok (by decide) ?_
      simp -dsimp only [↓RE,↓c_seq,RU,RL,if_true,if_false,forall_const,implies_true,Nat.reduceLeDiff,Nat.reduceLT,pureOp,binPure,intBin,strBin,eqPure,isConstO,unPure,sliceLo,sliceHi,slicePure,lenPure,minPure,maxPure,buildP,resK,endV,yieldE,↓reduceIte,Nat.reduceEqDiff,reduceCtorEq,Nat.reduceAdd,Nat.reduceMul,Nat.reduceSub,Int.reduceLT,Int.reduceLE,Int.reduceToNat,Int.reduceAdd,Int.reduceSub,Int.reduceMul,ne_eq,decide_true,decide_false,tf78, h0, h8]
      refine fail_ok hR1 (fun w2 hR2 k2 => ?_)
      simp -dsimp only [↓RE,↓c_seq,RU,RL,if_true,if_false,forall_const,implies_true,Nat.reduceLeDiff,Nat.reduceLT,pureOp,binPure,intBin,strBin,eqPure,isConstO,unPure,sliceLo,sliceHi,slicePure,lenPure,minPure,maxPure,buildP,resK,endV,yieldE,↓reduceIte,Nat.reduceEqDiff,reduceCtorEq,Nat.reduceAdd,Nat.reduceMul,Nat.reduceSub,Int.reduceLT,Int.reduceLE,Int.reduceToNat,Int.reduceAdd,Int.reduceSub,Int.reduceMul,ne_eq,decide_true,decide_false,tf78, h0, h8]
      exact h w2 hR2 (k1.trans k2 (fun _ _ h => h) (fun _ _ h => h))
    have hil : i < s.xs.length := by omega
    obtain ⟨ad, rfl, hcell⟩ := hRd.int (k := i) hil
    have hcr := getD_mem_range ok.bytes i
    have hdrop : s.xs.drop i = s.xs.getD i 0 :: s.xs.drop (i + 1) := by
      rw [List.drop_eq_getElem_cons hil, List.getD_eq_getElem?_getD, List.getElem?_eq_getElem hil]; rfl
    rw [hdrop] at hsc
    generalize s.xs.getD i 0 = b at hcell hcr hsc
    rw [scan_cons] at hsc
    simp -dsimp only [↓RE,RU,RL,if_true,if_false,forall_const,implies_true,Nat.reduceLeDiff,Nat.reduceLT,pureOp,binPure,intBin,strBin,eqPure,isConstO,unPure,sliceLo,sliceHi,slicePure,lenPure,minPure,maxPure,buildP,resK,endV,yieldE,↓reduceIte,Nat.reduceEqDiff,reduceCtorEq,Nat.reduceAdd,Nat.reduceMul,Nat.reduceSub,Int.reduceLT,Int.reduceLE,Int.reduceToNat,Int.reduceAdd,Int.reduceSub,Int.reduceMul,ne_eq,decide_true,decide_false,tf78, h0, h1, h2, h8, h9, h7]
    refine ⟨⟨by omega, by omega⟩, ?_⟩
    simp -dsimp only [↓RE,RU,RL,if_true,if_false,forall_const,implies_true,Nat.reduceLeDiff,Nat.reduceLT,pureOp,binPure,intBin,strBin,eqPure,isConstO,unPure,sliceLo,sliceHi,slicePure,lenPure,minPure,maxPure,buildP,resK,endV,yieldE,↓reduceIte,Nat.reduceEqDiff,reduceCtorEq,Nat.reduceAdd,Nat.reduceMul,Nat.reduceSub,Int.reduceLT,Int.reduceLE,Int.reduceToNat,Int.reduceAdd,Int.reduceSub,Int.reduceMul,ne_eq,decide_true,decide_false,tf78, h0, h1, h2, h8, h9, h7, hcell]
    have bad : ((k = 9 ∧ 1 < b) ∨ (0 < k ∧ b = 0)) → ∀ w2, RAt w2 F p (rFail s (errAt i 31)) → Keep (fun k => k = p) w' w2 → R (.int .u64 0) w2 := fun hbd w2 hR2 k2 => by
      rw [if_pos hbd] at hsc
      rw [← hsc] at h
      exact h w2 hR2 (k1.trans k2 (fun _ _ h => h) (fun _ _ h => h))
    refine c_seq_cut (fun e2 w2 => w2 = w' ∧ e2 0 = .pointer (some ⟨p, 0, none⟩) ∧ e2 1 = .int .u64 most ∧ e2 2 = .int .i64 above ∧ e2 8 = .int .i64 i ∧ e2 9 = .int .i64 k ∧ e2 7 = .int .u64 v ∧ e2 10 = .int .u8 b ∧ ¬ ((k = 9 ∧ 1 < b) ∨ (0 < k ∧ b = 0))) ?_ ?_
    · by_cases c9 : (k : Int) = 9 <;> by_cases c1 : 1 < b <;> by_cases c0 : 0 < (k : Int) <;> by_cases cz : b = 0
      all_goals simp -dsimp only [↓RE,↓c_seq,RU,RL,if_true,if_false,forall_const,implies_true,Nat.reduceLeDiff,Nat.reduceLT,pureOp,binPure,intBin,strBin,eqPure,isConstO,unPure,sliceLo,sliceHi,slicePure,lenPure,minPure,maxPure,buildP,resK,endV,yieldE,↓reduceIte,Nat.reduceEqDiff,reduceCtorEq,Nat.reduceAdd,Nat.reduceMul,Nat.reduceSub,Int.reduceLT,Int.reduceLE,Int.reduceToNat,Int.reduceAdd,Int.reduceSub,Int.reduceMul,ne_eq,decide_true,decide_false,tf78, h0, h1, h2, h8, h9, h7, c9, c1, c0, cz, Int.reduceEq, eq_self, undef]
      all_goals first
        | (refine hold_intro ⟨rfl, ?_, ?_, ?_, ?_, ?_, ?_, ?_, by omega⟩ <;> simp -dsimp only [↓RE,↓c_seq,RU,RL,if_true,if_false,forall_const,implies_true,Nat.reduceLeDiff,Nat.reduceLT,pureOp,binPure,intBin,strBin,eqPure,isConstO,unPure,sliceLo,sliceHi,slicePure,lenPure,minPure,maxPure,buildP,resK,endV,yieldE,↓reduceIte,Nat.reduceEqDiff,reduceCtorEq,Nat.reduceAdd,Nat.reduceMul,Nat.reduceSub,Int.reduceLT,Int.reduceLE,Int.reduceToNat,Int.reduceAdd,Int.reduceSub,Int.reduceMul,ne_eq,decide_true,decide_false,tf78, h0, h1, h2, h8, h9, h7, cz])
        | (refine fat_ok (by decide) ?_
           simp -dsimp only [↓RE,↓c_seq,RU,RL,if_true,if_false,forall_const,implies_true,Nat.reduceLeDiff,Nat.reduceLT,pureOp,binPure,intBin,strBin,eqPure,isConstO,unPure,sliceLo,sliceHi,slicePure,lenPure,minPure,maxPure,buildP,resK,endV,yieldE,↓reduceIte,Nat.reduceEqDiff,reduceCtorEq,Nat.reduceAdd,Nat.reduceMul,Nat.reduceSub,Int.reduceLT,Int.reduceLE,Int.reduceToNat,Int.reduceAdd,Int.reduceSub,Int.reduceMul,ne_eq,decide_true,decide_false,tf78, h0, h8]
           refine fail_ok hR1 (fun w2 hR2 k2 => ?_)
           simp -dsimp only [↓RE,↓c_seq,RU,RL,if_true,if_false,forall_const,implies_true,Nat.reduceLeDiff,Nat.reduceLT,pureOp,binPure,intBin,strBin,eqPure,isConstO,unPure,sliceLo,sliceHi,slicePure,lenPure,minPure,maxPure,buildP,resK,endV,yieldE,↓reduceIte,Nat.reduceEqDiff,reduceCtorEq,Nat.reduceAdd,Nat.reduceMul,Nat.reduceSub,Int.reduceLT,Int.reduceLE,Int.reduceToNat,Int.reduceAdd,Int.reduceSub,Int.reduceMul,ne_eq,decide_true,decide_false,tf78, h0, h8]
           exact bad (by omega) w2 hR2 k2)
    · rintro e2 w2 ⟨rfl, g0, g1, g2, g8, g9, g7, g10, hgood⟩
      rw [if_neg hgood] at hsc
      have hks : k = 0 ∨ k = 1 ∨ k = 2 ∨ k = 3 ∨ k = 4 ∨ k = 5 ∨ k = 6 ∨ k = 7 ∨ k = 8 ∨ k = 9 := by omega
      have hx : 0 ≤ b % 128 * 2 ^ (7 * k) ∧ b % 128 * 2 ^ (7 * k) < 18446744073709551616 ∧ v < 18446744073709551616 ∧ (b < 128 ∨ k ≤ 8) ∧ v + b % 128 * 2 ^ (7 * k) < 2 ^ (7 * (k + 1)) := by
        rcases hks with rfl | rfl | rfl | rfl | rfl | rfl | rfl | rfl | rfl | rfl <;> simp at v1 hgood ⊢ <;> omega
      have hand := and_u8_127 hcr.1 hcr.2
      have hcv : b % 128 % 18446744073709551616 = b % 128 := by omega
      have hmul : IntKind.i64.wrap (7 * (k : Int)) = ((7 * k : Nat) : Int) := by rw [wrap_i64_in (by omega) (by omega)]; omega
      have hshl : shlOp .u64 (b % 128) ((7 * k : Nat) : Int) = b % 128 * 2 ^ (7 * k) := by
        rw [shl_eq .u64 _ (7 * k) (by simp [IntKind.bits]; omega) _ rfl, wrap_u64]; exact Int.emod_eq_of_lt hx.1 hx.2.1
      have hor : bitsOp .or .u64 v (b % 128 * 2 ^ (7 * k)) = v + b % 128 * 2 ^ (7 * k) :=
        or_join_u64' (7 * k) hx.1 hx.2.1 (Int.mul_emod_left _ _) v0 v1 hx.2.2.1
      have hw1 : IntKind.i64.wrap ((i : Int) + 1) = ((i + 1 : Nat) : Int) := by rw [wrap_i64_in (by omega) (by omega)]; rfl
      have hw2 : IntKind.i64.wrap ((k : Int) + 1) = ((k + 1 : Nat) : Int) := by rw [wrap_i64_in (by omega) (by omega)]; rfl
      simp -dsimp only [↓RE,↓c_seq,RU,RL,if_true,if_false,forall_const,implies_true,Nat.reduceLeDiff,Nat.reduceLT,pureOp,binPure,intBin,strBin,eqPure,isConstO,unPure,sliceLo,sliceHi,slicePure,lenPure,minPure,maxPure,buildP,resK,endV,yieldE,↓reduceIte,Nat.reduceEqDiff,reduceCtorEq,Nat.reduceAdd,Nat.reduceMul,Nat.reduceSub,Int.reduceLT,Int.reduceLE,Int.reduceToNat,Int.reduceAdd,Int.reduceSub,Int.reduceMul,ne_eq,decide_true,decide_false,tf78, g0, g1, g2, g8, g9, g7, g10, hand, wrap_u64, hcv, hmul, hshl, hor, hw1, hw2]
      refine ⟨by omega, ?_⟩
      generalize hv' : v + b % 128 * 2 ^ (7 * k) = v' at hsc hx hor
      try simp -dsimp only [↓RE,↓c_seq,RU,RL,if_true,if_false,forall_const,implies_true,Nat.reduceLeDiff,Nat.reduceLT,pureOp,binPure,intBin,strBin,eqPure,isConstO,unPure,sliceLo,sliceHi,slicePure,lenPure,minPure,maxPure,buildP,resK,endV,yieldE,↓reduceIte,Nat.reduceEqDiff,reduceCtorEq,Nat.reduceAdd,Nat.reduceMul,Nat.reduceSub,Int.reduceLT,Int.reduceLE,Int.reduceToNat,Int.reduceAdd,Int.reduceSub,Int.reduceMul,ne_eq,decide_true,decide_false,tf78, g0, g1, g2, g8, g9, g7, g10, hand, wrap_u64, hcv, hmul, hshl, hor, hw1, hw2]
      refine ⟨fun hlt => ?_, fun hge => ?_⟩
      · rw [if_pos hlt] at hsc
        rw [← hsc] at h
        simp only at h
        try simp -dsimp only [↓RE,↓c_seq,RU,RL,if_true,if_false,forall_const,implies_true,Nat.reduceLeDiff,Nat.reduceLT,pureOp,binPure,intBin,strBin,eqPure,isConstO,unPure,sliceLo,sliceHi,slicePure,lenPure,minPure,maxPure,buildP,resK,endV,yieldE,↓reduceIte,Nat.reduceEqDiff,reduceCtorEq,Nat.reduceAdd,Nat.reduceMul,Nat.reduceSub,Int.reduceLT,Int.reduceLE,Int.reduceToNat,Int.reduceAdd,Int.reduceSub,Int.reduceMul,ne_eq,decide_true,decide_false,tf78, g0, g1, g2, g8, g9, g7, g10, hand, wrap_u64, hcv, hmul, hshl, hor, hw1, hw2, hB.cell]
        refine ⟨fun hgt => ?_, fun hng => ?_⟩
        · rw [if_pos (by omega)] at h
          try simp -dsimp only [↓RE,↓c_seq,RU,RL,if_true,if_false,forall_const,implies_true,Nat.reduceLeDiff,Nat.reduceLT,pureOp,binPure,intBin,strBin,eqPure,isConstO,unPure,sliceLo,sliceHi,slicePure,lenPure,minPure,maxPure,buildP,resK,endV,yieldE,↓reduceIte,Nat.reduceEqDiff,reduceCtorEq,Nat.reduceAdd,Nat.reduceMul,Nat.reduceSub,Int.reduceLT,Int.reduceLE,Int.reduceToNat,Int.reduceAdd,Int.reduceSub,Int.reduceMul,ne_eq,decide_true,decide_false,tf78, g0, g1, g2, hB.cell]
          refine fat_ok ha ?_
          simp -dsimp only [↓RE,↓c_seq,RU,RL,if_true,if_false,forall_const,implies_true,Nat.reduceLeDiff,Nat.reduceLT,pureOp,binPure,intBin,strBin,eqPure,isConstO,unPure,sliceLo,sliceHi,slicePure,lenPure,minPure,maxPure,buildP,resK,endV,yieldE,↓reduceIte,Nat.reduceEqDiff,reduceCtorEq,Nat.reduceAdd,Nat.reduceMul,Nat.reduceSub,Int.reduceLT,Int.reduceLE,Int.reduceToNat,Int.reduceAdd,Int.reduceSub,Int.reduceMul,ne_eq,decide_true,decide_false,tf78, g0]
          refine fail_ok hR1 (fun w2 hR2 k2 => ?_)
          simp -dsimp only [↓RE,↓c_seq,RU,RL,if_true,if_false,forall_const,implies_true,Nat.reduceLeDiff,Nat.reduceLT,pureOp,binPure,intBin,strBin,eqPure,isConstO,unPure,sliceLo,sliceHi,slicePure,lenPure,minPure,maxPure,buildP,resK,endV,yieldE,↓reduceIte,Nat.reduceEqDiff,reduceCtorEq,Nat.reduceAdd,Nat.reduceMul,Nat.reduceSub,Int.reduceLT,Int.reduceLE,Int.reduceToNat,Int.reduceAdd,Int.reduceSub,Int.reduceMul,ne_eq,decide_true,decide_false,tf78, g0]
          exact h w2 hR2 (k1.trans k2 (fun _ _ h => h) (fun _ _ h => h))
        · rw [if_neg (by omega)] at h
          try simp -dsimp only [↓RE,↓c_seq,RU,RL,if_true,if_false,forall_const,implies_true,Nat.reduceLeDiff,Nat.reduceLT,pureOp,binPure,intBin,strBin,eqPure,isConstO,unPure,sliceLo,sliceHi,slicePure,lenPure,minPure,maxPure,buildP,resK,endV,yieldE,↓reduceIte,Nat.reduceEqDiff,reduceCtorEq,Nat.reduceAdd,Nat.reduceMul,Nat.reduceSub,Int.reduceLT,Int.reduceLE,Int.reduceToNat,Int.reduceAdd,Int.reduceSub,Int.reduceMul,ne_eq,decide_true,decide_false,tf78, g0, g1, g2, g8, hw1, hB.cell]
          refine hB.st (by simp) ?_
          have hB3 := hB.set 1 (.int .i64 ((i + 1 : Nat) : Int))
          try simp -dsimp only [↓RE,↓c_seq,RU,RL,if_true,if_false,forall_const,implies_true,Nat.reduceLeDiff,Nat.reduceLT,pureOp,binPure,intBin,strBin,eqPure,isConstO,unPure,sliceLo,sliceHi,slicePure,lenPure,minPure,maxPure,buildP,resK,endV,yieldE,↓reduceIte,Nat.reduceEqDiff,reduceCtorEq,Nat.reduceAdd,Nat.reduceMul,Nat.reduceSub,Int.reduceLT,Int.reduceLE,Int.reduceToNat,Int.reduceAdd,Int.reduceSub,Int.reduceMul,ne_eq,decide_true,decide_false,tf78, g0]
          refine hB3.st (by simp) ?_
          have hB4 := hB3.set 2 (.int .i64 0)
          have k3 := Keep.set1 w2 p 1 (.int .i64 ((i + 1 : Nat) : Int))
          have k4 := Keep.set1 (w2.setCell ⟨p, 1, none⟩ (.int .i64 ((i + 1 : Nat) : Int))) p 2 (.int .i64 0)
          have k34 := k3.trans k4 (H := fun k => k = p) (fun _ _ h => h) (fun _ _ h => h)
          have hRd4 := hRd.keep0 k34 (fun h0 k hk e => hp h0 (e ▸ hk))
          simp -dsimp only [↓RE,↓c_seq,RU,RL,if_true,if_false,forall_const,implies_true,Nat.reduceLeDiff,Nat.reduceLT,pureOp,binPure,intBin,strBin,eqPure,isConstO,unPure,sliceLo,sliceHi,slicePure,lenPure,minPure,maxPure,buildP,resK,endV,yieldE,↓reduceIte,Nat.reduceEqDiff,reduceCtorEq,Nat.reduceAdd,Nat.reduceMul,Nat.reduceSub,Int.reduceLT,Int.reduceLE,Int.reduceToNat,Int.reduceAdd,Int.reduceSub,Int.reduceMul,ne_eq,decide_true,decide_false,tf78, g0, g7, g10, hand, wrap_u64, hcv, hmul, hshl, hor]
          exact h _ ⟨some ad, c, by simpa using hB4, hRd4, hp, hc, hF⟩ (k1.trans k34 (fun _ _ h => h) (fun _ _ h => h))
      · rw [if_neg hge] at hsc
        try simp -dsimp only [↓RE,↓c_seq,RU,RL,if_true,if_false,forall_const,implies_true,Nat.reduceLeDiff,Nat.reduceLT,pureOp,binPure,intBin,strBin,eqPure,isConstO,unPure,sliceLo,sliceHi,slicePure,lenPure,minPure,maxPure,buildP,resK,endV,yieldE,↓reduceIte,Nat.reduceEqDiff,reduceCtorEq,Nat.reduceAdd,Nat.reduceMul,Nat.reduceSub,Int.reduceLT,Int.reduceLE,Int.reduceToNat,Int.reduceAdd,Int.reduceSub,Int.reduceMul,ne_eq,decide_true,decide_false,tf78, g0, g1, g2, g8, g9, g7, g10]
        refine hold_intro ⟨⟨rfl, ?_, ?_, ?_, i + 1, k + 1, v', ?_, ?_, ?_, by omega, by omega, hx.2.2.2.2, by omega, hsc⟩, ?_⟩
        · simp -dsimp only [↓RE,RU,RL,if_true,if_false,↓reduceIte,Nat.reduceEqDiff,reduceCtorEq,decide_true,decide_false, g0]
        · simp -dsimp only [↓RE,RU,RL,if_true,if_false,↓reduceIte,Nat.reduceEqDiff,reduceCtorEq,decide_true,decide_false, g1]
        · simp -dsimp only [↓RE,RU,RL,if_true,if_false,↓reduceIte,Nat.reduceEqDiff,reduceCtorEq,decide_true,decide_false, g2]
        · simp -dsimp only [↓RE,RU,RL,if_true,if_false,↓reduceIte,Nat.reduceEqDiff,reduceCtorEq,decide_true,decide_false, g8, hw1]
        · simp -dsimp only [↓RE,RU,RL,if_true,if_false,↓reduceIte,Nat.reduceEqDiff,reduceCtorEq,decide_true,decide_false, g9, hw2]
        · simp -dsimp only [↓RE,RU,RL,if_true,if_false,↓reduceIte,Nat.reduceEqDiff,reduceCtorEq,decide_true,decide_false, g7, g9, g10, hand, wrap_u64, hcv, hmul, hshl, hor]
        · simp -dsimp only [↓RE,RU,RL,if_true,if_false,↓reduceIte,Nat.reduceEqDiff,reduceCtorEq,decide_true,decide_false, g8, h8, hw1]
          rw [envInt_int, envInt_int]; omega

end Go.Proofs.Ytcjlhfmjcioeeaa
