/- Numbers read by wire.Reader. -/
/- More reads of wire.Reader: Uint, Int, Fault, Done, Raw, Text. -/
/- Bytes read with their length by wire.Reader: load, Raw, Text. -/
/- Bits read by wire.Reader. -/
import Derived.Test.YtpocfghkolppmaaReader
import Derived.Test.YtpocfghkolppmaaPureA
import Derived.Test.YtpocfghkolppmaaRefA
import Derived.Laws.DeepNot64
set_option linter.unusedVariables false
set_option linter.unusedSimpArgs false
set_option maxRecDepth 100000
namespace Go.Proofs.Ytpocfghkolppmaa
open Go

theorem scan_cons (c : Int) (r : List Int) (k : Nat) (v : Int) (i : Nat) : scan (c :: r) k v i = if (k = 9 ∧ 1 < c) ∨ (0 < k ∧ c = 0) then .error (i, 31) else if c < 128 then .ok (v + c % 128 * 2 ^ (7 * k), i + 1) else scan r (k + 1) (v + c % 128 * 2 ^ (7 * k)) (i + 1) := rfl
theorem number_ok {w : World} {F : Nat → Prop} {p : Nat} {s : RS} (hR : RAt w F p s) (ok : RSok s) {most above : Int} (m0 : 0 ≤ most) (ha : above ≠ 0) {R : VWK}
    (h : ∀ w', RAt w' F p (rNumber most above s).1 → Keep (fun k => k = p) w w' → R (.int .u64 (rNumber most above s).2) w') :
    CallsV Try.prog 67 [.pointer (some ⟨p, 0, none⟩), .int .u64 most, .int .i64 above] w R := by
  have hle := ok.le
  have hln := ok.len
  refine calls_of_wpC mixed Try.func67 rfl (by kernel_rfl) ?_
  intro e he
  have he0 := he 0
  have he1 := he 1
  have he2 := he 2
  simp only [List.getD_cons_zero, List.getD_cons_succ] at he0 he1 he2
  clear he
  simp -dsimp only [↓RE,↓c_seq,RU,RL,if_true,if_false,forall_const,implies_true,Nat.reduceLeDiff,Nat.reduceLT,pureOp,binPure,intBin,strBin,eqPure,isConstO,unPure,sliceLo,sliceHi,slicePure,slice3Pure,lenPure,capPure,minPure,maxPure,buildP,resK,endV,yieldE,↓reduceIte,Nat.reduceEqDiff,reduceCtorEq,Nat.reduceAdd,Nat.reduceMul,Nat.reduceSub,Int.reduceLT,Int.reduceLE,Int.reduceToNat,Int.reduceAdd,Int.reduceSub,Int.reduceMul,ne_eq,decide_true,decide_false,tf67, he0]
  unfold rNumber at h
  refine begin_ok hR ok (fun w1 hR1 k1 => ?_)
  cases hb : (rBegin s).2 with
  | false =>
    rw [if_neg (by simp [hb])] at h
    simp -dsimp only [↓RE,↓c_seq,RU,RL,if_true,if_false,forall_const,implies_true,Nat.reduceLeDiff,Nat.reduceLT,pureOp,binPure,intBin,strBin,eqPure,isConstO,unPure,sliceLo,sliceHi,slicePure,slice3Pure,lenPure,capPure,minPure,maxPure,buildP,resK,endV,yieldE,↓reduceIte,Nat.reduceEqDiff,reduceCtorEq,Nat.reduceAdd,Nat.reduceMul,Nat.reduceSub,Int.reduceLT,Int.reduceLE,Int.reduceToNat,Int.reduceAdd,Int.reduceSub,Int.reduceMul,ne_eq,decide_true,decide_false,tf67, he0]
    exact h w1 hR1 k1
  | true =>
    rw [if_pos hb] at h
    obtain ⟨e1, _, _⟩ := rBegin_true hb
    rw [e1] at hR1
    obtain ⟨A, c, hB, hRd, hp, hc, hF⟩ := id hR1
    simp -dsimp only [↓RE,↓c_seq,RU,RL,if_true,if_false,forall_const,implies_true,Nat.reduceLeDiff,Nat.reduceLT,pureOp,binPure,intBin,strBin,eqPure,isConstO,unPure,sliceLo,sliceHi,slicePure,slice3Pure,lenPure,capPure,minPure,maxPure,buildP,resK,endV,yieldE,↓reduceIte,Nat.reduceEqDiff,reduceCtorEq,Nat.reduceAdd,Nat.reduceMul,Nat.reduceSub,Int.reduceLT,Int.reduceLE,Int.reduceToNat,Int.reduceAdd,Int.reduceSub,Int.reduceMul,ne_eq,decide_true,decide_false,tf67, he0, he1, he2, hB.cell]
    refine wpLoop_intro (fun e' w' => w' = w1 ∧ e' 0 = .pointer (some ⟨p, 0, none⟩) ∧ e' 1 = .int .u64 most ∧ e' 2 = .int .i64 above ∧ ∃ (i k : Nat) (v : Int), e' 8 = .int .i64 i ∧ e' 9 = .int .i64 k ∧ e' 7 = .int .u64 v ∧ k ≤ 9 ∧ 0 ≤ v ∧ v < 2 ^ (7 * k) ∧ i ≤ s.xs.length ∧
      scan (s.xs.drop i) k v i = scan (s.xs.drop s.pos) 0 0 s.pos) (fun e' _ => s.xs.length - (envInt (e' 8)).toNat) ⟨rfl, ?_, ?_, ?_, s.pos, 0, 0, ?_, ?_, ?_, by omega, by omega, by simp, hle, rfl⟩ ?_
    · simp -dsimp only [↓RE,RU,RL,if_true,if_false,↓reduceIte,Nat.reduceEqDiff,reduceCtorEq,decide_true,decide_false, he0]
    · simp -dsimp only [↓RE,RU,RL,if_true,if_false,↓reduceIte,Nat.reduceEqDiff,reduceCtorEq,decide_true,decide_false, he1]
    · simp -dsimp only [↓RE,RU,RL,if_true,if_false,↓reduceIte,Nat.reduceEqDiff,reduceCtorEq,decide_true,decide_false, he2]
    · simp -dsimp only [↓RE,RU,RL,if_true,if_false,↓reduceIte,Nat.reduceEqDiff,reduceCtorEq,decide_true,decide_false, he0]
    · simp -dsimp only [↓RE,RU,RL,if_true,if_false,↓reduceIte,Nat.reduceEqDiff,reduceCtorEq,decide_true,decide_false, Int.cast_ofNat_Int]
    · simp -dsimp only [↓RE,RU,RL,if_true,if_false,↓reduceIte,Nat.reduceEqDiff,reduceCtorEq,decide_true,decide_false, he0]
    rintro e' w' ⟨rfl, h0, h1, h2, i, k, v, h8, h9, h7, hk, v0, v1, hi, hsc⟩
    simp -dsimp only [↓RE,↓c_seq,RU,RL,if_true,if_false,forall_const,implies_true,Nat.reduceLeDiff,Nat.reduceLT,pureOp,binPure,intBin,strBin,eqPure,isConstO,unPure,sliceLo,sliceHi,slicePure,slice3Pure,lenPure,capPure,minPure,maxPure,buildP,resK,endV,yieldE,↓reduceIte,Nat.reduceEqDiff,reduceCtorEq,Nat.reduceAdd,Nat.reduceMul,Nat.reduceSub,Int.reduceLT,Int.reduceLE,Int.reduceToNat,Int.reduceAdd,Int.reduceSub,Int.reduceMul,ne_eq,decide_true,decide_false,tf67, h0, h1, h2, h8, h9, h7, hB.cell]
    refine ⟨fun heq => ?_, fun hne => ?_⟩
    · obtain rfl : i = s.xs.length := by omega
      rw [List.drop_length] at hsc
      rw [← hsc] at h
      try simp -dsimp only [↓RE,↓c_seq,RU,RL,if_true,if_false,forall_const,implies_true,Nat.reduceLeDiff,Nat.reduceLT,pureOp,binPure,intBin,strBin,eqPure,isConstO,unPure,sliceLo,sliceHi,slicePure,slice3Pure,lenPure,capPure,minPure,maxPure,buildP,resK,endV,yieldE,↓reduceIte,Nat.reduceEqDiff,reduceCtorEq,Nat.reduceAdd,Nat.reduceMul,Nat.reduceSub,Int.reduceLT,Int.reduceLE,Int.reduceToNat,Int.reduceAdd,Int.reduceSub,Int.reduceMul,ne_eq,decide_true,decide_false,tf67, h0, h8]
      refine fat_ok (by decide) ?_
      simp -dsimp only [↓RE,↓c_seq,RU,RL,if_true,if_false,forall_const,implies_true,Nat.reduceLeDiff,Nat.reduceLT,pureOp,binPure,intBin,strBin,eqPure,isConstO,unPure,sliceLo,sliceHi,slicePure,slice3Pure,lenPure,capPure,minPure,maxPure,buildP,resK,endV,yieldE,↓reduceIte,Nat.reduceEqDiff,reduceCtorEq,Nat.reduceAdd,Nat.reduceMul,Nat.reduceSub,Int.reduceLT,Int.reduceLE,Int.reduceToNat,Int.reduceAdd,Int.reduceSub,Int.reduceMul,ne_eq,decide_true,decide_false,tf67, h0, h8]
      refine fail_ok hR1 (fun w2 hR2 k2 => ?_)
      simp -dsimp only [↓RE,↓c_seq,RU,RL,if_true,if_false,forall_const,implies_true,Nat.reduceLeDiff,Nat.reduceLT,pureOp,binPure,intBin,strBin,eqPure,isConstO,unPure,sliceLo,sliceHi,slicePure,slice3Pure,lenPure,capPure,minPure,maxPure,buildP,resK,endV,yieldE,↓reduceIte,Nat.reduceEqDiff,reduceCtorEq,Nat.reduceAdd,Nat.reduceMul,Nat.reduceSub,Int.reduceLT,Int.reduceLE,Int.reduceToNat,Int.reduceAdd,Int.reduceSub,Int.reduceMul,ne_eq,decide_true,decide_false,tf67, h0, h8]
      exact h w2 hR2 (k1.trans k2 (fun _ _ h => h) (fun _ _ h => h))
    have hil : i < s.xs.length := by omega
    obtain ⟨ad, rfl, hcell⟩ := hRd.int (k := i) hil
    have hcr := getD_mem_range ok.bytes i
    have hdrop : s.xs.drop i = s.xs.getD i 0 :: s.xs.drop (i + 1) := by
      rw [List.drop_eq_getElem_cons hil, List.getD_eq_getElem?_getD, List.getElem?_eq_getElem hil]; rfl
    rw [hdrop] at hsc
    generalize s.xs.getD i 0 = b at hcell hcr hsc
    rw [scan_cons] at hsc
    simp -dsimp only [↓RE,RU,RL,if_true,if_false,forall_const,implies_true,Nat.reduceLeDiff,Nat.reduceLT,pureOp,binPure,intBin,strBin,eqPure,isConstO,unPure,sliceLo,sliceHi,slicePure,slice3Pure,lenPure,capPure,minPure,maxPure,buildP,resK,endV,yieldE,↓reduceIte,Nat.reduceEqDiff,reduceCtorEq,Nat.reduceAdd,Nat.reduceMul,Nat.reduceSub,Int.reduceLT,Int.reduceLE,Int.reduceToNat,Int.reduceAdd,Int.reduceSub,Int.reduceMul,ne_eq,decide_true,decide_false,tf67, h0, h1, h2, h8, h9, h7]
    refine ⟨⟨by omega, by omega⟩, ?_⟩
    simp -dsimp only [↓RE,RU,RL,if_true,if_false,forall_const,implies_true,Nat.reduceLeDiff,Nat.reduceLT,pureOp,binPure,intBin,strBin,eqPure,isConstO,unPure,sliceLo,sliceHi,slicePure,slice3Pure,lenPure,capPure,minPure,maxPure,buildP,resK,endV,yieldE,↓reduceIte,Nat.reduceEqDiff,reduceCtorEq,Nat.reduceAdd,Nat.reduceMul,Nat.reduceSub,Int.reduceLT,Int.reduceLE,Int.reduceToNat,Int.reduceAdd,Int.reduceSub,Int.reduceMul,ne_eq,decide_true,decide_false,tf67, h0, h1, h2, h8, h9, h7, hcell]
    have bad : ((k = 9 ∧ 1 < b) ∨ (0 < k ∧ b = 0)) → ∀ w2, RAt w2 F p (rFail s (errAt i 31)) → Keep (fun k => k = p) w' w2 → R (.int .u64 0) w2 := fun hbd w2 hR2 k2 => by
      rw [if_pos hbd] at hsc
      rw [← hsc] at h
      exact h w2 hR2 (k1.trans k2 (fun _ _ h => h) (fun _ _ h => h))
    refine c_seq_cut (fun e2 w2 => w2 = w' ∧ e2 0 = .pointer (some ⟨p, 0, none⟩) ∧ e2 1 = .int .u64 most ∧ e2 2 = .int .i64 above ∧ e2 8 = .int .i64 i ∧ e2 9 = .int .i64 k ∧ e2 7 = .int .u64 v ∧ e2 10 = .int .u8 b ∧ ¬ ((k = 9 ∧ 1 < b) ∨ (0 < k ∧ b = 0))) ?_ ?_
    · by_cases c9 : (k : Int) = 9 <;> by_cases c1 : 1 < b <;> by_cases c0 : 0 < (k : Int) <;> by_cases cz : b = 0
      all_goals simp -dsimp only [↓RE,↓c_seq,RU,RL,if_true,if_false,forall_const,implies_true,Nat.reduceLeDiff,Nat.reduceLT,pureOp,binPure,intBin,strBin,eqPure,isConstO,unPure,sliceLo,sliceHi,slicePure,slice3Pure,lenPure,capPure,minPure,maxPure,buildP,resK,endV,yieldE,↓reduceIte,Nat.reduceEqDiff,reduceCtorEq,Nat.reduceAdd,Nat.reduceMul,Nat.reduceSub,Int.reduceLT,Int.reduceLE,Int.reduceToNat,Int.reduceAdd,Int.reduceSub,Int.reduceMul,ne_eq,decide_true,decide_false,tf67, h0, h1, h2, h8, h9, h7, c9, c1, c0, cz, Int.reduceEq, eq_self, undef]
      all_goals first
        | (refine hold_intro ⟨rfl, ?_, ?_, ?_, ?_, ?_, ?_, ?_, by omega⟩ <;> simp -dsimp only [↓RE,↓c_seq,RU,RL,if_true,if_false,forall_const,implies_true,Nat.reduceLeDiff,Nat.reduceLT,pureOp,binPure,intBin,strBin,eqPure,isConstO,unPure,sliceLo,sliceHi,slicePure,slice3Pure,lenPure,capPure,minPure,maxPure,buildP,resK,endV,yieldE,↓reduceIte,Nat.reduceEqDiff,reduceCtorEq,Nat.reduceAdd,Nat.reduceMul,Nat.reduceSub,Int.reduceLT,Int.reduceLE,Int.reduceToNat,Int.reduceAdd,Int.reduceSub,Int.reduceMul,ne_eq,decide_true,decide_false,tf67, h0, h1, h2, h8, h9, h7, cz])
        | (refine fat_ok (by decide) ?_
           simp -dsimp only [↓RE,↓c_seq,RU,RL,if_true,if_false,forall_const,implies_true,Nat.reduceLeDiff,Nat.reduceLT,pureOp,binPure,intBin,strBin,eqPure,isConstO,unPure,sliceLo,sliceHi,slicePure,slice3Pure,lenPure,capPure,minPure,maxPure,buildP,resK,endV,yieldE,↓reduceIte,Nat.reduceEqDiff,reduceCtorEq,Nat.reduceAdd,Nat.reduceMul,Nat.reduceSub,Int.reduceLT,Int.reduceLE,Int.reduceToNat,Int.reduceAdd,Int.reduceSub,Int.reduceMul,ne_eq,decide_true,decide_false,tf67, h0, h8]
           refine fail_ok hR1 (fun w2 hR2 k2 => ?_)
           simp -dsimp only [↓RE,↓c_seq,RU,RL,if_true,if_false,forall_const,implies_true,Nat.reduceLeDiff,Nat.reduceLT,pureOp,binPure,intBin,strBin,eqPure,isConstO,unPure,sliceLo,sliceHi,slicePure,slice3Pure,lenPure,capPure,minPure,maxPure,buildP,resK,endV,yieldE,↓reduceIte,Nat.reduceEqDiff,reduceCtorEq,Nat.reduceAdd,Nat.reduceMul,Nat.reduceSub,Int.reduceLT,Int.reduceLE,Int.reduceToNat,Int.reduceAdd,Int.reduceSub,Int.reduceMul,ne_eq,decide_true,decide_false,tf67, h0, h8]
           exact bad (by omega) w2 hR2 k2)
    · rintro e2 w2 ⟨rfl, g0, g1, g2, g8, g9, g7, g10, hgood⟩
      rw [if_neg hgood] at hsc
      have hks : k = 0 ∨ k = 1 ∨ k = 2 ∨ k = 3 ∨ k = 4 ∨ k = 5 ∨ k = 6 ∨ k = 7 ∨ k = 8 ∨ k = 9 := by omega
      have hx : 0 ≤ b % 128 * 2 ^ (7 * k) ∧ b % 128 * 2 ^ (7 * k) < 18446744073709551616 ∧ v < 18446744073709551616 ∧ (b < 128 ∨ k ≤ 8) ∧ v + b % 128 * 2 ^ (7 * k) < 2 ^ (7 * (k + 1)) := by
        rcases hks with rfl | rfl | rfl | rfl | rfl | rfl | rfl | rfl | rfl | rfl <;> simp at v1 hgood ⊢ <;> omega
      have hand := and_u8_127 hcr.1 hcr.2
      have hcv : b % 128 % 18446744073709551616 = b % 128 := by omega
      have hmul : IntKind.i64.wrap (7 * (k : Int)) = ((7 * k : Nat) : Int) := by rw [wrap_i64_in (by omega) (by omega)]; omega
      have hshl : shlOp .u64 (b % 128) ((7 * k : Nat) : Int) = b % 128 * 2 ^ (7 * k) := by
        rw [shl_eq .u64 _ (7 * k) (by simp [IntKind.bits]; omega) _ rfl, wrap_u64]; exact Int.emod_eq_of_lt hx.1 hx.2.1
      have hor : bitsOp .or .u64 v (b % 128 * 2 ^ (7 * k)) = v + b % 128 * 2 ^ (7 * k) :=
        or_join_u64' (7 * k) hx.1 hx.2.1 (Int.mul_emod_left _ _) v0 v1 hx.2.2.1
      have hw1 : IntKind.i64.wrap ((i : Int) + 1) = ((i + 1 : Nat) : Int) := by rw [wrap_i64_in (by omega) (by omega)]; rfl
      have hw2 : IntKind.i64.wrap ((k : Int) + 1) = ((k + 1 : Nat) : Int) := by rw [wrap_i64_in (by omega) (by omega)]; rfl
      simp -dsimp only [↓RE,↓c_seq,RU,RL,if_true,if_false,forall_const,implies_true,Nat.reduceLeDiff,Nat.reduceLT,pureOp,binPure,intBin,strBin,eqPure,isConstO,unPure,sliceLo,sliceHi,slicePure,slice3Pure,lenPure,capPure,minPure,maxPure,buildP,resK,endV,yieldE,↓reduceIte,Nat.reduceEqDiff,reduceCtorEq,Nat.reduceAdd,Nat.reduceMul,Nat.reduceSub,Int.reduceLT,Int.reduceLE,Int.reduceToNat,Int.reduceAdd,Int.reduceSub,Int.reduceMul,ne_eq,decide_true,decide_false,tf67, g0, g1, g2, g8, g9, g7, g10, hand, wrap_u64, hcv, hmul, hshl, hor, hw1, hw2]
      refine ⟨by omega, ?_⟩
      generalize hv' : v + b % 128 * 2 ^ (7 * k) = v' at hsc hx hor
      try simp -dsimp only [↓RE,↓c_seq,RU,RL,if_true,if_false,forall_const,implies_true,Nat.reduceLeDiff,Nat.reduceLT,pureOp,binPure,intBin,strBin,eqPure,isConstO,unPure,sliceLo,sliceHi,slicePure,slice3Pure,lenPure,capPure,minPure,maxPure,buildP,resK,endV,yieldE,↓reduceIte,Nat.reduceEqDiff,reduceCtorEq,Nat.reduceAdd,Nat.reduceMul,Nat.reduceSub,Int.reduceLT,Int.reduceLE,Int.reduceToNat,Int.reduceAdd,Int.reduceSub,Int.reduceMul,ne_eq,decide_true,decide_false,tf67, g0, g1, g2, g8, g9, g7, g10, hand, wrap_u64, hcv, hmul, hshl, hor, hw1, hw2]
      refine ⟨fun hlt => ?_, fun hge => ?_⟩
      · rw [if_pos hlt] at hsc
        rw [← hsc] at h
        simp only at h
        try simp -dsimp only [↓RE,↓c_seq,RU,RL,if_true,if_false,forall_const,implies_true,Nat.reduceLeDiff,Nat.reduceLT,pureOp,binPure,intBin,strBin,eqPure,isConstO,unPure,sliceLo,sliceHi,slicePure,slice3Pure,lenPure,capPure,minPure,maxPure,buildP,resK,endV,yieldE,↓reduceIte,Nat.reduceEqDiff,reduceCtorEq,Nat.reduceAdd,Nat.reduceMul,Nat.reduceSub,Int.reduceLT,Int.reduceLE,Int.reduceToNat,Int.reduceAdd,Int.reduceSub,Int.reduceMul,ne_eq,decide_true,decide_false,tf67, g0, g1, g2, g8, g9, g7, g10, hand, wrap_u64, hcv, hmul, hshl, hor, hw1, hw2, hB.cell]
        refine ⟨fun hgt => ?_, fun hng => ?_⟩
        · rw [if_pos (by omega)] at h
          try simp -dsimp only [↓RE,↓c_seq,RU,RL,if_true,if_false,forall_const,implies_true,Nat.reduceLeDiff,Nat.reduceLT,pureOp,binPure,intBin,strBin,eqPure,isConstO,unPure,sliceLo,sliceHi,slicePure,slice3Pure,lenPure,capPure,minPure,maxPure,buildP,resK,endV,yieldE,↓reduceIte,Nat.reduceEqDiff,reduceCtorEq,Nat.reduceAdd,Nat.reduceMul,Nat.reduceSub,Int.reduceLT,Int.reduceLE,Int.reduceToNat,Int.reduceAdd,Int.reduceSub,Int.reduceMul,ne_eq,decide_true,decide_false,tf67, g0, g1, g2, hB.cell]
          refine fat_ok ha ?_
          simp -dsimp only [↓RE,↓c_seq,RU,RL,if_true,if_false,forall_const,implies_true,Nat.reduceLeDiff,Nat.reduceLT,pureOp,binPure,intBin,strBin,eqPure,isConstO,unPure,sliceLo,sliceHi,slicePure,slice3Pure,lenPure,capPure,minPure,maxPure,buildP,resK,endV,yieldE,↓reduceIte,Nat.reduceEqDiff,reduceCtorEq,Nat.reduceAdd,Nat.reduceMul,Nat.reduceSub,Int.reduceLT,Int.reduceLE,Int.reduceToNat,Int.reduceAdd,Int.reduceSub,Int.reduceMul,ne_eq,decide_true,decide_false,tf67, g0]
          refine fail_ok hR1 (fun w2 hR2 k2 => ?_)
          simp -dsimp only [↓RE,↓c_seq,RU,RL,if_true,if_false,forall_const,implies_true,Nat.reduceLeDiff,Nat.reduceLT,pureOp,binPure,intBin,strBin,eqPure,isConstO,unPure,sliceLo,sliceHi,slicePure,slice3Pure,lenPure,capPure,minPure,maxPure,buildP,resK,endV,yieldE,↓reduceIte,Nat.reduceEqDiff,reduceCtorEq,Nat.reduceAdd,Nat.reduceMul,Nat.reduceSub,Int.reduceLT,Int.reduceLE,Int.reduceToNat,Int.reduceAdd,Int.reduceSub,Int.reduceMul,ne_eq,decide_true,decide_false,tf67, g0]
          exact h w2 hR2 (k1.trans k2 (fun _ _ h => h) (fun _ _ h => h))
        · rw [if_neg (by omega)] at h
          try simp -dsimp only [↓RE,↓c_seq,RU,RL,if_true,if_false,forall_const,implies_true,Nat.reduceLeDiff,Nat.reduceLT,pureOp,binPure,intBin,strBin,eqPure,isConstO,unPure,sliceLo,sliceHi,slicePure,slice3Pure,lenPure,capPure,minPure,maxPure,buildP,resK,endV,yieldE,↓reduceIte,Nat.reduceEqDiff,reduceCtorEq,Nat.reduceAdd,Nat.reduceMul,Nat.reduceSub,Int.reduceLT,Int.reduceLE,Int.reduceToNat,Int.reduceAdd,Int.reduceSub,Int.reduceMul,ne_eq,decide_true,decide_false,tf67, g0, g1, g2, g8, hw1, hB.cell]
          refine hB.st (by simp) ?_
          have hB3 := hB.set 1 (.int .i64 ((i + 1 : Nat) : Int))
          try simp -dsimp only [↓RE,↓c_seq,RU,RL,if_true,if_false,forall_const,implies_true,Nat.reduceLeDiff,Nat.reduceLT,pureOp,binPure,intBin,strBin,eqPure,isConstO,unPure,sliceLo,sliceHi,slicePure,slice3Pure,lenPure,capPure,minPure,maxPure,buildP,resK,endV,yieldE,↓reduceIte,Nat.reduceEqDiff,reduceCtorEq,Nat.reduceAdd,Nat.reduceMul,Nat.reduceSub,Int.reduceLT,Int.reduceLE,Int.reduceToNat,Int.reduceAdd,Int.reduceSub,Int.reduceMul,ne_eq,decide_true,decide_false,tf67, g0]
          refine hB3.st (by simp) ?_
          have hB4 := hB3.set 2 (.int .i64 0)
          have k3 := Keep.set1 w2 p 1 (.int .i64 ((i + 1 : Nat) : Int))
          have k4 := Keep.set1 (w2.setCell ⟨p, 1, none⟩ (.int .i64 ((i + 1 : Nat) : Int))) p 2 (.int .i64 0)
          have k34 := k3.trans k4 (H := fun k => k = p) (fun _ _ h => h) (fun _ _ h => h)
          have hRd4 := hRd.keep0 k34 (fun h0 k hk e => hp h0 (e ▸ hk))
          simp -dsimp only [↓RE,↓c_seq,RU,RL,if_true,if_false,forall_const,implies_true,Nat.reduceLeDiff,Nat.reduceLT,pureOp,binPure,intBin,strBin,eqPure,isConstO,unPure,sliceLo,sliceHi,slicePure,slice3Pure,lenPure,capPure,minPure,maxPure,buildP,resK,endV,yieldE,↓reduceIte,Nat.reduceEqDiff,reduceCtorEq,Nat.reduceAdd,Nat.reduceMul,Nat.reduceSub,Int.reduceLT,Int.reduceLE,Int.reduceToNat,Int.reduceAdd,Int.reduceSub,Int.reduceMul,ne_eq,decide_true,decide_false,tf67, g0, g7, g10, hand, wrap_u64, hcv, hmul, hshl, hor]
          exact h _ ⟨some ad, c, by simpa using hB4, hRd4, hp, hc, hF⟩ (k1.trans k34 (fun _ _ h => h) (fun _ _ h => h))
      · rw [if_neg hge] at hsc
        try simp -dsimp only [↓RE,↓c_seq,RU,RL,if_true,if_false,forall_const,implies_true,Nat.reduceLeDiff,Nat.reduceLT,pureOp,binPure,intBin,strBin,eqPure,isConstO,unPure,sliceLo,sliceHi,slicePure,slice3Pure,lenPure,capPure,minPure,maxPure,buildP,resK,endV,yieldE,↓reduceIte,Nat.reduceEqDiff,reduceCtorEq,Nat.reduceAdd,Nat.reduceMul,Nat.reduceSub,Int.reduceLT,Int.reduceLE,Int.reduceToNat,Int.reduceAdd,Int.reduceSub,Int.reduceMul,ne_eq,decide_true,decide_false,tf67, g0, g1, g2, g8, g9, g7, g10]
        refine hold_intro ⟨⟨rfl, ?_, ?_, ?_, i + 1, k + 1, v', ?_, ?_, ?_, by omega, by omega, hx.2.2.2.2, by omega, hsc⟩, ?_⟩
        · simp -dsimp only [↓RE,RU,RL,if_true,if_false,↓reduceIte,Nat.reduceEqDiff,reduceCtorEq,decide_true,decide_false, g0]
        · simp -dsimp only [↓RE,RU,RL,if_true,if_false,↓reduceIte,Nat.reduceEqDiff,reduceCtorEq,decide_true,decide_false, g1]
        · simp -dsimp only [↓RE,RU,RL,if_true,if_false,↓reduceIte,Nat.reduceEqDiff,reduceCtorEq,decide_true,decide_false, g2]
        · simp -dsimp only [↓RE,RU,RL,if_true,if_false,↓reduceIte,Nat.reduceEqDiff,reduceCtorEq,decide_true,decide_false, g8, hw1]
        · simp -dsimp only [↓RE,RU,RL,if_true,if_false,↓reduceIte,Nat.reduceEqDiff,reduceCtorEq,decide_true,decide_false, g9, hw2]
        · simp -dsimp only [↓RE,RU,RL,if_true,if_false,↓reduceIte,Nat.reduceEqDiff,reduceCtorEq,decide_true,decide_false, g7, g9, g10, hand, wrap_u64, hcv, hmul, hshl, hor]
        · simp -dsimp only [↓RE,RU,RL,if_true,if_false,↓reduceIte,Nat.reduceEqDiff,reduceCtorEq,decide_true,decide_false, g8, h8, hw1]
          rw [envInt_int, envInt_int]; omega

end Go.Proofs.Ytpocfghkolppmaa

namespace Go.Proofs.Ytpocfghkolppmaa
open Go

theorem uintR_ok {w : World} {F : Nat → Prop} {p : Nat} {s : RS} (hR : RAt w F p s) (ok : RSok s) {most : Int} (m0 : 0 ≤ most) {R : VWK}
    (h : ∀ w', RAt w' F p (rNumber most 2 s).1 → Keep (fun k => k = p) w w' → R (.int .u64 (rNumber most 2 s).2) w') :
    CallsV Try.prog 45 [.pointer (some ⟨p, 0, none⟩), .int .u64 most] w R := by
  refine calls_of_wpC mixed Try.func45 rfl (by kernel_rfl) ?_
  intro e he
  have he0 := he 0
  have he1 := he 1
  simp only [List.getD_cons_zero, List.getD_cons_succ] at he0 he1
  clear he
  simp -dsimp only [↓RE,↓c_seq,RU,RL,if_true,if_false,forall_const,implies_true,Nat.reduceLeDiff,Nat.reduceLT,pureOp,binPure,intBin,strBin,eqPure,isConstO,unPure,sliceLo,sliceHi,slicePure,slice3Pure,lenPure,capPure,minPure,maxPure,buildP,resK,endV,yieldE,↓reduceIte,Nat.reduceEqDiff,reduceCtorEq,Nat.reduceAdd,Nat.reduceMul,Nat.reduceSub,Int.reduceLT,Int.reduceLE,Int.reduceToNat,Int.reduceAdd,Int.reduceSub,Int.reduceMul,ne_eq,decide_true,decide_false,tf45, he0, he1]
  refine number_ok hR ok m0 (by decide) (fun w1 hR1 k1 => ?_)
  simp -dsimp only [↓RE,↓c_seq,RU,RL,if_true,if_false,forall_const,implies_true,Nat.reduceLeDiff,Nat.reduceLT,pureOp,binPure,intBin,strBin,eqPure,isConstO,unPure,sliceLo,sliceHi,slicePure,slice3Pure,lenPure,capPure,minPure,maxPure,buildP,resK,endV,yieldE,↓reduceIte,Nat.reduceEqDiff,reduceCtorEq,Nat.reduceAdd,Nat.reduceMul,Nat.reduceSub,Int.reduceLT,Int.reduceLE,Int.reduceToNat,Int.reduceAdd,Int.reduceSub,Int.reduceMul,ne_eq,decide_true,decide_false,tf45, he0]
  exact h w1 hR1 k1

def unfoldI (v : Int) : Int := if v % 2 = 0 then v / 2 else -(v / 2) - 1
theorem rNumber_range {s : RS} (ok : RSok s) (most above : Int) : 0 ≤ (rNumber most above s).2 ∧ (rNumber most above s).2 < 18446744073709551616 := by
  unfold rNumber
  split
  · split
    · simp
    · rename_i v i hs
      split
      · simp
      · exact scan_range _ _ _ _ (fun z hz => ok.bytes z (List.mem_of_mem_drop hz)) (by omega) (by omega) (by simp) hs
  · simp
theorem xor_i64_zero {x : Int} (h0 : 0 ≤ x) (h1 : x < 9223372036854775808) : bitsOp .xor .i64 x 0 = x := by
  rw [bitsOp_eq _ _ _ _ (by simp)]
  show IntKind.i64.wrap ((BitVec.ofInt 64 x ^^^ BitVec.ofInt 64 0).toNat : Int) = x
  rw [show BitVec.ofInt 64 0 = 0#64 from rfl, BitVec.xor_zero, BitVec.toNat_ofInt]
  rw [wrap_i64_in (by omega) (by omega)]
  omega
theorem xor_i64_ones {x : Int} (h0 : 0 ≤ x) (h1 : x < 9223372036854775808) : bitsOp .xor .i64 x (-1) = -x - 1 := by
  rw [bitsOp_eq _ _ _ _ (by simp)]
  obtain ⟨a, rfl⟩ := Int.eq_ofNat_of_zero_le h0
  have h := i64_not a (by omega)
  have e : bits .xor .i64 (a : Int) (-1) = bits .xor .i64 (-1) (a : Int) := by
    show IntKind.i64.wrap ((BitVec.ofInt 64 (a : Int) ^^^ BitVec.ofInt 64 (-1)).toNat : Int) = IntKind.i64.wrap ((BitVec.ofInt 64 (-1) ^^^ BitVec.ofInt 64 (a : Int)).toNat : Int)
    rw [BitVec.xor_comm]
  rw [e, h]; omega
theorem intR_ok {w : World} {F : Nat → Prop} {p : Nat} {s : RS} (hR : RAt w F p s) (ok : RSok s) {R : VWK}
    (h : ∀ w', RAt w' F p (rNumber 18446744073709551615 2 s).1 → Keep (fun k => k = p) w w' → R (.int .i64 (unfoldI (rNumber 18446744073709551615 2 s).2)) w') :
    CallsV Try.prog 46 [.pointer (some ⟨p, 0, none⟩)] w R := by
  have hr := rNumber_range ok 18446744073709551615 2
  refine calls_of_wpC mixed Try.func46 rfl (by kernel_rfl) ?_
  intro e he
  have he0 := he 0
  simp only [List.getD_cons_zero, List.getD_cons_succ] at he0
  clear he
  simp -dsimp only [↓RE,↓c_seq,RU,RL,if_true,if_false,forall_const,implies_true,Nat.reduceLeDiff,Nat.reduceLT,pureOp,binPure,intBin,strBin,eqPure,isConstO,unPure,sliceLo,sliceHi,slicePure,slice3Pure,lenPure,capPure,minPure,maxPure,buildP,resK,endV,yieldE,↓reduceIte,Nat.reduceEqDiff,reduceCtorEq,Nat.reduceAdd,Nat.reduceMul,Nat.reduceSub,Int.reduceLT,Int.reduceLE,Int.reduceToNat,Int.reduceAdd,Int.reduceSub,Int.reduceMul,ne_eq,decide_true,decide_false,tf46, he0]
  refine number_ok hR ok (by omega) (by decide) (fun w1 hR1 k1 => ?_)
  have h := h w1 hR1 k1
  generalize (rNumber 18446744073709551615 2 s).2 = v at h hr
  have hand := and_u64_1 hr.1 hr.2
  have e1 : IntKind.i64.wrap (v / 2) = v / 2 := wrap_i64_in (by omega) (by omega)
  have e2 : IntKind.i64.wrap (v % 2) = v % 2 := wrap_i64_in (by omega) (by omega)
  have e3 : IntKind.i64.wrap (0 - v % 2) = - (v % 2) := by rw [wrap_i64_in (by omega) (by omega)]; omega
  simp -dsimp only [↓RE,↓c_seq,RU,RL,if_true,if_false,forall_const,implies_true,Nat.reduceLeDiff,Nat.reduceLT,pureOp,binPure,intBin,strBin,eqPure,isConstO,unPure,sliceLo,sliceHi,slicePure,slice3Pure,lenPure,capPure,minPure,maxPure,buildP,resK,endV,yieldE,↓reduceIte,Nat.reduceEqDiff,reduceCtorEq,Nat.reduceAdd,Nat.reduceMul,Nat.reduceSub,Int.reduceLT,Int.reduceLE,Int.reduceToNat,Int.reduceAdd,Int.reduceSub,Int.reduceMul,ne_eq,decide_true,decide_false,tf46, he0, shr_u64_1, hand, e1, e2, e3]
  unfold unfoldI at h
  by_cases hv : v % 2 = 0
  · rw [if_pos hv] at h
    rw [hv, Int.neg_zero, xor_i64_zero (by omega) (by omega)]
    exact h
  · rw [if_neg hv] at h
    rw [show v % 2 = 1 by omega, xor_i64_ones (by omega) (by omega)]
    exact h

theorem faultR_ok {w : World} {F : Nat → Prop} {p : Nat} {s : RS} (hR : RAt w F p s) {R : VWK} (h : R (errV s.fault) w) : CallsV Try.prog 41 [.pointer (some ⟨p, 0, none⟩)] w R := by
  obtain ⟨A, c, hB, hRd, hp, hc, hF⟩ := hR
  refine calls_of_wpC mixed Try.func41 rfl (by kernel_rfl) ?_
  intro e he
  have he0 := he 0
  simp only [List.getD_cons_zero, List.getD_cons_succ] at he0
  clear he
  simp -dsimp only [↓RE,↓c_seq,RU,RL,if_true,if_false,forall_const,implies_true,Nat.reduceLeDiff,Nat.reduceLT,pureOp,binPure,intBin,strBin,eqPure,isConstO,unPure,sliceLo,sliceHi,slicePure,slice3Pure,lenPure,capPure,minPure,maxPure,buildP,resK,endV,yieldE,↓reduceIte,Nat.reduceEqDiff,reduceCtorEq,Nat.reduceAdd,Nat.reduceMul,Nat.reduceSub,Int.reduceLT,Int.reduceLE,Int.reduceToNat,Int.reduceAdd,Int.reduceSub,Int.reduceMul,ne_eq,decide_true,decide_false,tf41, he0, hB.cell]
  exact h

def rDone (s : RS) : Option (TypeId × Value) :=
  if s.fault ≠ none then s.fault
  else if rRest s then errAt (s.pos - 1) 31
  else if s.pos < s.xs.length then errAt s.pos 33
  else none
theorem doneR_ok {w : World} {F : Nat → Prop} {p : Nat} {s : RS} (hR : RAt w F p s) (ok : RSok s) {R : VWK} (h : ∀ w', Grow w w' → R (errV (rDone s)) w') :
    CallsV Try.prog 23 [.pointer (some ⟨p, 0, none⟩)] w R := by
  have hle := ok.le
  have hln := ok.len
  have hb1 := ok.b1
  unfold rDone at h
  refine calls_of_wpC mixed Try.func23 rfl (by kernel_rfl) ?_
  intro e he
  have he0 := he 0
  simp only [List.getD_cons_zero, List.getD_cons_succ] at he0
  clear he
  simp -dsimp only [↓RE,↓c_seq,RU,RL,if_true,if_false,forall_const,implies_true,Nat.reduceLeDiff,Nat.reduceLT,pureOp,binPure,intBin,strBin,eqPure,isConstO,unPure,sliceLo,sliceHi,slicePure,slice3Pure,lenPure,capPure,minPure,maxPure,buildP,resK,endV,yieldE,↓reduceIte,Nat.reduceEqDiff,reduceCtorEq,Nat.reduceAdd,Nat.reduceMul,Nat.reduceSub,Int.reduceLT,Int.reduceLE,Int.reduceToNat,Int.reduceAdd,Int.reduceSub,Int.reduceMul,ne_eq,decide_true,decide_false,tf23, he0]
  refine faultR_ok hR ?_
  cases hf : s.fault with
  | some x =>
    rw [if_pos (by simp [hf])] at h
    simp -dsimp only [↓RE,↓c_seq,RU,RL,if_true,if_false,forall_const,implies_true,Nat.reduceLeDiff,Nat.reduceLT,pureOp,binPure,intBin,strBin,eqPure,isConstO,unPure,sliceLo,sliceHi,slicePure,slice3Pure,lenPure,capPure,minPure,maxPure,buildP,resK,endV,yieldE,↓reduceIte,Nat.reduceEqDiff,reduceCtorEq,Nat.reduceAdd,Nat.reduceMul,Nat.reduceSub,Int.reduceLT,Int.reduceLE,Int.reduceToNat,Int.reduceAdd,Int.reduceSub,Int.reduceMul,ne_eq,decide_true,decide_false,tf23, he0, errV]
    refine faultR_ok hR ?_
    simp -dsimp only [↓RE,↓c_seq,RU,RL,if_true,if_false,forall_const,implies_true,Nat.reduceLeDiff,Nat.reduceLT,pureOp,binPure,intBin,strBin,eqPure,isConstO,unPure,sliceLo,sliceHi,slicePure,slice3Pure,lenPure,capPure,minPure,maxPure,buildP,resK,endV,yieldE,↓reduceIte,Nat.reduceEqDiff,reduceCtorEq,Nat.reduceAdd,Nat.reduceMul,Nat.reduceSub,Int.reduceLT,Int.reduceLE,Int.reduceToNat,Int.reduceAdd,Int.reduceSub,Int.reduceMul,ne_eq,decide_true,decide_false,tf23, he0, errV]
    exact h w (Keep.refl _ _)
  | none =>
    rw [if_neg (by simp [hf])] at h
    simp -dsimp only [↓RE,↓c_seq,RU,RL,if_true,if_false,forall_const,implies_true,Nat.reduceLeDiff,Nat.reduceLT,pureOp,binPure,intBin,strBin,eqPure,isConstO,unPure,sliceLo,sliceHi,slicePure,slice3Pure,lenPure,capPure,minPure,maxPure,buildP,resK,endV,yieldE,↓reduceIte,Nat.reduceEqDiff,reduceCtorEq,Nat.reduceAdd,Nat.reduceMul,Nat.reduceSub,Int.reduceLT,Int.reduceLE,Int.reduceToNat,Int.reduceAdd,Int.reduceSub,Int.reduceMul,ne_eq,decide_true,decide_false,tf23, he0, errV]
    refine rest_ok hR ok (fun w1 g1 => ?_)
    have hR1 := hR.grow g1
    obtain ⟨A, c, hB, hRd, hp, hc, hF⟩ := id hR1
    cases hr : rRest s with
    | true =>
      rw [hr, if_pos rfl] at h
      have hb : 0 < s.bits := by simp [rRest] at hr; exact hr.1
      have hp0 := hb1 hb
      have hw : IntKind.i64.wrap ((s.pos : Int) - 1) = ((s.pos - 1 : Nat) : Int) := by rw [wrap_i64_in (by omega) (by omega)]; omega
      simp -dsimp only [↓RE,↓c_seq,RU,RL,if_true,if_false,forall_const,implies_true,Nat.reduceLeDiff,Nat.reduceLT,pureOp,binPure,intBin,strBin,eqPure,isConstO,unPure,sliceLo,sliceHi,slicePure,slice3Pure,lenPure,capPure,minPure,maxPure,buildP,resK,endV,yieldE,↓reduceIte,Nat.reduceEqDiff,reduceCtorEq,Nat.reduceAdd,Nat.reduceMul,Nat.reduceSub,Int.reduceLT,Int.reduceLE,Int.reduceToNat,Int.reduceAdd,Int.reduceSub,Int.reduceMul,ne_eq,decide_true,decide_false,tf23, he0, hB.cell, hw]
      refine fat_ok (by decide) ?_
      simp -dsimp only [↓RE,↓c_seq,RU,RL,if_true,if_false,forall_const,implies_true,Nat.reduceLeDiff,Nat.reduceLT,pureOp,binPure,intBin,strBin,eqPure,isConstO,unPure,sliceLo,sliceHi,slicePure,slice3Pure,lenPure,capPure,minPure,maxPure,buildP,resK,endV,yieldE,↓reduceIte,Nat.reduceEqDiff,reduceCtorEq,Nat.reduceAdd,Nat.reduceMul,Nat.reduceSub,Int.reduceLT,Int.reduceLE,Int.reduceToNat,Int.reduceAdd,Int.reduceSub,Int.reduceMul,ne_eq,decide_true,decide_false,tf23, he0]
      exact h w1 g1
    | false =>
      rw [hr, if_neg (by simp)] at h
      simp -dsimp only [↓RE,↓c_seq,RU,RL,if_true,if_false,forall_const,implies_true,Nat.reduceLeDiff,Nat.reduceLT,pureOp,binPure,intBin,strBin,eqPure,isConstO,unPure,sliceLo,sliceHi,slicePure,slice3Pure,lenPure,capPure,minPure,maxPure,buildP,resK,endV,yieldE,↓reduceIte,Nat.reduceEqDiff,reduceCtorEq,Nat.reduceAdd,Nat.reduceMul,Nat.reduceSub,Int.reduceLT,Int.reduceLE,Int.reduceToNat,Int.reduceAdd,Int.reduceSub,Int.reduceMul,ne_eq,decide_true,decide_false,tf23, he0]
      refine left_ok hR1 ok (fun w2 g2 => ?_)
      simp -dsimp only [↓RE,↓c_seq,RU,RL,if_true,if_false,forall_const,implies_true,Nat.reduceLeDiff,Nat.reduceLT,pureOp,binPure,intBin,strBin,eqPure,isConstO,unPure,sliceLo,sliceHi,slicePure,slice3Pure,lenPure,capPure,minPure,maxPure,buildP,resK,endV,yieldE,↓reduceIte,Nat.reduceEqDiff,reduceCtorEq,Nat.reduceAdd,Nat.reduceMul,Nat.reduceSub,Int.reduceLT,Int.reduceLE,Int.reduceToNat,Int.reduceAdd,Int.reduceSub,Int.reduceMul,ne_eq,decide_true,decide_false,tf23, he0, (hB.grow g2).cell]
      refine ⟨fun hgt => ?_, fun hng => ?_⟩
      · rw [if_pos (by omega)] at h
        try simp -dsimp only [↓RE,↓c_seq,RU,RL,if_true,if_false,forall_const,implies_true,Nat.reduceLeDiff,Nat.reduceLT,pureOp,binPure,intBin,strBin,eqPure,isConstO,unPure,sliceLo,sliceHi,slicePure,slice3Pure,lenPure,capPure,minPure,maxPure,buildP,resK,endV,yieldE,↓reduceIte,Nat.reduceEqDiff,reduceCtorEq,Nat.reduceAdd,Nat.reduceMul,Nat.reduceSub,Int.reduceLT,Int.reduceLE,Int.reduceToNat,Int.reduceAdd,Int.reduceSub,Int.reduceMul,ne_eq,decide_true,decide_false,tf23, he0, (hB.grow g2).cell]
        refine fat_ok (by decide) ?_
        simp -dsimp only [↓RE,↓c_seq,RU,RL,if_true,if_false,forall_const,implies_true,Nat.reduceLeDiff,Nat.reduceLT,pureOp,binPure,intBin,strBin,eqPure,isConstO,unPure,sliceLo,sliceHi,slicePure,slice3Pure,lenPure,capPure,minPure,maxPure,buildP,resK,endV,yieldE,↓reduceIte,Nat.reduceEqDiff,reduceCtorEq,Nat.reduceAdd,Nat.reduceMul,Nat.reduceSub,Int.reduceLT,Int.reduceLE,Int.reduceToNat,Int.reduceAdd,Int.reduceSub,Int.reduceMul,ne_eq,decide_true,decide_false,tf23, he0]
        exact h w2 (g1.trans g2)
      · rw [if_neg (by omega)] at h
        try simp -dsimp only [↓RE,↓c_seq,RU,RL,if_true,if_false,forall_const,implies_true,Nat.reduceLeDiff,Nat.reduceLT,pureOp,binPure,intBin,strBin,eqPure,isConstO,unPure,sliceLo,sliceHi,slicePure,slice3Pure,lenPure,capPure,minPure,maxPure,buildP,resK,endV,yieldE,↓reduceIte,Nat.reduceEqDiff,reduceCtorEq,Nat.reduceAdd,Nat.reduceMul,Nat.reduceSub,Int.reduceLT,Int.reduceLE,Int.reduceToNat,Int.reduceAdd,Int.reduceSub,Int.reduceMul,ne_eq,decide_true,decide_false,tf23, he0]
        exact h w2 (g1.trans g2)

end Go.Proofs.Ytpocfghkolppmaa

namespace Go.Proofs.Ytpocfghkolppmaa
open Go

def rLong (most : Int) (s q : RS) : RS := if q.fault = none ∧ most < 0 then rFail q (errAt s.pos 6) else q
def rShort (n : Int) (q : RS) : RS := if q.fault = none ∧ ((q.xs.length - q.pos : Nat) : Int) < n then rFail q (errAt q.xs.length 30) else q
def rBack (s q : RS) : RS := { q with pos := s.pos, bits := s.bits }
def rLim (most : Int) : Int := if most > 0 then most else 0
def rLoadN (most : Int) (s : RS) : Int := (rNumber (rLim most) 6 s).2
def rLoadS (most : Int) (s : RS) : RS := rShort (rLoadN most s) (rLong most s (rNumber (rLim most) 6 s).1)
def rLoad (most : Int) (s : RS) : RS × List Int :=
  if (rBegin s).2 then
    if (rLoadS most s).fault ≠ none then (rBack s (rLoadS most s), [])
    else rTake (rLoadN most s).toNat (rLoadS most s)
  else ((rBegin s).1, [])
theorem rFail_xs (s : RS) (e : Option (TypeId × Value)) : (rFail s e).xs = s.xs := by unfold rFail; split <;> rfl
theorem rBegin_xs (s : RS) : (rBegin s).1.xs = s.xs := by unfold rBegin; split; rfl; split; exact rFail_xs _ _; rfl
theorem rNumber_xs (m a : Int) (s : RS) : (rNumber m a s).1.xs = s.xs := by
  unfold rNumber
  split
  · split
    · exact rFail_xs _ _
    · split
      · exact rFail_xs _ _
      · rfl
  · exact rBegin_xs s
theorem rLong_xs (m : Int) (s q : RS) : (rLong m s q).xs = q.xs := by unfold rLong; split; exact rFail_xs _ _; rfl
theorem rShort_xs (n : Int) (q : RS) : (rShort n q).xs = q.xs := by unfold rShort; split; exact rFail_xs _ _; rfl
theorem RSok.long {q : RS} (h : RSok q) (m : Int) (s : RS) : RSok (rLong m s q) := by unfold rLong; split; exact h.fail _; exact h
theorem RSok.short {q : RS} (h : RSok q) (n : Int) : RSok (rShort n q) := by unfold rShort; split; exact h.fail _; exact h
theorem RSok.back {s q : RS} (h : RSok q) (hs : RSok s) (hx : q.xs = s.xs) : RSok (rBack s q) := ⟨by simp only [rBack, hx]; exact hs.le, hs.b8, hs.b1, h.len, h.bytes⟩
theorem RSok.loadS {s : RS} (h : RSok s) (most : Int) : RSok (rLoadS most s) := ((h.number _ _).long _ _).short _
theorem rLoadS_xs (most : Int) (s : RS) : (rLoadS most s).xs = s.xs := by rw [rLoadS, rShort_xs, rLong_xs, rNumber_xs]
theorem RSok.load {s : RS} (h : RSok s) (most : Int) : RSok (rLoad most s).1 := by
  unfold rLoad
  split
  · split
    · exact (h.loadS most).back h (rLoadS_xs most s)
    · exact (h.loadS most).take _
  · exact h.begin

theorem load_ok {w : World} {F : Nat → Prop} {p : Nat} {s : RS} (hR : RAt w F p s) (ok : RSok s) {most : Int} (m0 : -9223372036854775808 ≤ most) (m1 : most < 9223372036854775808) {R : VWK}
    (h : ∀ w' A' c', RAt w' F p (rLoad most s).1 → Rd w' A' (rLoad most s).2.length 1 ((rLoad most s).2.map (Value.int .u8)) → (0 < (rLoad most s).2.length → ∀ k, fpA A' k → F k ∧ k ≠ p) → Keep (fun k => k = p) w w' →
      R (.slice A' (rLoad most s).2.length c') w') :
    CallsV Try.prog 40 [.pointer (some ⟨p, 0, none⟩), .int .i64 most] w R := by
  have hle := ok.le
  have hln := ok.len
  refine calls_of_wpC mixed Try.func40 rfl (by kernel_rfl) ?_
  intro e he
  have he0 := he 0
  have he1 := he 1
  simp only [List.getD_cons_zero, List.getD_cons_succ] at he0 he1
  clear he
  simp -dsimp only [↓RE,↓c_seq,RU,RL,if_true,if_false,forall_const,implies_true,Nat.reduceLeDiff,Nat.reduceLT,pureOp,binPure,intBin,strBin,eqPure,isConstO,unPure,sliceLo,sliceHi,slicePure,slice3Pure,lenPure,capPure,minPure,maxPure,buildP,resK,endV,yieldE,↓reduceIte,Nat.reduceEqDiff,reduceCtorEq,Nat.reduceAdd,Nat.reduceMul,Nat.reduceSub,Int.reduceLT,Int.reduceLE,Int.reduceToNat,Int.reduceAdd,Int.reduceSub,Int.reduceMul,ne_eq,decide_true,decide_false,tf40, he0]
  unfold rLoad at h
  refine begin_ok hR ok (fun w1 hR1 k1 => ?_)
  cases hb : (rBegin s).2 with
  | false =>
    rw [if_neg (by simp [hb])] at h
    simp -dsimp only [↓RE,↓c_seq,RU,RL,if_true,if_false,forall_const,implies_true,Nat.reduceLeDiff,Nat.reduceLT,pureOp,binPure,intBin,strBin,eqPure,isConstO,unPure,sliceLo,sliceHi,slicePure,slice3Pure,lenPure,capPure,minPure,maxPure,buildP,resK,endV,yieldE,↓reduceIte,Nat.reduceEqDiff,reduceCtorEq,Nat.reduceAdd,Nat.reduceMul,Nat.reduceSub,Int.reduceLT,Int.reduceLE,Int.reduceToNat,Int.reduceAdd,Int.reduceSub,Int.reduceMul,ne_eq,decide_true,decide_false,tf40, he0]
    exact h w1 none 0 hR1 (Rd.nil _ _ _) (fun h0 => absurd h0 (by simp)) k1
  | true =>
    rw [if_pos hb] at h
    obtain ⟨e1, _, _⟩ := rBegin_true hb
    rw [e1] at hR1
    obtain ⟨A, c, hB, hRd, hp, hc, hF⟩ := id hR1
    simp -dsimp only [↓RE,↓c_seq,RU,RL,if_true,if_false,forall_const,implies_true,Nat.reduceLeDiff,Nat.reduceLT,pureOp,binPure,intBin,strBin,eqPure,isConstO,unPure,sliceLo,sliceHi,slicePure,slice3Pure,lenPure,capPure,minPure,maxPure,buildP,resK,endV,yieldE,↓reduceIte,Nat.reduceEqDiff,reduceCtorEq,Nat.reduceAdd,Nat.reduceMul,Nat.reduceSub,Int.reduceLT,Int.reduceLE,Int.reduceToNat,Int.reduceAdd,Int.reduceSub,Int.reduceMul,ne_eq,decide_true,decide_false,tf40, he0]
    refine hB.aggK (by simp) ?_
    simp only [List.drop_zero, List.take_succ_cons, List.take_zero]
    simp -dsimp only [↓RE,↓c_seq,RU,RL,if_true,if_false,forall_const,implies_true,Nat.reduceLeDiff,Nat.reduceLT,pureOp,binPure,intBin,strBin,eqPure,isConstO,unPure,sliceLo,sliceHi,slicePure,slice3Pure,lenPure,capPure,minPure,maxPure,buildP,resK,endV,yieldE,↓reduceIte,Nat.reduceEqDiff,reduceCtorEq,Nat.reduceAdd,Nat.reduceMul,Nat.reduceSub,Int.reduceLT,Int.reduceLE,Int.reduceToNat,Int.reduceAdd,Int.reduceSub,Int.reduceMul,ne_eq,decide_true,decide_false,tf40, he0]
    have hz0 := Blk.new' w1 96 #[.slice none 0 0, .int .i64 0, .int .i64 0]
    have ga := Grow.alloc w1 (.cells #[.slice none 0 0, .int .i64 0, .int .i64 0] 96)
    refine hz0.stAgg (by simp) (by simp [Value.oneCell']) (fun w2 hK0 kk2 => ?_)
    have hK : Blk w2 w1.heap.size 96 [.slice A s.xs.length c, .int .i64 s.pos, .int .i64 s.bits] := by simpa using hK0
    have g2 : Grow w1 w2 := ga.above kk2 (fun i hi e => by omega)
    have hpl : p < w1.heap.size := hB.lt
    have hR2 := hR1.grow g2
    have hlim : 0 ≤ rLim most := by unfold rLim; split <;> omega
    have hwl : IntKind.u64.wrap (if 0 > most then 0 else most) = rLim most := by
      unfold rLim
      split <;> split <;> (rw [wrap_u64]; omega)
    have kp : ∀ i, i < w.heap.size → i = p → i = p := fun _ _ h => h
    have kw2 : Keep (fun k => k = p) w1 w2 := Keep.mono g2 (fun _ _ h => h.elim)
    simp -dsimp only [↓RE,RU,RL,if_true,if_false,forall_const,implies_true,Nat.reduceLeDiff,Nat.reduceLT,pureOp,binPure,intBin,strBin,eqPure,isConstO,unPure,sliceLo,sliceHi,slicePure,slice3Pure,lenPure,capPure,minPure,maxPure,buildP,resK,endV,yieldE,↓reduceIte,Nat.reduceEqDiff,reduceCtorEq,Nat.reduceAdd,Nat.reduceMul,Nat.reduceSub,Int.reduceLT,Int.reduceLE,Int.reduceToNat,Int.reduceAdd,Int.reduceSub,Int.reduceMul,ne_eq,decide_true,decide_false,tf40, he0, he1, hwl]
    rw [c_seq]
    simp -dsimp only [↓RE,RU,RL,if_true,if_false,forall_const,implies_true,Nat.reduceLeDiff,Nat.reduceLT,pureOp,binPure,intBin,strBin,eqPure,isConstO,unPure,sliceLo,sliceHi,slicePure,slice3Pure,lenPure,capPure,minPure,maxPure,buildP,resK,endV,yieldE,↓reduceIte,Nat.reduceEqDiff,reduceCtorEq,Nat.reduceAdd,Nat.reduceMul,Nat.reduceSub,Int.reduceLT,Int.reduceLE,Int.reduceToNat,Int.reduceAdd,Int.reduceSub,Int.reduceMul,ne_eq,decide_true,decide_false,tf40, he0, he1, hwl]
    refine number_ok hR2 ok hlim (by decide) (fun w3 hR3 k3 => ?_)
    have kw3 : Keep (fun k => k = p) w1 w3 := kw2.trans k3 (fun _ _ h => h) (fun _ _ h => h)
    have hK3 := hK.keep k3 (by omega)
    have okq := ok.number (rLim most) 6
    have hnr := rNumber_range ok (rLim most) 6
    have hqx := rNumber_xs (rLim most) 6 s
    have hS : rLoadS most s = rShort (rNumber (rLim most) 6 s).2 (rLong most s (rNumber (rLim most) 6 s).1) := rfl
    have hN : rLoadN most s = (rNumber (rLim most) 6 s).2 := rfl
    rw [hS, hN] at h
    generalize hq : (rNumber (rLim most) 6 s).1 = q at hR3 okq h hqx
    generalize (rNumber (rLim most) 6 s).2 = n at hnr h
    simp -dsimp only [↓RE,RU,RL,if_true,if_false,forall_const,implies_true,Nat.reduceLeDiff,Nat.reduceLT,pureOp,binPure,intBin,strBin,eqPure,isConstO,unPure,sliceLo,sliceHi,slicePure,slice3Pure,lenPure,capPure,minPure,maxPure,buildP,resK,endV,yieldE,↓reduceIte,Nat.reduceEqDiff,reduceCtorEq,Nat.reduceAdd,Nat.reduceMul,Nat.reduceSub,Int.reduceLT,Int.reduceLE,Int.reduceToNat,Int.reduceAdd,Int.reduceSub,Int.reduceMul,ne_eq,decide_true,decide_false,tf40, he0, he1]
    refine c_seq_cut (fun e' w' => e' 0 = .pointer (some ⟨p, 0, none⟩) ∧ e' 5 = .pointer (some ⟨w1.heap.size, 0, none⟩) ∧ e' 6 = .int .u64 n ∧ RAt w' F p (rLong most s q) ∧ Blk w' w1.heap.size 96 [.slice A s.xs.length c, .int .i64 s.pos, .int .i64 s.bits] ∧ Keep (fun k => k = p) w1 w') ?_ ?_
    · obtain ⟨A3, c3, hB3, hRd3, hp3, hc3, hF3⟩ := id hR3
      unfold rLong
      cases hf : q.fault with
      | some x =>
        rw [if_neg (by simp [hf])]
        simp -dsimp only [↓RE,↓c_seq,RU,RL,if_true,if_false,forall_const,implies_true,Nat.reduceLeDiff,Nat.reduceLT,pureOp,binPure,intBin,strBin,eqPure,isConstO,unPure,sliceLo,sliceHi,slicePure,slice3Pure,lenPure,capPure,minPure,maxPure,buildP,resK,endV,yieldE,↓reduceIte,Nat.reduceEqDiff,reduceCtorEq,Nat.reduceAdd,Nat.reduceMul,Nat.reduceSub,Int.reduceLT,Int.reduceLE,Int.reduceToNat,Int.reduceAdd,Int.reduceSub,Int.reduceMul,ne_eq,decide_true,decide_false,tf40, he0, he1, hB3.cell, hf, errV]
        refine hold_intro ⟨?_, ?_, ?_, hR3, hK3, kw3⟩ <;> simp -dsimp only [↓RE,↓c_seq,RU,RL,if_true,if_false,forall_const,implies_true,Nat.reduceLeDiff,Nat.reduceLT,pureOp,binPure,intBin,strBin,eqPure,isConstO,unPure,sliceLo,sliceHi,slicePure,slice3Pure,lenPure,capPure,minPure,maxPure,buildP,resK,endV,yieldE,↓reduceIte,Nat.reduceEqDiff,reduceCtorEq,Nat.reduceAdd,Nat.reduceMul,Nat.reduceSub,Int.reduceLT,Int.reduceLE,Int.reduceToNat,Int.reduceAdd,Int.reduceSub,Int.reduceMul,ne_eq,decide_true,decide_false,tf40, he0, he1]
      | none =>
        by_cases hneg : most < 0
        · rw [if_pos ⟨rfl, hneg⟩]
          simp -dsimp only [↓RE,↓c_seq,RU,RL,if_true,if_false,forall_const,implies_true,Nat.reduceLeDiff,Nat.reduceLT,pureOp,binPure,intBin,strBin,eqPure,isConstO,unPure,sliceLo,sliceHi,slicePure,slice3Pure,lenPure,capPure,minPure,maxPure,buildP,resK,endV,yieldE,↓reduceIte,Nat.reduceEqDiff,reduceCtorEq,Nat.reduceAdd,Nat.reduceMul,Nat.reduceSub,Int.reduceLT,Int.reduceLE,Int.reduceToNat,Int.reduceAdd,Int.reduceSub,Int.reduceMul,ne_eq,decide_true,decide_false,tf40, he0, he1, hB3.cell, hf, errV, hneg, hK3.cell]
          refine fat_ok (by decide) ?_
          simp -dsimp only [↓RE,↓c_seq,RU,RL,if_true,if_false,forall_const,implies_true,Nat.reduceLeDiff,Nat.reduceLT,pureOp,binPure,intBin,strBin,eqPure,isConstO,unPure,sliceLo,sliceHi,slicePure,slice3Pure,lenPure,capPure,minPure,maxPure,buildP,resK,endV,yieldE,↓reduceIte,Nat.reduceEqDiff,reduceCtorEq,Nat.reduceAdd,Nat.reduceMul,Nat.reduceSub,Int.reduceLT,Int.reduceLE,Int.reduceToNat,Int.reduceAdd,Int.reduceSub,Int.reduceMul,ne_eq,decide_true,decide_false,tf40, he0, he1]
          refine fail_ok hR3 (fun w4 hR4 k4 => ?_)
          simp -dsimp only [↓RE,↓c_seq,RU,RL,if_true,if_false,forall_const,implies_true,Nat.reduceLeDiff,Nat.reduceLT,pureOp,binPure,intBin,strBin,eqPure,isConstO,unPure,sliceLo,sliceHi,slicePure,slice3Pure,lenPure,capPure,minPure,maxPure,buildP,resK,endV,yieldE,↓reduceIte,Nat.reduceEqDiff,reduceCtorEq,Nat.reduceAdd,Nat.reduceMul,Nat.reduceSub,Int.reduceLT,Int.reduceLE,Int.reduceToNat,Int.reduceAdd,Int.reduceSub,Int.reduceMul,ne_eq,decide_true,decide_false,tf40, he0, he1]
          refine hold_intro ⟨?_, ?_, ?_, hR4, hK3.keep k4 (by omega), kw3.trans k4 (fun _ _ h => h) (fun _ _ h => h)⟩ <;> simp -dsimp only [↓RE,↓c_seq,RU,RL,if_true,if_false,forall_const,implies_true,Nat.reduceLeDiff,Nat.reduceLT,pureOp,binPure,intBin,strBin,eqPure,isConstO,unPure,sliceLo,sliceHi,slicePure,slice3Pure,lenPure,capPure,minPure,maxPure,buildP,resK,endV,yieldE,↓reduceIte,Nat.reduceEqDiff,reduceCtorEq,Nat.reduceAdd,Nat.reduceMul,Nat.reduceSub,Int.reduceLT,Int.reduceLE,Int.reduceToNat,Int.reduceAdd,Int.reduceSub,Int.reduceMul,ne_eq,decide_true,decide_false,tf40, he0, he1]
        · rw [if_neg (by simp [hneg])]
          simp -dsimp only [↓RE,↓c_seq,RU,RL,if_true,if_false,forall_const,implies_true,Nat.reduceLeDiff,Nat.reduceLT,pureOp,binPure,intBin,strBin,eqPure,isConstO,unPure,sliceLo,sliceHi,slicePure,slice3Pure,lenPure,capPure,minPure,maxPure,buildP,resK,endV,yieldE,↓reduceIte,Nat.reduceEqDiff,reduceCtorEq,Nat.reduceAdd,Nat.reduceMul,Nat.reduceSub,Int.reduceLT,Int.reduceLE,Int.reduceToNat,Int.reduceAdd,Int.reduceSub,Int.reduceMul,ne_eq,decide_true,decide_false,tf40, he0, he1, hB3.cell, hf, errV, hneg]
          refine hold_intro ⟨?_, ?_, ?_, hR3, hK3, kw3⟩ <;> simp -dsimp only [↓RE,↓c_seq,RU,RL,if_true,if_false,forall_const,implies_true,Nat.reduceLeDiff,Nat.reduceLT,pureOp,binPure,intBin,strBin,eqPure,isConstO,unPure,sliceLo,sliceHi,slicePure,slice3Pure,lenPure,capPure,minPure,maxPure,buildP,resK,endV,yieldE,↓reduceIte,Nat.reduceEqDiff,reduceCtorEq,Nat.reduceAdd,Nat.reduceMul,Nat.reduceSub,Int.reduceLT,Int.reduceLE,Int.reduceToNat,Int.reduceAdd,Int.reduceSub,Int.reduceMul,ne_eq,decide_true,decide_false,tf40, he0, he1]
    rintro e4 w4 ⟨g0, g5, g6, hR4, hK4, kw4⟩
    have okl := okq.long most s
    have hlx := rLong_xs most s q
    generalize rLong most s q = ql at hR4 okl h hlx
    refine c_seq_cut (fun e' w' => e' 0 = .pointer (some ⟨p, 0, none⟩) ∧ e' 5 = .pointer (some ⟨w1.heap.size, 0, none⟩) ∧ e' 6 = .int .u64 n ∧ RAt w' F p (rShort n ql) ∧ Blk w' w1.heap.size 96 [.slice A s.xs.length c, .int .i64 s.pos, .int .i64 s.bits] ∧ Keep (fun k => k = p) w1 w') ?_ ?_
    · obtain ⟨A3, c3, hB3, hRd3, hp3, hc3, hF3⟩ := id hR4
      have hqln := okl.len
      unfold rShort
      cases hf : ql.fault with
      | some x =>
        rw [if_neg (by simp [hf])]
        simp -dsimp only [↓RE,↓c_seq,RU,RL,if_true,if_false,forall_const,implies_true,Nat.reduceLeDiff,Nat.reduceLT,pureOp,binPure,intBin,strBin,eqPure,isConstO,unPure,sliceLo,sliceHi,slicePure,slice3Pure,lenPure,capPure,minPure,maxPure,buildP,resK,endV,yieldE,↓reduceIte,Nat.reduceEqDiff,reduceCtorEq,Nat.reduceAdd,Nat.reduceMul,Nat.reduceSub,Int.reduceLT,Int.reduceLE,Int.reduceToNat,Int.reduceAdd,Int.reduceSub,Int.reduceMul,ne_eq,decide_true,decide_false,tf40, g0, g5, g6, hB3.cell, hf, errV]
        refine hold_intro ⟨?_, ?_, ?_, hR4, hK4, kw4⟩ <;> simp -dsimp only [↓RE,↓c_seq,RU,RL,if_true,if_false,forall_const,implies_true,Nat.reduceLeDiff,Nat.reduceLT,pureOp,binPure,intBin,strBin,eqPure,isConstO,unPure,sliceLo,sliceHi,slicePure,slice3Pure,lenPure,capPure,minPure,maxPure,buildP,resK,endV,yieldE,↓reduceIte,Nat.reduceEqDiff,reduceCtorEq,Nat.reduceAdd,Nat.reduceMul,Nat.reduceSub,Int.reduceLT,Int.reduceLE,Int.reduceToNat,Int.reduceAdd,Int.reduceSub,Int.reduceMul,ne_eq,decide_true,decide_false,tf40, g0, g5, g6]
      | none =>
        simp -dsimp only [↓RE,↓c_seq,RU,RL,if_true,if_false,forall_const,implies_true,Nat.reduceLeDiff,Nat.reduceLT,pureOp,binPure,intBin,strBin,eqPure,isConstO,unPure,sliceLo,sliceHi,slicePure,slice3Pure,lenPure,capPure,minPure,maxPure,buildP,resK,endV,yieldE,↓reduceIte,Nat.reduceEqDiff,reduceCtorEq,Nat.reduceAdd,Nat.reduceMul,Nat.reduceSub,Int.reduceLT,Int.reduceLE,Int.reduceToNat,Int.reduceAdd,Int.reduceSub,Int.reduceMul,ne_eq,decide_true,decide_false,tf40, g0, g5, g6, hB3.cell, hf, errV]
        refine left_ok hR4 okl (fun w5 g5' => ?_)
        have hR5 := hR4.grow g5'
        have hK5 := hK4.grow g5'
        have kw5 := kw4.then_grow g5'
        have hwc : IntKind.u64.wrap ((ql.xs.length - ql.pos : Nat) : Int) = ((ql.xs.length - ql.pos : Nat) : Int) := by rw [wrap_u64]; omega
        by_cases hsh : ((ql.xs.length - ql.pos : Nat) : Int) < n
        · rw [if_pos ⟨rfl, hsh⟩]
          simp -dsimp only [↓RE,↓c_seq,RU,RL,if_true,if_false,forall_const,implies_true,Nat.reduceLeDiff,Nat.reduceLT,pureOp,binPure,intBin,strBin,eqPure,isConstO,unPure,sliceLo,sliceHi,slicePure,slice3Pure,lenPure,capPure,minPure,maxPure,buildP,resK,endV,yieldE,↓reduceIte,Nat.reduceEqDiff,reduceCtorEq,Nat.reduceAdd,Nat.reduceMul,Nat.reduceSub,Int.reduceLT,Int.reduceLE,Int.reduceToNat,Int.reduceAdd,Int.reduceSub,Int.reduceMul,ne_eq,decide_true,decide_false,tf40, g0, g5, g6, hwc, hsh, (hB3.grow g5').cell]
          refine fat_ok (by decide) ?_
          simp -dsimp only [↓RE,↓c_seq,RU,RL,if_true,if_false,forall_const,implies_true,Nat.reduceLeDiff,Nat.reduceLT,pureOp,binPure,intBin,strBin,eqPure,isConstO,unPure,sliceLo,sliceHi,slicePure,slice3Pure,lenPure,capPure,minPure,maxPure,buildP,resK,endV,yieldE,↓reduceIte,Nat.reduceEqDiff,reduceCtorEq,Nat.reduceAdd,Nat.reduceMul,Nat.reduceSub,Int.reduceLT,Int.reduceLE,Int.reduceToNat,Int.reduceAdd,Int.reduceSub,Int.reduceMul,ne_eq,decide_true,decide_false,tf40, g0, g5, g6]
          refine fail_ok hR5 (fun w6 hR6 k6 => ?_)
          simp -dsimp only [↓RE,↓c_seq,RU,RL,if_true,if_false,forall_const,implies_true,Nat.reduceLeDiff,Nat.reduceLT,pureOp,binPure,intBin,strBin,eqPure,isConstO,unPure,sliceLo,sliceHi,slicePure,slice3Pure,lenPure,capPure,minPure,maxPure,buildP,resK,endV,yieldE,↓reduceIte,Nat.reduceEqDiff,reduceCtorEq,Nat.reduceAdd,Nat.reduceMul,Nat.reduceSub,Int.reduceLT,Int.reduceLE,Int.reduceToNat,Int.reduceAdd,Int.reduceSub,Int.reduceMul,ne_eq,decide_true,decide_false,tf40, g0, g5, g6]
          refine hold_intro ⟨?_, ?_, ?_, hR6, hK5.keep k6 (by omega), kw5.trans k6 (fun _ _ h => h) (fun _ _ h => h)⟩ <;> simp -dsimp only [↓RE,↓c_seq,RU,RL,if_true,if_false,forall_const,implies_true,Nat.reduceLeDiff,Nat.reduceLT,pureOp,binPure,intBin,strBin,eqPure,isConstO,unPure,sliceLo,sliceHi,slicePure,slice3Pure,lenPure,capPure,minPure,maxPure,buildP,resK,endV,yieldE,↓reduceIte,Nat.reduceEqDiff,reduceCtorEq,Nat.reduceAdd,Nat.reduceMul,Nat.reduceSub,Int.reduceLT,Int.reduceLE,Int.reduceToNat,Int.reduceAdd,Int.reduceSub,Int.reduceMul,ne_eq,decide_true,decide_false,tf40, g0, g5, g6]
        · rw [if_neg (by simp [hsh])]
          simp -dsimp only [↓RE,↓c_seq,RU,RL,if_true,if_false,forall_const,implies_true,Nat.reduceLeDiff,Nat.reduceLT,pureOp,binPure,intBin,strBin,eqPure,isConstO,unPure,sliceLo,sliceHi,slicePure,slice3Pure,lenPure,capPure,minPure,maxPure,buildP,resK,endV,yieldE,↓reduceIte,Nat.reduceEqDiff,reduceCtorEq,Nat.reduceAdd,Nat.reduceMul,Nat.reduceSub,Int.reduceLT,Int.reduceLE,Int.reduceToNat,Int.reduceAdd,Int.reduceSub,Int.reduceMul,ne_eq,decide_true,decide_false,tf40, g0, g5, g6, hwc, hsh]
          refine hold_intro ⟨?_, ?_, ?_, hR5, hK5, kw5⟩ <;> simp -dsimp only [↓RE,↓c_seq,RU,RL,if_true,if_false,forall_const,implies_true,Nat.reduceLeDiff,Nat.reduceLT,pureOp,binPure,intBin,strBin,eqPure,isConstO,unPure,sliceLo,sliceHi,slicePure,slice3Pure,lenPure,capPure,minPure,maxPure,buildP,resK,endV,yieldE,↓reduceIte,Nat.reduceEqDiff,reduceCtorEq,Nat.reduceAdd,Nat.reduceMul,Nat.reduceSub,Int.reduceLT,Int.reduceLE,Int.reduceToNat,Int.reduceAdd,Int.reduceSub,Int.reduceMul,ne_eq,decide_true,decide_false,tf40, g0, g5, g6]
    rintro e5 w5 ⟨f0, f5, f6, hR5, hK5, kw5⟩
    have oks := okl.short n
    have hsx : (rShort n ql).xs = s.xs := by rw [rShort_xs, hlx, hqx]
    have hle2 : (rShort n ql).fault = none → n ≤ ((rShort n ql).xs.length : Nat) := fun hz => by
      unfold rShort at hz ⊢
      split at hz
      · rename_i hh
        unfold rFail at hz
        rw [if_pos hh.1] at hz
        simp [errAt] at hz
      · rename_i hh
        rw [if_neg hh]
        have : ¬ ((ql.xs.length - ql.pos : Nat) : Int) < n := fun h3 => hh ⟨hz, h3⟩
        omega
    generalize rShort n ql = qs at hR5 oks h hsx hle2
    obtain ⟨A5, c5, hB5, hRd5, hp5, hc5, hF5⟩ := id hR5
    have hln5 := oks.len
    cases hf : qs.fault with
    | some x =>
      rw [if_pos (by simp [hf])] at h
      simp -dsimp only [↓RE,↓c_seq,RU,RL,if_true,if_false,forall_const,implies_true,Nat.reduceLeDiff,Nat.reduceLT,pureOp,binPure,intBin,strBin,eqPure,isConstO,unPure,sliceLo,sliceHi,slicePure,slice3Pure,lenPure,capPure,minPure,maxPure,buildP,resK,endV,yieldE,↓reduceIte,Nat.reduceEqDiff,reduceCtorEq,Nat.reduceAdd,Nat.reduceMul,Nat.reduceSub,Int.reduceLT,Int.reduceLE,Int.reduceToNat,Int.reduceAdd,Int.reduceSub,Int.reduceMul,ne_eq,decide_true,decide_false,tf40, f0, f5, f6, hB5.cell, hf, errV]
      refine hK5.aggK (by simp) ?_
      simp only [List.drop_zero, List.take_succ_cons, List.take_zero]
      simp -dsimp only [↓RE,↓c_seq,RU,RL,if_true,if_false,forall_const,implies_true,Nat.reduceLeDiff,Nat.reduceLT,pureOp,binPure,intBin,strBin,eqPure,isConstO,unPure,sliceLo,sliceHi,slicePure,slice3Pure,lenPure,capPure,minPure,maxPure,buildP,resK,endV,yieldE,↓reduceIte,Nat.reduceEqDiff,reduceCtorEq,Nat.reduceAdd,Nat.reduceMul,Nat.reduceSub,Int.reduceLT,Int.reduceLE,Int.reduceToNat,Int.reduceAdd,Int.reduceSub,Int.reduceMul,ne_eq,decide_true,decide_false,tf40, f0, f5, f6]
      refine hB5.stAgg (by simp) (by simp [Value.oneCell']) (fun w6 hB6 k6 => ?_)
      simp -dsimp only [↓RE,↓c_seq,RU,RL,if_true,if_false,forall_const,implies_true,Nat.reduceLeDiff,Nat.reduceLT,pureOp,binPure,intBin,strBin,eqPure,isConstO,unPure,sliceLo,sliceHi,slicePure,slice3Pure,lenPure,capPure,minPure,maxPure,buildP,resK,endV,yieldE,↓reduceIte,Nat.reduceEqDiff,reduceCtorEq,Nat.reduceAdd,Nat.reduceMul,Nat.reduceSub,Int.reduceLT,Int.reduceLE,Int.reduceToNat,Int.reduceAdd,Int.reduceSub,Int.reduceMul,ne_eq,decide_true,decide_false,tf40, f0, f5, f6]
      have kw6 := kw5.trans k6 (H := fun k => k = p) (fun _ _ h => h) (fun _ _ h => h)
      refine h w6 none 0 ⟨A, c, ?_, ?_, ?_, ?_, ?_⟩ (Rd.nil _ _ _) (fun h0 => absurd h0 (by simp)) (k1.trans kw6 (fun _ _ h => h) (fun _ _ h => h))
      · simpa [rBack, hsx, hf] using hB6
      · have := hRd.keep0 kw6 (fun h0 k hk e => hp h0 (e ▸ hk))
        simpa [rBack, hsx] using this
      · simpa [rBack, hsx] using hp
      · simpa [rBack, hsx] using hc
      · simpa [rBack, hsx] using hF
    | none =>
      rw [if_neg (by simp [hf])] at h
      have hcn : IntKind.i64.wrap n = ((n.toNat : Nat) : Int) := by have := hle2 hf; rw [wrap_i64_in (by omega) (by omega)]; omega
      simp -dsimp only [↓RE,↓c_seq,RU,RL,if_true,if_false,forall_const,implies_true,Nat.reduceLeDiff,Nat.reduceLT,pureOp,binPure,intBin,strBin,eqPure,isConstO,unPure,sliceLo,sliceHi,slicePure,slice3Pure,lenPure,capPure,minPure,maxPure,buildP,resK,endV,yieldE,↓reduceIte,Nat.reduceEqDiff,reduceCtorEq,Nat.reduceAdd,Nat.reduceMul,Nat.reduceSub,Int.reduceLT,Int.reduceLE,Int.reduceToNat,Int.reduceAdd,Int.reduceSub,Int.reduceMul,ne_eq,decide_true,decide_false,tf40, f0, f5, f6, hB5.cell, hf, errV, hcn]
      refine take_ok hR5 oks (by have := hle2 hf; omega) (fun w6 A6 c6 hR6 hRd6 hF6 k6 => ?_)
      simp -dsimp only [↓RE,↓c_seq,RU,RL,if_true,if_false,forall_const,implies_true,Nat.reduceLeDiff,Nat.reduceLT,pureOp,binPure,intBin,strBin,eqPure,isConstO,unPure,sliceLo,sliceHi,slicePure,slice3Pure,lenPure,capPure,minPure,maxPure,buildP,resK,endV,yieldE,↓reduceIte,Nat.reduceEqDiff,reduceCtorEq,Nat.reduceAdd,Nat.reduceMul,Nat.reduceSub,Int.reduceLT,Int.reduceLE,Int.reduceToNat,Int.reduceAdd,Int.reduceSub,Int.reduceMul,ne_eq,decide_true,decide_false,tf40, f0, f5, f6]
      exact h w6 A6 c6 hR6 hRd6 hF6 (k1.trans (kw5.trans k6 (H := fun k => k = p) (fun _ _ h => h) (fun _ _ h => h)) (fun _ _ h => h) (fun _ _ h => h))

theorem rawR_ok {w : World} {F : Nat → Prop} {p : Nat} {s : RS} (hR : RAt w F p s) (ok : RSok s) {most : Int} (m0 : -9223372036854775808 ≤ most) (m1 : most < 9223372036854775808) {R : VWK}
    (h : ∀ w' A' c', RAt w' F p (rLoad most s).1 → w'.ownsRow 0 5 1 (.slice A' (rLoad most s).2.length c') (rLoad most s).2.length ((rLoad most s).2.map (Value.int .u8)) → (∀ k, fpA A' k → w.heap.size ≤ k) → Keep (fun k => k = p) w w' →
      R (.slice A' (rLoad most s).2.length c') w') :
    CallsV Try.prog 22 [.pointer (some ⟨p, 0, none⟩), .int .i64 most] w R := by
  refine calls_of_wpC mixed Try.func22 rfl (by kernel_rfl) ?_
  intro e he
  have he0 := he 0
  have he1 := he 1
  simp only [List.getD_cons_zero, List.getD_cons_succ] at he0 he1
  clear he
  simp -dsimp only [↓RE,↓c_seq,RU,RL,if_true,if_false,forall_const,implies_true,Nat.reduceLeDiff,Nat.reduceLT,pureOp,binPure,intBin,strBin,eqPure,isConstO,unPure,sliceLo,sliceHi,slicePure,slice3Pure,lenPure,capPure,minPure,maxPure,buildP,resK,endV,yieldE,↓reduceIte,Nat.reduceEqDiff,reduceCtorEq,Nat.reduceAdd,Nat.reduceMul,Nat.reduceSub,Int.reduceLT,Int.reduceLE,Int.reduceToNat,Int.reduceAdd,Int.reduceSub,Int.reduceMul,ne_eq,decide_true,decide_false,tf22, he0, he1]
  refine load_ok hR ok m0 m1 (fun w1 A1 c1 hR1 hRd1 _ k1 => ?_)
  simp -dsimp only [↓RE,↓c_seq,RU,RL,if_true,if_false,forall_const,implies_true,Nat.reduceLeDiff,Nat.reduceLT,pureOp,binPure,intBin,strBin,eqPure,isConstO,unPure,sliceLo,sliceHi,slicePure,slice3Pure,lenPure,capPure,minPure,maxPure,buildP,resK,endV,yieldE,↓reduceIte,Nat.reduceEqDiff,reduceCtorEq,Nat.reduceAdd,Nat.reduceMul,Nat.reduceSub,Int.reduceLT,Int.reduceLE,Int.reduceToNat,Int.reduceAdd,Int.reduceSub,Int.reduceMul,ne_eq,decide_true,decide_false,tf22, he0]
  have hlen : (rLoad most s).2.length ≤ 140737488355328 := by
    have hl := ok.len
    have t : ∀ (n : Nat) (q : RS), (rTake n q).2.length ≤ q.xs.length := fun n q => by
      unfold rTake
      split
      · split
        · simp
        · rw [List.length_take, List.length_drop]; omega
      · simp
    unfold rLoad
    split
    · split
      · simp
      · have := t (rLoadN most s).toNat (rLoadS most s)
        rw [rLoadS_xs] at this
        omega
    · simp
  refine clone_ok hRd1 hlen (fun w2 A2 c2 hO2 g2 hF2 => ?_)
  simp -dsimp only [↓RE,↓c_seq,RU,RL,if_true,if_false,forall_const,implies_true,Nat.reduceLeDiff,Nat.reduceLT,pureOp,binPure,intBin,strBin,eqPure,isConstO,unPure,sliceLo,sliceHi,slicePure,slice3Pure,lenPure,capPure,minPure,maxPure,buildP,resK,endV,yieldE,↓reduceIte,Nat.reduceEqDiff,reduceCtorEq,Nat.reduceAdd,Nat.reduceMul,Nat.reduceSub,Int.reduceLT,Int.reduceLE,Int.reduceToNat,Int.reduceAdd,Int.reduceSub,Int.reduceMul,ne_eq,decide_true,decide_false,tf22, he0]
  exact h w2 A2 c2 (hR1.grow g2) hO2 (fun k hk => Nat.le_trans k1.size (hF2 k hk)) (k1.then_grow g2)

end Go.Proofs.Ytpocfghkolppmaa

namespace Go.Proofs.Ytpocfghkolppmaa
open Go

def bitPos (s : RS) : Nat := if s.bits = 0 then s.pos + 1 else s.pos
def bitAt (s : RS) : Int := s.xs.getD (bitPos s - 1) 0 / 2 ^ (7 - s.bits) % 2
def bitStep (s : RS) : RS := { s with pos := bitPos s, bits := (s.bits + 1) % 8 }
def rBitsN : Nat → RS → Int → RS × Int
  | 0, s, v => (s, v)
  | k + 1, s, v => rBitsN k (bitStep s) (v * 2 + bitAt s)
def bitsOpen (s : RS) : Nat := if 0 < s.bits then 8 - s.bits else 0
def rBits (n : Int) (s : RS) : RS × Int :=
  if s.fault ≠ none then (s, 0)
  else if bitsOpen s + 8 * (s.xs.length - s.pos) < brought n then (rFail s (errAt s.xs.length 30), 0)
  else rBitsN (brought n) s 0

theorem bitStep_ok {s : RS} (h : RSok s) (hb : 0 < bitsOpen s + 8 * (s.xs.length - s.pos)) : RSok (bitStep s) ∧ bitsOpen (bitStep s) + 8 * ((bitStep s).xs.length - (bitStep s).pos) + 1 = bitsOpen s + 8 * (s.xs.length - s.pos) ∧ bitPos s ≤ s.xs.length ∧ 0 < bitPos s := by
  have h8 := h.b8
  have hl := h.le
  have h1 := h.b1
  have hp : bitPos s ≤ s.xs.length ∧ 0 < bitPos s := by
    unfold bitPos
    unfold bitsOpen at hb
    split <;> (try split at hb) <;> omega
  refine ⟨⟨hp.1, Nat.mod_lt _ (by omega), fun _ => hp.2, h.len, h.bytes⟩, ?_, hp⟩
  unfold bitsOpen bitStep bitPos at *
  simp only
  by_cases h0 : s.bits = 0
  · simp only [h0, if_true] at *
    simp
    omega
  · by_cases h7 : s.bits = 7
    · simp only [h7] at *
      simp
      omega
    · rw [if_neg h0, show (s.bits + 1) % 8 = s.bits + 1 by omega, if_pos (by omega), if_pos (by omega)]
      omega
theorem bitAt_01 (s : RS) : bitAt s = 0 ∨ bitAt s = 1 := by unfold bitAt; omega
theorem rBitsN_ok : ∀ (k : Nat) {s : RS} (v : Int), RSok s → k ≤ bitsOpen s + 8 * (s.xs.length - s.pos) → RSok (rBitsN k s v).1
  | 0, s, v, h, _ => h
  | k + 1, s, v, h, hk => by
    obtain ⟨a, b, _⟩ := bitStep_ok h (by omega)
    exact rBitsN_ok k _ a (by omega)
theorem RSok.bits {s : RS} (h : RSok s) (n : Int) : RSok (rBits n s).1 := by
  unfold rBits
  split
  · exact h
  split
  · exact h.fail _
  · exact rBitsN_ok _ _ h (by omega)
theorem rBitsN_range : ∀ (k : Nat) (s : RS) (v : Int) (m : Nat), 0 ≤ v → v < 2 ^ m → 0 ≤ (rBitsN k s v).2 ∧ (rBitsN k s v).2 < 2 ^ (m + k)
  | 0, s, v, m, h0, h1 => ⟨h0, h1⟩
  | k + 1, s, v, m, h0, h1 => by
    have hb := bitAt_01 s
    have := rBitsN_range k (bitStep s) (v * 2 + bitAt s) (m + 1) (by omega) (by rw [Int.pow_succ]; omega)
    rw [show m + (k + 1) = m + 1 + k by omega]
    exact this

theorem and_u8_1 {x : Int} (h0 : 0 ≤ x) (h1 : x < 256) : bitsOp .and .u8 x 1 = x % 2 := by
  rw [bitsOp_eq _ _ _ _ (by simp), u8_and x 1 h0 h1 (by omega) (by omega)]
  rw [show (1 : Int).toNat = 1 from rfl, nat_mask1]
  omega
theorem bitsR_ok {w : World} {F : Nat → Prop} {p : Nat} {s : RS} (hR : RAt w F p s) (ok : RSok s) {n : Int} (n0 : -9223372036854775808 ≤ n) (n1 : n < 9223372036854775808) {R : VWK}
    (h : ∀ w', RAt w' F p (rBits n s).1 → Keep (fun k => k = p) w w' → R (.int .u64 (rBits n s).2) w') :
    CallsV Try.prog 71 [.pointer (some ⟨p, 0, none⟩), .int .i64 n] w R := by
  have hle := ok.le
  have hln := ok.len
  have h8 := ok.b8
  have hbr := brought_le n
  obtain ⟨A, c, hB, hRd, hp, hc, hF⟩ := id hR
  unfold rBits at h
  refine calls_of_wpC mixed Try.func71 rfl (by kernel_rfl) ?_
  intro e he
  have he0 := he 0
  have he1 := he 1
  simp only [List.getD_cons_zero, List.getD_cons_succ] at he0 he1
  clear he
  cases hf : s.fault with
  | some x =>
    rw [if_pos (by simp [hf])] at h
    simp -dsimp only [↓RE,↓c_seq,RU,RL,if_true,if_false,forall_const,implies_true,Nat.reduceLeDiff,Nat.reduceLT,pureOp,binPure,intBin,strBin,eqPure,isConstO,unPure,sliceLo,sliceHi,slicePure,slice3Pure,lenPure,capPure,minPure,maxPure,buildP,resK,endV,yieldE,↓reduceIte,Nat.reduceEqDiff,reduceCtorEq,Nat.reduceAdd,Nat.reduceMul,Nat.reduceSub,Int.reduceLT,Int.reduceLE,Int.reduceToNat,Int.reduceAdd,Int.reduceSub,Int.reduceMul,ne_eq,decide_true,decide_false,tf71, he0, hB.cell, hf, errV]
    exact h w hR (Keep.refl _ _)
  | none =>
    rw [if_neg (by simp [hf])] at h
    have hmx : (if (if 64 < n then 64 else n) > 0 then if 64 < n then 64 else n else 0) = ((brought n : Nat) : Int) := by
      unfold brought
      split <;> split <;> (try split) <;> omega
    rw [c_assoc, c_assoc, c_assoc, c_assoc]
    refine c_seq_cut (fun e' w' => w' = w ∧ e' 0 = .pointer (some ⟨p, 0, none⟩) ∧ e' 1 = .int .i64 (brought n : Nat) ∧ e' 5 = .int .i64 (bitsOpen s : Nat)) ?_ ?_
    · simp -dsimp only [↓RE,↓c_seq,RU,RL,if_true,if_false,forall_const,implies_true,Nat.reduceLeDiff,Nat.reduceLT,pureOp,binPure,intBin,strBin,eqPure,isConstO,unPure,sliceLo,sliceHi,slicePure,slice3Pure,lenPure,capPure,minPure,maxPure,buildP,resK,endV,yieldE,↓reduceIte,Nat.reduceEqDiff,reduceCtorEq,Nat.reduceAdd,Nat.reduceMul,Nat.reduceSub,Int.reduceLT,Int.reduceLE,Int.reduceToNat,Int.reduceAdd,Int.reduceSub,Int.reduceMul,ne_eq,decide_true,decide_false,tf71, he0, he1, hB.cell, hf, errV, hmx]
      refine ⟨fun hb => ?_, fun hb => ?_⟩
      · have hw8 : IntKind.i64.wrap (8 - (s.bits : Int)) = ((8 - s.bits : Nat) : Int) := by rw [wrap_i64_in (by omega) (by omega)]; omega
        refine hold_intro ⟨rfl, ?_, ?_, ?_⟩
        · simp -dsimp only [↓RE,↓c_seq,RU,RL,if_true,if_false,forall_const,implies_true,Nat.reduceLeDiff,Nat.reduceLT,pureOp,binPure,intBin,strBin,eqPure,isConstO,unPure,sliceLo,sliceHi,slicePure,slice3Pure,lenPure,capPure,minPure,maxPure,buildP,resK,endV,yieldE,↓reduceIte,Nat.reduceEqDiff,reduceCtorEq,Nat.reduceAdd,Nat.reduceMul,Nat.reduceSub,Int.reduceLT,Int.reduceLE,Int.reduceToNat,Int.reduceAdd,Int.reduceSub,Int.reduceMul,ne_eq,decide_true,decide_false,tf71, he0]
        · simp -dsimp only [↓RE,↓c_seq,RU,RL,if_true,if_false,forall_const,implies_true,Nat.reduceLeDiff,Nat.reduceLT,pureOp,binPure,intBin,strBin,eqPure,isConstO,unPure,sliceLo,sliceHi,slicePure,slice3Pure,lenPure,capPure,minPure,maxPure,buildP,resK,endV,yieldE,↓reduceIte,Nat.reduceEqDiff,reduceCtorEq,Nat.reduceAdd,Nat.reduceMul,Nat.reduceSub,Int.reduceLT,Int.reduceLE,Int.reduceToNat,Int.reduceAdd,Int.reduceSub,Int.reduceMul,ne_eq,decide_true,decide_false,tf71, he1, hmx]
        · rw [show bitsOpen s = 8 - s.bits from if_pos (by omega)]
          simp -dsimp only [↓RE,↓c_seq,RU,RL,if_true,if_false,forall_const,implies_true,Nat.reduceLeDiff,Nat.reduceLT,pureOp,binPure,intBin,strBin,eqPure,isConstO,unPure,sliceLo,sliceHi,slicePure,slice3Pure,lenPure,capPure,minPure,maxPure,buildP,resK,endV,yieldE,↓reduceIte,Nat.reduceEqDiff,reduceCtorEq,Nat.reduceAdd,Nat.reduceMul,Nat.reduceSub,Int.reduceLT,Int.reduceLE,Int.reduceToNat,Int.reduceAdd,Int.reduceSub,Int.reduceMul,ne_eq,decide_true,decide_false,tf71, he0, hw8]
      · refine hold_intro ⟨rfl, ?_, ?_, ?_⟩
        · simp -dsimp only [↓RE,↓c_seq,RU,RL,if_true,if_false,forall_const,implies_true,Nat.reduceLeDiff,Nat.reduceLT,pureOp,binPure,intBin,strBin,eqPure,isConstO,unPure,sliceLo,sliceHi,slicePure,slice3Pure,lenPure,capPure,minPure,maxPure,buildP,resK,endV,yieldE,↓reduceIte,Nat.reduceEqDiff,reduceCtorEq,Nat.reduceAdd,Nat.reduceMul,Nat.reduceSub,Int.reduceLT,Int.reduceLE,Int.reduceToNat,Int.reduceAdd,Int.reduceSub,Int.reduceMul,ne_eq,decide_true,decide_false,tf71, he0]
        · simp -dsimp only [↓RE,↓c_seq,RU,RL,if_true,if_false,forall_const,implies_true,Nat.reduceLeDiff,Nat.reduceLT,pureOp,binPure,intBin,strBin,eqPure,isConstO,unPure,sliceLo,sliceHi,slicePure,slice3Pure,lenPure,capPure,minPure,maxPure,buildP,resK,endV,yieldE,↓reduceIte,Nat.reduceEqDiff,reduceCtorEq,Nat.reduceAdd,Nat.reduceMul,Nat.reduceSub,Int.reduceLT,Int.reduceLE,Int.reduceToNat,Int.reduceAdd,Int.reduceSub,Int.reduceMul,ne_eq,decide_true,decide_false,tf71, he1, hmx]
        · rw [show bitsOpen s = 0 from if_neg (by omega)]
          simp -dsimp only [↓RE,↓c_seq,RU,RL,if_true,if_false,forall_const,implies_true,Nat.reduceLeDiff,Nat.reduceLT,pureOp,binPure,intBin,strBin,eqPure,isConstO,unPure,sliceLo,sliceHi,slicePure,slice3Pure,lenPure,capPure,minPure,maxPure,buildP,resK,endV,yieldE,↓reduceIte,Nat.reduceEqDiff,reduceCtorEq,Nat.reduceAdd,Nat.reduceMul,Nat.reduceSub,Int.reduceLT,Int.reduceLE,Int.reduceToNat,Int.reduceAdd,Int.reduceSub,Int.reduceMul,ne_eq,decide_true,decide_false,tf71, he0, Int.cast_ofNat_Int]
    · rintro e' w' ⟨rfl, g0, g1, g5⟩
      have hop : bitsOpen s ≤ 8 := by unfold bitsOpen; split <;> omega
      rw [c_assoc]
      refine c_seq_cut (fun e2 w2 => Grow w' w2 ∧ e2 0 = .pointer (some ⟨p, 0, none⟩) ∧ e2 1 = .int .i64 (brought n : Nat) ∧ e2 6 = .int .u64 0 ∧ brought n ≤ bitsOpen s + 8 * (s.xs.length - s.pos)) ?_ ?_
      · by_cases hbo : ((bitsOpen s : Nat) : Int) < (brought n : Nat)
        · have hq1 : IntKind.i64.wrap (((brought n : Nat) : Int) - (bitsOpen s : Nat)) = ((brought n - bitsOpen s : Nat) : Int) := by rw [wrap_i64_in (by omega) (by omega)]; omega
          have hq2 : IntKind.i64.wrap (((brought n - bitsOpen s : Nat) : Int) + 7) = ((brought n - bitsOpen s + 7 : Nat) : Int) := by rw [wrap_i64_in (by omega) (by omega)]; rfl
          have hq3 : IntKind.i64.wrap (((brought n - bitsOpen s + 7 : Nat) : Int).tdiv 8) = (((brought n - bitsOpen s + 7) / 8 : Nat) : Int) := by
            rw [Int.tdiv_eq_ediv_of_nonneg (by omega), wrap_i64_in (by omega) (by omega)]; rfl
          simp -dsimp only [↓RE,↓c_seq,RU,RL,if_true,if_false,forall_const,implies_true,Nat.reduceLeDiff,Nat.reduceLT,pureOp,binPure,intBin,strBin,eqPure,isConstO,unPure,sliceLo,sliceHi,slicePure,slice3Pure,lenPure,capPure,minPure,maxPure,buildP,resK,endV,yieldE,↓reduceIte,Nat.reduceEqDiff,reduceCtorEq,Nat.reduceAdd,Nat.reduceMul,Nat.reduceSub,Int.reduceLT,Int.reduceLE,Int.reduceToNat,Int.reduceAdd,Int.reduceSub,Int.reduceMul,ne_eq,decide_true,decide_false,tf71, g0, g1, g5, hbo, hq1, hq2, hq3]
          refine ⟨by omega, ?_⟩
          try simp -dsimp only [↓RE,↓c_seq,RU,RL,if_true,if_false,forall_const,implies_true,Nat.reduceLeDiff,Nat.reduceLT,pureOp,binPure,intBin,strBin,eqPure,isConstO,unPure,sliceLo,sliceHi,slicePure,slice3Pure,lenPure,capPure,minPure,maxPure,buildP,resK,endV,yieldE,↓reduceIte,Nat.reduceEqDiff,reduceCtorEq,Nat.reduceAdd,Nat.reduceMul,Nat.reduceSub,Int.reduceLT,Int.reduceLE,Int.reduceToNat,Int.reduceAdd,Int.reduceSub,Int.reduceMul,ne_eq,decide_true,decide_false,tf71, g0, g1, g5, hbo, hq1, hq2, hq3]
          refine left_ok hR ok (fun w2 g2 => ?_)
          have hB2 := hB.grow g2
          have hR2 := hR.grow g2
          simp -dsimp only [↓RE,↓c_seq,RU,RL,if_true,if_false,forall_const,implies_true,Nat.reduceLeDiff,Nat.reduceLT,pureOp,binPure,intBin,strBin,eqPure,isConstO,unPure,sliceLo,sliceHi,slicePure,slice3Pure,lenPure,capPure,minPure,maxPure,buildP,resK,endV,yieldE,↓reduceIte,Nat.reduceEqDiff,reduceCtorEq,Nat.reduceAdd,Nat.reduceMul,Nat.reduceSub,Int.reduceLT,Int.reduceLE,Int.reduceToNat,Int.reduceAdd,Int.reduceSub,Int.reduceMul,ne_eq,decide_true,decide_false,tf71, g0, g1, g5, hbo, hq1, hq2, hq3]
          refine ⟨fun hgt => ?_, fun hng => ?_⟩
          · rw [if_pos (by omega)] at h
            try simp -dsimp only [↓RE,↓c_seq,RU,RL,if_true,if_false,forall_const,implies_true,Nat.reduceLeDiff,Nat.reduceLT,pureOp,binPure,intBin,strBin,eqPure,isConstO,unPure,sliceLo,sliceHi,slicePure,slice3Pure,lenPure,capPure,minPure,maxPure,buildP,resK,endV,yieldE,↓reduceIte,Nat.reduceEqDiff,reduceCtorEq,Nat.reduceAdd,Nat.reduceMul,Nat.reduceSub,Int.reduceLT,Int.reduceLE,Int.reduceToNat,Int.reduceAdd,Int.reduceSub,Int.reduceMul,ne_eq,decide_true,decide_false,tf71, g0, hB2.cell]
            refine fat_ok (by decide) ?_
            simp -dsimp only [↓RE,↓c_seq,RU,RL,if_true,if_false,forall_const,implies_true,Nat.reduceLeDiff,Nat.reduceLT,pureOp,binPure,intBin,strBin,eqPure,isConstO,unPure,sliceLo,sliceHi,slicePure,slice3Pure,lenPure,capPure,minPure,maxPure,buildP,resK,endV,yieldE,↓reduceIte,Nat.reduceEqDiff,reduceCtorEq,Nat.reduceAdd,Nat.reduceMul,Nat.reduceSub,Int.reduceLT,Int.reduceLE,Int.reduceToNat,Int.reduceAdd,Int.reduceSub,Int.reduceMul,ne_eq,decide_true,decide_false,tf71, g0]
            refine fail_ok hR2 (fun w3 hR3 k3 => ?_)
            simp -dsimp only [↓RE,↓c_seq,RU,RL,if_true,if_false,forall_const,implies_true,Nat.reduceLeDiff,Nat.reduceLT,pureOp,binPure,intBin,strBin,eqPure,isConstO,unPure,sliceLo,sliceHi,slicePure,slice3Pure,lenPure,capPure,minPure,maxPure,buildP,resK,endV,yieldE,↓reduceIte,Nat.reduceEqDiff,reduceCtorEq,Nat.reduceAdd,Nat.reduceMul,Nat.reduceSub,Int.reduceLT,Int.reduceLE,Int.reduceToNat,Int.reduceAdd,Int.reduceSub,Int.reduceMul,ne_eq,decide_true,decide_false,tf71, g0]
            exact h w3 hR3 (g2.then k3)
          · try simp -dsimp only [↓RE,↓c_seq,RU,RL,if_true,if_false,forall_const,implies_true,Nat.reduceLeDiff,Nat.reduceLT,pureOp,binPure,intBin,strBin,eqPure,isConstO,unPure,sliceLo,sliceHi,slicePure,slice3Pure,lenPure,capPure,minPure,maxPure,buildP,resK,endV,yieldE,↓reduceIte,Nat.reduceEqDiff,reduceCtorEq,Nat.reduceAdd,Nat.reduceMul,Nat.reduceSub,Int.reduceLT,Int.reduceLE,Int.reduceToNat,Int.reduceAdd,Int.reduceSub,Int.reduceMul,ne_eq,decide_true,decide_false,tf71, g0]
            refine hold_intro ⟨g2, ?_, ?_, ?_, by omega⟩
            · simp -dsimp only [↓RE,↓c_seq,RU,RL,if_true,if_false,forall_const,implies_true,Nat.reduceLeDiff,Nat.reduceLT,pureOp,binPure,intBin,strBin,eqPure,isConstO,unPure,sliceLo,sliceHi,slicePure,slice3Pure,lenPure,capPure,minPure,maxPure,buildP,resK,endV,yieldE,↓reduceIte,Nat.reduceEqDiff,reduceCtorEq,Nat.reduceAdd,Nat.reduceMul,Nat.reduceSub,Int.reduceLT,Int.reduceLE,Int.reduceToNat,Int.reduceAdd,Int.reduceSub,Int.reduceMul,ne_eq,decide_true,decide_false,tf71, g0]
            · simp -dsimp only [↓RE,↓c_seq,RU,RL,if_true,if_false,forall_const,implies_true,Nat.reduceLeDiff,Nat.reduceLT,pureOp,binPure,intBin,strBin,eqPure,isConstO,unPure,sliceLo,sliceHi,slicePure,slice3Pure,lenPure,capPure,minPure,maxPure,buildP,resK,endV,yieldE,↓reduceIte,Nat.reduceEqDiff,reduceCtorEq,Nat.reduceAdd,Nat.reduceMul,Nat.reduceSub,Int.reduceLT,Int.reduceLE,Int.reduceToNat,Int.reduceAdd,Int.reduceSub,Int.reduceMul,ne_eq,decide_true,decide_false,tf71, g1]
            · simp -dsimp only [↓RE,↓c_seq,RU,RL,if_true,if_false,forall_const,implies_true,Nat.reduceLeDiff,Nat.reduceLT,pureOp,binPure,intBin,strBin,eqPure,isConstO,unPure,sliceLo,sliceHi,slicePure,slice3Pure,lenPure,capPure,minPure,maxPure,buildP,resK,endV,yieldE,↓reduceIte,Nat.reduceEqDiff,reduceCtorEq,Nat.reduceAdd,Nat.reduceMul,Nat.reduceSub,Int.reduceLT,Int.reduceLE,Int.reduceToNat,Int.reduceAdd,Int.reduceSub,Int.reduceMul,ne_eq,decide_true,decide_false,tf71, g0]
        · simp -dsimp only [↓RE,↓c_seq,RU,RL,if_true,if_false,forall_const,implies_true,Nat.reduceLeDiff,Nat.reduceLT,pureOp,binPure,intBin,strBin,eqPure,isConstO,unPure,sliceLo,sliceHi,slicePure,slice3Pure,lenPure,capPure,minPure,maxPure,buildP,resK,endV,yieldE,↓reduceIte,Nat.reduceEqDiff,reduceCtorEq,Nat.reduceAdd,Nat.reduceMul,Nat.reduceSub,Int.reduceLT,Int.reduceLE,Int.reduceToNat,Int.reduceAdd,Int.reduceSub,Int.reduceMul,ne_eq,decide_true,decide_false,tf71, g0, g1, g5, hbo]
          refine hold_intro ⟨Keep.refl _ _, ?_, ?_, ?_, by omega⟩
          · simp -dsimp only [↓RE,↓c_seq,RU,RL,if_true,if_false,forall_const,implies_true,Nat.reduceLeDiff,Nat.reduceLT,pureOp,binPure,intBin,strBin,eqPure,isConstO,unPure,sliceLo,sliceHi,slicePure,slice3Pure,lenPure,capPure,minPure,maxPure,buildP,resK,endV,yieldE,↓reduceIte,Nat.reduceEqDiff,reduceCtorEq,Nat.reduceAdd,Nat.reduceMul,Nat.reduceSub,Int.reduceLT,Int.reduceLE,Int.reduceToNat,Int.reduceAdd,Int.reduceSub,Int.reduceMul,ne_eq,decide_true,decide_false,tf71, g0]
          · simp -dsimp only [↓RE,↓c_seq,RU,RL,if_true,if_false,forall_const,implies_true,Nat.reduceLeDiff,Nat.reduceLT,pureOp,binPure,intBin,strBin,eqPure,isConstO,unPure,sliceLo,sliceHi,slicePure,slice3Pure,lenPure,capPure,minPure,maxPure,buildP,resK,endV,yieldE,↓reduceIte,Nat.reduceEqDiff,reduceCtorEq,Nat.reduceAdd,Nat.reduceMul,Nat.reduceSub,Int.reduceLT,Int.reduceLE,Int.reduceToNat,Int.reduceAdd,Int.reduceSub,Int.reduceMul,ne_eq,decide_true,decide_false,tf71, g1]
          · simp -dsimp only [↓RE,↓c_seq,RU,RL,if_true,if_false,forall_const,implies_true,Nat.reduceLeDiff,Nat.reduceLT,pureOp,binPure,intBin,strBin,eqPure,isConstO,unPure,sliceLo,sliceHi,slicePure,slice3Pure,lenPure,capPure,minPure,maxPure,buildP,resK,endV,yieldE,↓reduceIte,Nat.reduceEqDiff,reduceCtorEq,Nat.reduceAdd,Nat.reduceMul,Nat.reduceSub,Int.reduceLT,Int.reduceLE,Int.reduceToNat,Int.reduceAdd,Int.reduceSub,Int.reduceMul,ne_eq,decide_true,decide_false,tf71, g0]
      · rintro e2 w2 ⟨g2, d0, d1, d6, hen⟩
        rw [if_neg (by omega)] at h
        generalize hm : brought n = m at hbr d1 hen h
        simp -dsimp only [↓RE,↓c_seq,RU,RL,if_true,if_false,forall_const,implies_true,Nat.reduceLeDiff,Nat.reduceLT,pureOp,binPure,intBin,strBin,eqPure,isConstO,unPure,sliceLo,sliceHi,slicePure,slice3Pure,lenPure,capPure,minPure,maxPure,buildP,resK,endV,yieldE,↓reduceIte,Nat.reduceEqDiff,reduceCtorEq,Nat.reduceAdd,Nat.reduceMul,Nat.reduceSub,Int.reduceLT,Int.reduceLE,Int.reduceToNat,Int.reduceAdd,Int.reduceSub,Int.reduceMul,ne_eq,decide_true,decide_false,tf71, d0, d1, d6]
        refine wpLoop_intro (fun e' w'' => e' 0 = .pointer (some ⟨p, 0, none⟩) ∧ e' 53 = .int .i64 (m : Nat) ∧ ∃ (k : Nat) (q : RS) (v : Int), k ≤ m ∧ e' 54 = .int .i64 (m - k : Nat) ∧ e' 6 = .int .u64 v ∧ 0 ≤ v ∧ v < 2 ^ (m - k) ∧ RAt w'' F p q ∧ RSok q ∧
          k ≤ bitsOpen q + 8 * (q.xs.length - q.pos) ∧ rBitsN k q v = rBitsN m s 0 ∧ Keep (fun k => k = p) w' w'') (fun e' _ => m - (envInt (e' 54)).toNat) ⟨?_, ?_, m, s, 0, Nat.le_refl _, ?_, ?_, by omega, ?_, hR.grow g2, ok, hen, rfl, Keep.mono g2 (fun _ _ h => h.elim)⟩ ?_
        · simp -dsimp only [↓RE,↓c_seq,RU,RL,if_true,if_false,forall_const,implies_true,Nat.reduceLeDiff,Nat.reduceLT,pureOp,binPure,intBin,strBin,eqPure,isConstO,unPure,sliceLo,sliceHi,slicePure,slice3Pure,lenPure,capPure,minPure,maxPure,buildP,resK,endV,yieldE,↓reduceIte,Nat.reduceEqDiff,reduceCtorEq,Nat.reduceAdd,Nat.reduceMul,Nat.reduceSub,Int.reduceLT,Int.reduceLE,Int.reduceToNat,Int.reduceAdd,Int.reduceSub,Int.reduceMul,ne_eq,decide_true,decide_false,tf71, d0]
        · simp -dsimp only [↓RE,↓c_seq,RU,RL,if_true,if_false,forall_const,implies_true,Nat.reduceLeDiff,Nat.reduceLT,pureOp,binPure,intBin,strBin,eqPure,isConstO,unPure,sliceLo,sliceHi,slicePure,slice3Pure,lenPure,capPure,minPure,maxPure,buildP,resK,endV,yieldE,↓reduceIte,Nat.reduceEqDiff,reduceCtorEq,Nat.reduceAdd,Nat.reduceMul,Nat.reduceSub,Int.reduceLT,Int.reduceLE,Int.reduceToNat,Int.reduceAdd,Int.reduceSub,Int.reduceMul,ne_eq,decide_true,decide_false,tf71, d1]
        · rw [Nat.sub_self]
          simp -dsimp only [↓RE,↓c_seq,RU,RL,if_true,if_false,forall_const,implies_true,Nat.reduceLeDiff,Nat.reduceLT,pureOp,binPure,intBin,strBin,eqPure,isConstO,unPure,sliceLo,sliceHi,slicePure,slice3Pure,lenPure,capPure,minPure,maxPure,buildP,resK,endV,yieldE,↓reduceIte,Nat.reduceEqDiff,reduceCtorEq,Nat.reduceAdd,Nat.reduceMul,Nat.reduceSub,Int.reduceLT,Int.reduceLE,Int.reduceToNat,Int.reduceAdd,Int.reduceSub,Int.reduceMul,ne_eq,decide_true,decide_false,tf71, Int.cast_ofNat_Int]
        · simp -dsimp only [↓RE,↓c_seq,RU,RL,if_true,if_false,forall_const,implies_true,Nat.reduceLeDiff,Nat.reduceLT,pureOp,binPure,intBin,strBin,eqPure,isConstO,unPure,sliceLo,sliceHi,slicePure,slice3Pure,lenPure,capPure,minPure,maxPure,buildP,resK,endV,yieldE,↓reduceIte,Nat.reduceEqDiff,reduceCtorEq,Nat.reduceAdd,Nat.reduceMul,Nat.reduceSub,Int.reduceLT,Int.reduceLE,Int.reduceToNat,Int.reduceAdd,Int.reduceSub,Int.reduceMul,ne_eq,decide_true,decide_false,tf71, d6]
        · rw [Nat.sub_self]; decide
        rintro e3 w3 ⟨f0, f53, k, q, v, hk, f54, f6, v0, v1, hR3, ok3, hen3, hrb, kw3⟩
        obtain ⟨A3, c3, hB3, hRd3, hp3, hc3, hF3⟩ := id hR3
        have hln3 := ok3.len
        have hb83 := ok3.b8
        rw [c_seq]
        simp -dsimp only [↓RE,RU,RL,if_true,if_false,forall_const,implies_true,Nat.reduceLeDiff,Nat.reduceLT,pureOp,binPure,intBin,strBin,eqPure,isConstO,unPure,sliceLo,sliceHi,slicePure,slice3Pure,lenPure,capPure,minPure,maxPure,buildP,resK,endV,yieldE,↓reduceIte,Nat.reduceEqDiff,reduceCtorEq,Nat.reduceAdd,Nat.reduceMul,Nat.reduceSub,Int.reduceLT,Int.reduceLE,Int.reduceToNat,Int.reduceAdd,Int.reduceSub,Int.reduceMul,ne_eq,decide_true,decide_false,tf71, f0, f53, f54, f6]
        rw [c_seq]
        simp -dsimp only [↓RE,RU,RL,if_true,if_false,forall_const,implies_true,Nat.reduceLeDiff,Nat.reduceLT,pureOp,binPure,intBin,strBin,eqPure,isConstO,unPure,sliceLo,sliceHi,slicePure,slice3Pure,lenPure,capPure,minPure,maxPure,buildP,resK,endV,yieldE,↓reduceIte,Nat.reduceEqDiff,reduceCtorEq,Nat.reduceAdd,Nat.reduceMul,Nat.reduceSub,Int.reduceLT,Int.reduceLE,Int.reduceToNat,Int.reduceAdd,Int.reduceSub,Int.reduceMul,ne_eq,decide_true,decide_false,tf71, f0, f53, f54, f6]
        refine ⟨fun hlt => ?_, fun hge => ?_⟩
        · obtain ⟨k, rfl⟩ : ∃ j, k = j + 1 := ⟨k - 1, by omega⟩
          obtain ⟨oks, hens, hpb, hp0⟩ := bitStep_ok ok3 (by omega)
          have hb01 := bitAt_01 q
          have hrb2 : rBitsN k (bitStep q) (v * 2 + bitAt q) = rBitsN m s 0 := hrb
          rw [c_seq]
          simp -dsimp only [↓RE,RU,RL,if_true,if_false,forall_const,implies_true,Nat.reduceLeDiff,Nat.reduceLT,pureOp,binPure,intBin,strBin,eqPure,isConstO,unPure,sliceLo,sliceHi,slicePure,slice3Pure,lenPure,capPure,minPure,maxPure,buildP,resK,endV,yieldE,↓reduceIte,Nat.reduceEqDiff,reduceCtorEq,Nat.reduceAdd,Nat.reduceMul,Nat.reduceSub,Int.reduceLT,Int.reduceLE,Int.reduceToNat,Int.reduceAdd,Int.reduceSub,Int.reduceMul,ne_eq,decide_true,decide_false,tf71, f0, f53, f54, f6]
          refine c_seq_cut (fun e4 w4 => e4 0 = .pointer (some ⟨p, 0, none⟩) ∧ e4 53 = .int .i64 (m : Nat) ∧ e4 54 = .int .i64 (m - (k + 1) : Nat) ∧ e4 6 = .int .u64 v ∧ Blk w4 p 98 [.slice A3 q.xs.length c3, .int .i64 (bitPos q : Nat), .int .i64 q.bits, errV q.fault] ∧ Rd w4 A3 q.xs.length 1 (q.xs.map (Value.int .u8)) ∧ Keep (fun k => k = p) w' w4) ?_ ?_
          · simp -dsimp only [↓RE,↓c_seq,RU,RL,if_true,if_false,forall_const,implies_true,Nat.reduceLeDiff,Nat.reduceLT,pureOp,binPure,intBin,strBin,eqPure,isConstO,unPure,sliceLo,sliceHi,slicePure,slice3Pure,lenPure,capPure,minPure,maxPure,buildP,resK,endV,yieldE,↓reduceIte,Nat.reduceEqDiff,reduceCtorEq,Nat.reduceAdd,Nat.reduceMul,Nat.reduceSub,Int.reduceLT,Int.reduceLE,Int.reduceToNat,Int.reduceAdd,Int.reduceSub,Int.reduceMul,ne_eq,decide_true,decide_false,tf71, f0, f53, f54, f6, hB3.cell]
            refine ⟨fun hz => ?_, fun hz => ?_⟩
            · have hbp : bitPos q = q.pos + 1 := if_pos (by omega)
              have hwp : IntKind.i64.wrap ((q.pos : Int) + 1) = ((q.pos + 1 : Nat) : Int) := by rw [wrap_i64_in (by omega) (by omega)]; rfl
              try simp -dsimp only [↓RE,↓c_seq,RU,RL,if_true,if_false,forall_const,implies_true,Nat.reduceLeDiff,Nat.reduceLT,pureOp,binPure,intBin,strBin,eqPure,isConstO,unPure,sliceLo,sliceHi,slicePure,slice3Pure,lenPure,capPure,minPure,maxPure,buildP,resK,endV,yieldE,↓reduceIte,Nat.reduceEqDiff,reduceCtorEq,Nat.reduceAdd,Nat.reduceMul,Nat.reduceSub,Int.reduceLT,Int.reduceLE,Int.reduceToNat,Int.reduceAdd,Int.reduceSub,Int.reduceMul,ne_eq,decide_true,decide_false,tf71, f0, f53, f54, f6, hB3.cell, hwp]
              refine hB3.st (by simp) ?_
              have k4 := Keep.set1 w3 p 1 (.int .i64 ((q.pos + 1 : Nat) : Int))
              try simp -dsimp only [↓RE,↓c_seq,RU,RL,if_true,if_false,forall_const,implies_true,Nat.reduceLeDiff,Nat.reduceLT,pureOp,binPure,intBin,strBin,eqPure,isConstO,unPure,sliceLo,sliceHi,slicePure,slice3Pure,lenPure,capPure,minPure,maxPure,buildP,resK,endV,yieldE,↓reduceIte,Nat.reduceEqDiff,reduceCtorEq,Nat.reduceAdd,Nat.reduceMul,Nat.reduceSub,Int.reduceLT,Int.reduceLE,Int.reduceToNat,Int.reduceAdd,Int.reduceSub,Int.reduceMul,ne_eq,decide_true,decide_false,tf71, f0, f53, f54, f6]
              refine hold_intro ⟨?_, ?_, ?_, ?_, by rw [hbp]; exact hB3.set 1 _, hRd3.keep0 k4 (fun h0 k hk e => hp3 h0 (e ▸ hk)), kw3.trans k4 (fun _ _ h => h) (fun _ _ h => h)⟩ <;> simp -dsimp only [↓RE,↓c_seq,RU,RL,if_true,if_false,forall_const,implies_true,Nat.reduceLeDiff,Nat.reduceLT,pureOp,binPure,intBin,strBin,eqPure,isConstO,unPure,sliceLo,sliceHi,slicePure,slice3Pure,lenPure,capPure,minPure,maxPure,buildP,resK,endV,yieldE,↓reduceIte,Nat.reduceEqDiff,reduceCtorEq,Nat.reduceAdd,Nat.reduceMul,Nat.reduceSub,Int.reduceLT,Int.reduceLE,Int.reduceToNat,Int.reduceAdd,Int.reduceSub,Int.reduceMul,ne_eq,decide_true,decide_false,tf71, f0, f53, f54, f6]
            · have hbp : bitPos q = q.pos := if_neg (by omega)
              try simp -dsimp only [↓RE,↓c_seq,RU,RL,if_true,if_false,forall_const,implies_true,Nat.reduceLeDiff,Nat.reduceLT,pureOp,binPure,intBin,strBin,eqPure,isConstO,unPure,sliceLo,sliceHi,slicePure,slice3Pure,lenPure,capPure,minPure,maxPure,buildP,resK,endV,yieldE,↓reduceIte,Nat.reduceEqDiff,reduceCtorEq,Nat.reduceAdd,Nat.reduceMul,Nat.reduceSub,Int.reduceLT,Int.reduceLE,Int.reduceToNat,Int.reduceAdd,Int.reduceSub,Int.reduceMul,ne_eq,decide_true,decide_false,tf71, f0, f53, f54, f6]
              refine hold_intro ⟨?_, ?_, ?_, ?_, by rw [hbp]; exact hB3, hRd3, kw3⟩ <;> simp -dsimp only [↓RE,↓c_seq,RU,RL,if_true,if_false,forall_const,implies_true,Nat.reduceLeDiff,Nat.reduceLT,pureOp,binPure,intBin,strBin,eqPure,isConstO,unPure,sliceLo,sliceHi,slicePure,slice3Pure,lenPure,capPure,minPure,maxPure,buildP,resK,endV,yieldE,↓reduceIte,Nat.reduceEqDiff,reduceCtorEq,Nat.reduceAdd,Nat.reduceMul,Nat.reduceSub,Int.reduceLT,Int.reduceLE,Int.reduceToNat,Int.reduceAdd,Int.reduceSub,Int.reduceMul,ne_eq,decide_true,decide_false,tf71, f0, f53, f54, f6]
          rintro e4 w4 ⟨d0', d53, d54, d6', hB4, hRd4, kw4⟩
          obtain ⟨ad, rfl, hcell⟩ := hRd4.int (k := bitPos q - 1) (by omega)
          have hbr4 := getD_mem_range ok3.bytes (bitPos q - 1)
          have hwb : IntKind.i64.wrap (((bitPos q : Nat) : Int) - 1) = ((bitPos q - 1 : Nat) : Int) := by rw [wrap_i64_in (by omega) (by omega)]; omega
          have hw7 : IntKind.i64.wrap (7 - (q.bits : Int)) = ((7 - q.bits : Nat) : Int) := by rw [wrap_i64_in (by omega) (by omega)]; omega
          have hp63 : (2 : Int) ^ (m - (k + 1)) ≤ 9223372036854775808 := by
            have h1 : (2 : Nat) ^ (m - (k + 1)) ≤ 2 ^ 63 := Nat.pow_le_pow_right (by omega) (by omega)
            have h2 : ((2 ^ (m - (k + 1)) : Nat) : Int) ≤ ((2 ^ 63 : Nat) : Int) := by omega
            simpa using h2
          have hv2 : v * 2 % 18446744073709551616 = v * 2 := Int.emod_eq_of_lt (by omega) (by omega)
          have hsh : shrOp .u8 (q.xs.getD (bitPos q - 1) 0) ((7 - q.bits : Nat) : Int) = q.xs.getD (bitPos q - 1) 0 / 2 ^ (7 - q.bits) := shr_eq .u8 _ _ (by simp [IntKind.bits]; omega) _ rfl
          have hand : bitsOp .and .u8 (q.xs.getD (bitPos q - 1) 0 / 2 ^ (7 - q.bits)) 1 = bitAt q :=
            and_u8_1 (Int.ediv_nonneg hbr4.1 (Int.le_of_lt (pow_pos2 _))) (Int.lt_of_le_of_lt (Int.ediv_le_self _ hbr4.1) hbr4.2)
          have hcv : bitAt q % 18446744073709551616 = bitAt q := by omega
          have hor : bitsOp .or .u64 (v * 2) (bitAt q) = v * 2 + bitAt q := or_join_u64 1 (by omega) (by omega) (by omega) (by omega) (by omega) (by omega)
          rw [c_seq]
          simp -dsimp only [↓RE,RU,RL,if_true,if_false,forall_const,implies_true,Nat.reduceLeDiff,Nat.reduceLT,pureOp,binPure,intBin,strBin,eqPure,isConstO,unPure,sliceLo,sliceHi,slicePure,slice3Pure,lenPure,capPure,minPure,maxPure,buildP,resK,endV,yieldE,↓reduceIte,Nat.reduceEqDiff,reduceCtorEq,Nat.reduceAdd,Nat.reduceMul,Nat.reduceSub,Int.reduceLT,Int.reduceLE,Int.reduceToNat,Int.reduceAdd,Int.reduceSub,Int.reduceMul,ne_eq,decide_true,decide_false,tf71, d0', d53, d54, d6']
          refine wpDraw_still (by kernel_rfl) ?_
          simp -dsimp only [↓RE,RU,RL,if_true,if_false,forall_const,implies_true,Nat.reduceLeDiff,Nat.reduceLT,pureOp,binPure,intBin,strBin,eqPure,isConstO,unPure,sliceLo,sliceHi,slicePure,slice3Pure,lenPure,capPure,minPure,maxPure,buildP,resK,endV,yieldE,↓reduceIte,Nat.reduceEqDiff,reduceCtorEq,Nat.reduceAdd,Nat.reduceMul,Nat.reduceSub,Int.reduceLT,Int.reduceLE,Int.reduceToNat,Int.reduceAdd,Int.reduceSub,Int.reduceMul,ne_eq,decide_true,decide_false,tf71, d0', d53, d54, d6', World.cell?_drew, hB4.cell, hwb, hw7, shl_u64_1, hv2, hcell, hsh, hand, wrap_u64, hcv, hor]
          refine ⟨⟨by omega, by omega⟩, by omega, by omega, ?_⟩
          rw [bits_mod hb83]
          refine Blk.st (w := w4.drew) hB4 (by simp) ?_
          have k5 : Keep (fun k => k = p) w4 (w4.drew.setCell ⟨p, 2, none⟩ (.int .i64 ((q.bits + 1) % 8 : Nat))) := (Grow.drew w4).then (Keep.set1 w4.drew p 2 _)
          try simp -dsimp only [↓RE,↓c_seq,RU,RL,if_true,if_false,forall_const,implies_true,Nat.reduceLeDiff,Nat.reduceLT,pureOp,binPure,intBin,strBin,eqPure,isConstO,unPure,sliceLo,sliceHi,slicePure,slice3Pure,lenPure,capPure,minPure,maxPure,buildP,resK,endV,yieldE,↓reduceIte,Nat.reduceEqDiff,reduceCtorEq,Nat.reduceAdd,Nat.reduceMul,Nat.reduceSub,Int.reduceLT,Int.reduceLE,Int.reduceToNat,Int.reduceAdd,Int.reduceSub,Int.reduceMul,ne_eq,decide_true,decide_false,tf71, d0', d53, d54, d6']
          refine hold_intro ⟨⟨?_, ?_, k, bitStep q, v * 2 + bitAt q, by omega, ?_, ?_, by omega, ?_, ⟨some ad, c3, Blk.set (w := w4.drew) hB4 2 _, hRd4.keep0 k5 (fun h0 k hk e => hp3 h0 (e ▸ hk)), hp3, hc3, hF3⟩, oks, by omega, hrb2, kw4.trans k5 (fun _ _ h => h) (fun _ _ h => h)⟩, ?_⟩
          · simp -dsimp only [↓RE,↓c_seq,RU,RL,if_true,if_false,forall_const,implies_true,Nat.reduceLeDiff,Nat.reduceLT,pureOp,binPure,intBin,strBin,eqPure,isConstO,unPure,sliceLo,sliceHi,slicePure,slice3Pure,lenPure,capPure,minPure,maxPure,buildP,resK,endV,yieldE,↓reduceIte,Nat.reduceEqDiff,reduceCtorEq,Nat.reduceAdd,Nat.reduceMul,Nat.reduceSub,Int.reduceLT,Int.reduceLE,Int.reduceToNat,Int.reduceAdd,Int.reduceSub,Int.reduceMul,ne_eq,decide_true,decide_false,tf71, d0', d53, d54, d6']
          · simp -dsimp only [↓RE,↓c_seq,RU,RL,if_true,if_false,forall_const,implies_true,Nat.reduceLeDiff,Nat.reduceLT,pureOp,binPure,intBin,strBin,eqPure,isConstO,unPure,sliceLo,sliceHi,slicePure,slice3Pure,lenPure,capPure,minPure,maxPure,buildP,resK,endV,yieldE,↓reduceIte,Nat.reduceEqDiff,reduceCtorEq,Nat.reduceAdd,Nat.reduceMul,Nat.reduceSub,Int.reduceLT,Int.reduceLE,Int.reduceToNat,Int.reduceAdd,Int.reduceSub,Int.reduceMul,ne_eq,decide_true,decide_false,tf71, d0', d53, d54, d6']
          · simp -dsimp only [↓RE,↓c_seq,RU,RL,if_true,if_false,forall_const,implies_true,Nat.reduceLeDiff,Nat.reduceLT,pureOp,binPure,intBin,strBin,eqPure,isConstO,unPure,sliceLo,sliceHi,slicePure,slice3Pure,lenPure,capPure,minPure,maxPure,buildP,resK,endV,yieldE,↓reduceIte,Nat.reduceEqDiff,reduceCtorEq,Nat.reduceAdd,Nat.reduceMul,Nat.reduceSub,Int.reduceLT,Int.reduceLE,Int.reduceToNat,Int.reduceAdd,Int.reduceSub,Int.reduceMul,ne_eq,decide_true,decide_false,tf71, d0', d53, d54, d6']
            rw [wrap_i64_in (by omega) (by omega)]; congr 1; omega
          · simp -dsimp only [↓RE,↓c_seq,RU,RL,if_true,if_false,forall_const,implies_true,Nat.reduceLeDiff,Nat.reduceLT,pureOp,binPure,intBin,strBin,eqPure,isConstO,unPure,sliceLo,sliceHi,slicePure,slice3Pure,lenPure,capPure,minPure,maxPure,buildP,resK,endV,yieldE,↓reduceIte,Nat.reduceEqDiff,reduceCtorEq,Nat.reduceAdd,Nat.reduceMul,Nat.reduceSub,Int.reduceLT,Int.reduceLE,Int.reduceToNat,Int.reduceAdd,Int.reduceSub,Int.reduceMul,ne_eq,decide_true,decide_false,tf71, d0', d53, d54, d6', shl_u64_1, hv2, hand, hsh, hcell, wrap_u64, hcv, hor]
          · rw [show m - k = (m - (k + 1)) + 1 by omega, Int.pow_succ]; omega
          · simp -dsimp only [↓RE,↓c_seq,RU,RL,if_true,if_false,forall_const,implies_true,Nat.reduceLeDiff,Nat.reduceLT,pureOp,binPure,intBin,strBin,eqPure,isConstO,unPure,sliceLo,sliceHi,slicePure,slice3Pure,lenPure,capPure,minPure,maxPure,buildP,resK,endV,yieldE,↓reduceIte,Nat.reduceEqDiff,reduceCtorEq,Nat.reduceAdd,Nat.reduceMul,Nat.reduceSub,Int.reduceLT,Int.reduceLE,Int.reduceToNat,Int.reduceAdd,Int.reduceSub,Int.reduceMul,ne_eq,decide_true,decide_false,tf71, d0', d53, d54, d6', f54]
            rw [wrap_i64_in (by omega) (by omega), envInt_int, envInt_int]; omega
        · obtain rfl : k = 0 := by omega
          have e0 : (q, v) = rBitsN m s 0 := hrb
          rw [← e0] at h
          try simp -dsimp only [↓RE,↓c_seq,RU,RL,if_true,if_false,forall_const,implies_true,Nat.reduceLeDiff,Nat.reduceLT,pureOp,binPure,intBin,strBin,eqPure,isConstO,unPure,sliceLo,sliceHi,slicePure,slice3Pure,lenPure,capPure,minPure,maxPure,buildP,resK,endV,yieldE,↓reduceIte,Nat.reduceEqDiff,reduceCtorEq,Nat.reduceAdd,Nat.reduceMul,Nat.reduceSub,Int.reduceLT,Int.reduceLE,Int.reduceToNat,Int.reduceAdd,Int.reduceSub,Int.reduceMul,ne_eq,decide_true,decide_false,tf71, f0, f53, f54, f6]
          exact h w3 hR3 kw3

end Go.Proofs.Ytpocfghkolppmaa
