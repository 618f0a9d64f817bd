/- series: where a time stands among samples in order. -/
import Derived.Test.YtcnebgokbjpjnaaGreatSerSpec
import Derived.Test.YtcnebgokbjpjnaaGreatTab
import Derived.Test.YtcnebgokbjpjnaaGreatSame
import Derived.Test.YtcnebgokbjpjnaaGreatCmpI
set_option linter.unusedVariables false
set_option linter.unusedSimpArgs false
set_option maxRecDepth 100000
namespace Go.Proofs.YtcnebgokbjpjnaaGreat
open Go

theorem findc_ok {w : World} {a k v t : Int} {R : VWK} (h : ∀ w', Grow w w' → R (.int .i64 (cmpI a t)) w') : CallsV Tryz.prog 85 [.agg #[.int .i64 a, .int .u8 k, .int .i64 v], .int .i64 t] w R := by
  refine calls_of_wpC mixed Tryz.func85 rfl (by kernel_rfl) ?_
  intro e he
  have he0 := he 0
  have he1 := he 1
  simp only [List.getD_cons_zero, List.getD_cons_succ] at he0 he1
  clear he
  have hb := Blk.new' w 89 #[.int .i64 a, .int .u8 k, .int .i64 v]
  have gb := Grow.alloc w (.cells #[.int .i64 a, .int .u8 k, .int .i64 v] 89)
  try simp -dsimp only [↓RE,↓c_seq,RU,RL,if_true,if_false,forall_const,implies_true,Nat.reduceLeDiff,Nat.reduceLT,pureOp,binPure,intBin,strBin,eqPure,isConstO,unPure,sliceLo,sliceHi,slicePure,slice3Pure,lenPure,capPure,minPure,maxPure,buildP,resK,endV,yieldE,↓reduceIte,Nat.reduceEqDiff,reduceCtorEq,Nat.reduceAdd,Nat.reduceMul,Nat.reduceSub,Int.reduceLT,Int.reduceLE,Int.reduceToNat,Int.reduceAdd,Int.reduceSub,Int.reduceMul,ne_eq,decide_true,decide_false,tf85, he0, he1, hb.cell]
  refine compare_ok ?_
  try simp -dsimp only [↓RE,↓c_seq,RU,RL,if_true,if_false,forall_const,implies_true,Nat.reduceLeDiff,Nat.reduceLT,pureOp,binPure,intBin,strBin,eqPure,isConstO,unPure,sliceLo,sliceHi,slicePure,slice3Pure,lenPure,capPure,minPure,maxPure,buildP,resK,endV,yieldE,↓reduceIte,Nat.reduceEqDiff,reduceCtorEq,Nat.reduceAdd,Nat.reduceMul,Nat.reduceSub,Int.reduceLT,Int.reduceLE,Int.reduceToNat,Int.reduceAdd,Int.reduceSub,Int.reduceMul,ne_eq,decide_true,decide_false,tf85, he0, he1]
  exact h _ gb

theorem bsearch_ok {w : World} {A : Option Addr} {n c : Nat} {l : List (Int × Int × Int)} (hR : Rd w A n 3 (l.flatMap scells)) (hn : n ≤ 5864062014634) (hr : Rise l) {t : Int} {R : VWK}
    (h : ∀ w' i, Grow w w' → Stand l t i → R (.tuple #[.int .i64 (i : Nat), .bool (isAt l t i)]) w') :
    CallsV Tryz.prog 84 [.slice A n c, .int .i64 t, .func (.func 85) #[] #[]] w R := by
  have hl := hR.flat3
  refine calls_of_wpC mixed Tryz.func84 rfl (by kernel_rfl) ?_
  intro e he
  have he0 := he 0
  have he1 := he 1
  have he2 := he 2
  simp only [List.getD_cons_zero, List.getD_cons_succ] at he0 he1 he2
  clear he
  try simp -dsimp only [↓RE,↓c_seq,RU,RL,if_true,if_false,forall_const,implies_true,Nat.reduceLeDiff,Nat.reduceLT,pureOp,binPure,intBin,strBin,eqPure,isConstO,unPure,sliceLo,sliceHi,slicePure,slice3Pure,lenPure,capPure,minPure,maxPure,buildP,resK,endV,yieldE,↓reduceIte,Nat.reduceEqDiff,reduceCtorEq,Nat.reduceAdd,Nat.reduceMul,Nat.reduceSub,Int.reduceLT,Int.reduceLE,Int.reduceToNat,Int.reduceAdd,Int.reduceSub,Int.reduceMul,ne_eq,decide_true,decide_false,tf84, he0, he1, he2]
  refine wpLoop_intro (fun e' w' => e' 0 = .slice A n c ∧ e' 1 = .int .i64 t ∧ e' 2 = .func (.func 85) #[] #[] ∧ e' 8 = .int .i64 n ∧ Grow w w' ∧ ∃ (i j : Nat), i ≤ j ∧ j ≤ n ∧ e' 9 = .int .i64 i ∧ e' 10 = .int .i64 j ∧
      (∀ k, k < i → (l.getD k (0, 0, 0)).1 < t) ∧ (∀ k, j ≤ k → k < n → t ≤ (l.getD k (0, 0, 0)).1)) (fun e' _ => (envInt (e' 10)).toNat - (envInt (e' 9)).toNat) ⟨?_, ?_, ?_, ?_, Keep.refl _ _, 0, n, Nat.zero_le _, Nat.le_refl _, ?_, ?_, fun k hk => absurd hk (by omega), fun k h1 h2 => absurd h2 (by omega)⟩ ?_
  · simp -dsimp only [↓RE,RU,RL,if_true,if_false,↓reduceIte,Nat.reduceEqDiff,reduceCtorEq,decide_true,decide_false, he0]
  · simp -dsimp only [↓RE,RU,RL,if_true,if_false,↓reduceIte,Nat.reduceEqDiff,reduceCtorEq,decide_true,decide_false, he1]
  · simp -dsimp only [↓RE,RU,RL,if_true,if_false,↓reduceIte,Nat.reduceEqDiff,reduceCtorEq,decide_true,decide_false, he2]
  · simp -dsimp only [↓RE,RU,RL,if_true,if_false,↓reduceIte,Nat.reduceEqDiff,reduceCtorEq,decide_true,decide_false, he0]
  · simp -dsimp only [↓RE,RU,RL,if_true,if_false,↓reduceIte,Nat.reduceEqDiff,reduceCtorEq,decide_true,decide_false, he0, Int.cast_ofNat_Int]
  · simp -dsimp only [↓RE,RU,RL,if_true,if_false,↓reduceIte,Nat.reduceEqDiff,reduceCtorEq,decide_true,decide_false, he0]
  rintro e' w' ⟨h0, h1, h2, h8, hg, i, j, hij, hjn, h9, h10, hlo, hhi⟩
  try simp -dsimp only [↓RE,↓c_seq,RU,RL,if_true,if_false,forall_const,implies_true,Nat.reduceLeDiff,Nat.reduceLT,pureOp,binPure,intBin,strBin,eqPure,isConstO,unPure,sliceLo,sliceHi,slicePure,slice3Pure,lenPure,capPure,minPure,maxPure,buildP,resK,endV,yieldE,↓reduceIte,Nat.reduceEqDiff,reduceCtorEq,Nat.reduceAdd,Nat.reduceMul,Nat.reduceSub,Int.reduceLT,Int.reduceLE,Int.reduceToNat,Int.reduceAdd,Int.reduceSub,Int.reduceMul,ne_eq,decide_true,decide_false,tf84, h0, h1, h2, h8, h9, h10]
  refine ⟨fun hlt => ?_, fun hge => ?_⟩
  · have hij' : i < j := by omega
    have hh := half_ok hij' (by omega)
    generalize hk : (i + j) / 2 = k at hh
    have hk1 : i ≤ k := by omega
    have hk2 : k < j := by omega
    obtain ⟨ad, rfl, hca, hcv, hcs⟩ := (hR.grow hg).smp (k := k) (by omega)
    try simp -dsimp only [↓RE,↓c_seq,RU,RL,if_true,if_false,forall_const,implies_true,Nat.reduceLeDiff,Nat.reduceLT,pureOp,binPure,intBin,strBin,eqPure,isConstO,unPure,sliceLo,sliceHi,slicePure,slice3Pure,lenPure,capPure,minPure,maxPure,buildP,resK,endV,yieldE,↓reduceIte,Nat.reduceEqDiff,reduceCtorEq,Nat.reduceAdd,Nat.reduceMul,Nat.reduceSub,Int.reduceLT,Int.reduceLE,Int.reduceToNat,Int.reduceAdd,Int.reduceSub,Int.reduceMul,ne_eq,decide_true,decide_false,tf84, h0, h1, h2, h8, h9, h10, hh]
    refine ⟨⟨by omega, by omega⟩, hcs ?_⟩
    try simp -dsimp only [↓RE,↓c_seq,RU,RL,if_true,if_false,forall_const,implies_true,Nat.reduceLeDiff,Nat.reduceLT,pureOp,binPure,intBin,strBin,eqPure,isConstO,unPure,sliceLo,sliceHi,slicePure,slice3Pure,lenPure,capPure,minPure,maxPure,buildP,resK,endV,yieldE,↓reduceIte,Nat.reduceEqDiff,reduceCtorEq,Nat.reduceAdd,Nat.reduceMul,Nat.reduceSub,Int.reduceLT,Int.reduceLE,Int.reduceToNat,Int.reduceAdd,Int.reduceSub,Int.reduceMul,ne_eq,decide_true,decide_false,tf84, h0, h1, h2, h8, h9, h10, hh]
    refine findc_ok (fun w2 g2 => ?_)
    try simp -dsimp only [↓RE,↓c_seq,RU,RL,if_true,if_false,forall_const,implies_true,Nat.reduceLeDiff,Nat.reduceLT,pureOp,binPure,intBin,strBin,eqPure,isConstO,unPure,sliceLo,sliceHi,slicePure,slice3Pure,lenPure,capPure,minPure,maxPure,buildP,resK,endV,yieldE,↓reduceIte,Nat.reduceEqDiff,reduceCtorEq,Nat.reduceAdd,Nat.reduceMul,Nat.reduceSub,Int.reduceLT,Int.reduceLE,Int.reduceToNat,Int.reduceAdd,Int.reduceSub,Int.reduceMul,ne_eq,decide_true,decide_false,tf84, h0, h1, h2, h8, h9, h10, hh]
    refine ⟨fun hc => ?_, fun hc => ?_⟩
    · rw [cmpI_lt] at hc
      try simp -dsimp only [↓RE,↓c_seq,RU,RL,if_true,if_false,forall_const,implies_true,Nat.reduceLeDiff,Nat.reduceLT,pureOp,binPure,intBin,strBin,eqPure,isConstO,unPure,sliceLo,sliceHi,slicePure,slice3Pure,lenPure,capPure,minPure,maxPure,buildP,resK,endV,yieldE,↓reduceIte,Nat.reduceEqDiff,reduceCtorEq,Nat.reduceAdd,Nat.reduceMul,Nat.reduceSub,Int.reduceLT,Int.reduceLE,Int.reduceToNat,Int.reduceAdd,Int.reduceSub,Int.reduceMul,ne_eq,decide_true,decide_false,tf84, h0, h1, h2, h8, h9, h10, hh]
      refine hold_intro ⟨⟨?_, ?_, ?_, ?_, hg.trans g2, k + 1, j, by omega, hjn, ?_, ?_, fun q hq => ?_, hhi⟩, ?_⟩
      · simp -dsimp only [↓RE,RU,RL,if_true,if_false,↓reduceIte,Nat.reduceEqDiff,reduceCtorEq,decide_true,decide_false, h0]
      · simp -dsimp only [↓RE,RU,RL,if_true,if_false,↓reduceIte,Nat.reduceEqDiff,reduceCtorEq,decide_true,decide_false, h1]
      · simp -dsimp only [↓RE,RU,RL,if_true,if_false,↓reduceIte,Nat.reduceEqDiff,reduceCtorEq,decide_true,decide_false, h2]
      · simp -dsimp only [↓RE,RU,RL,if_true,if_false,↓reduceIte,Nat.reduceEqDiff,reduceCtorEq,decide_true,decide_false, h8]
      · simp -dsimp only [↓RE,RU,RL,if_true,if_false,↓reduceIte,Nat.reduceEqDiff,reduceCtorEq,decide_true,decide_false, hh]
        rw [wrap_i64_in (by omega) (by omega)]; rfl
      · simp -dsimp only [↓RE,RU,RL,if_true,if_false,↓reduceIte,Nat.reduceEqDiff,reduceCtorEq,decide_true,decide_false, h10]
      · rcases Nat.lt_or_eq_of_le (Nat.lt_succ_iff.1 hq) with hq | rfl
        · exact Int.lt_trans (hr.at q k hq (by omega)) hc
        · exact hc
      · simp -dsimp only [↓RE,RU,RL,if_true,if_false,↓reduceIte,Nat.reduceEqDiff,reduceCtorEq,decide_true,decide_false, h9, h10, hh]
        rw [wrap_i64_in (by omega) (by omega)]; simp only [envInt_int]; omega
    · rw [cmpI_lt] at hc
      try simp -dsimp only [↓RE,↓c_seq,RU,RL,if_true,if_false,forall_const,implies_true,Nat.reduceLeDiff,Nat.reduceLT,pureOp,binPure,intBin,strBin,eqPure,isConstO,unPure,sliceLo,sliceHi,slicePure,slice3Pure,lenPure,capPure,minPure,maxPure,buildP,resK,endV,yieldE,↓reduceIte,Nat.reduceEqDiff,reduceCtorEq,Nat.reduceAdd,Nat.reduceMul,Nat.reduceSub,Int.reduceLT,Int.reduceLE,Int.reduceToNat,Int.reduceAdd,Int.reduceSub,Int.reduceMul,ne_eq,decide_true,decide_false,tf84, h0, h1, h2, h8, h9, h10, hh]
      refine hold_intro ⟨⟨?_, ?_, ?_, ?_, hg.trans g2, i, k, by omega, by omega, ?_, ?_, hlo, fun q hq hqn => ?_⟩, ?_⟩
      · simp -dsimp only [↓RE,RU,RL,if_true,if_false,↓reduceIte,Nat.reduceEqDiff,reduceCtorEq,decide_true,decide_false, h0]
      · simp -dsimp only [↓RE,RU,RL,if_true,if_false,↓reduceIte,Nat.reduceEqDiff,reduceCtorEq,decide_true,decide_false, h1]
      · simp -dsimp only [↓RE,RU,RL,if_true,if_false,↓reduceIte,Nat.reduceEqDiff,reduceCtorEq,decide_true,decide_false, h2]
      · simp -dsimp only [↓RE,RU,RL,if_true,if_false,↓reduceIte,Nat.reduceEqDiff,reduceCtorEq,decide_true,decide_false, h8]
      · simp -dsimp only [↓RE,RU,RL,if_true,if_false,↓reduceIte,Nat.reduceEqDiff,reduceCtorEq,decide_true,decide_false, h9]
      · simp -dsimp only [↓RE,RU,RL,if_true,if_false,↓reduceIte,Nat.reduceEqDiff,reduceCtorEq,decide_true,decide_false, hh]
      · rcases Nat.lt_or_eq_of_le hq with hq | rfl
        · exact Int.le_of_lt (Int.lt_of_le_of_lt (Int.not_lt.1 hc) (hr.at k q hq (by omega)))
        · exact Int.not_lt.1 hc
      · simp -dsimp only [↓RE,RU,RL,if_true,if_false,↓reduceIte,Nat.reduceEqDiff,reduceCtorEq,decide_true,decide_false, h9, h10, hh]
        simp only [envInt_int]; omega
  · obtain rfl : i = j := by omega
    rcases Nat.lt_or_ge i n with hin | hin
    · have hdi : ((i : Int) < (n : Int)) = True := eq_true (by omega)
      obtain ⟨ad, rfl, hca, hcv, hcs⟩ := (hR.grow hg).smp (k := i) (by omega)
      try simp -dsimp only [↓RE,↓c_seq,RU,RL,if_true,if_false,forall_const,implies_true,Nat.reduceLeDiff,Nat.reduceLT,pureOp,binPure,intBin,strBin,eqPure,isConstO,unPure,sliceLo,sliceHi,slicePure,slice3Pure,lenPure,capPure,minPure,maxPure,buildP,resK,endV,yieldE,↓reduceIte,Nat.reduceEqDiff,reduceCtorEq,Nat.reduceAdd,Nat.reduceMul,Nat.reduceSub,Int.reduceLT,Int.reduceLE,Int.reduceToNat,Int.reduceAdd,Int.reduceSub,Int.reduceMul,ne_eq,decide_true,decide_false,tf84, h0, h1, h2, h8, h9, h10, hdi, not_true_eq_false, not_false_eq_true, false_implies, true_implies, and_true, true_and]
      refine ⟨by omega, hcs ?_⟩
      try simp -dsimp only [↓RE,↓c_seq,RU,RL,if_true,if_false,forall_const,implies_true,Nat.reduceLeDiff,Nat.reduceLT,pureOp,binPure,intBin,strBin,eqPure,isConstO,unPure,sliceLo,sliceHi,slicePure,slice3Pure,lenPure,capPure,minPure,maxPure,buildP,resK,endV,yieldE,↓reduceIte,Nat.reduceEqDiff,reduceCtorEq,Nat.reduceAdd,Nat.reduceMul,Nat.reduceSub,Int.reduceLT,Int.reduceLE,Int.reduceToNat,Int.reduceAdd,Int.reduceSub,Int.reduceMul,ne_eq,decide_true,decide_false,tf84, h0, h1, h2, h8, h9, h10, hdi, not_true_eq_false, not_false_eq_true, false_implies, true_implies, and_true, true_and]
      refine findc_ok (fun w2 g2 => ?_)
      have hd : decide (cmpI (l.getD i (0, 0, 0)).1 t = 0) = isAt l t i := by
        rw [isAt, hl]
        simp only [cmpI_eq, hin, true_and]
      try simp -dsimp only [↓RE,↓c_seq,RU,RL,if_true,if_false,forall_const,implies_true,Nat.reduceLeDiff,Nat.reduceLT,pureOp,binPure,intBin,strBin,eqPure,isConstO,unPure,sliceLo,sliceHi,slicePure,slice3Pure,lenPure,capPure,minPure,maxPure,buildP,resK,endV,yieldE,↓reduceIte,Nat.reduceEqDiff,reduceCtorEq,Nat.reduceAdd,Nat.reduceMul,Nat.reduceSub,Int.reduceLT,Int.reduceLE,Int.reduceToNat,Int.reduceAdd,Int.reduceSub,Int.reduceMul,ne_eq,decide_true,decide_false,tf84, h0, h1, h2, h8, h9, h10, hdi, not_true_eq_false, not_false_eq_true, false_implies, true_implies, and_true, true_and, hd]
      exact h w2 i (hg.trans g2) ⟨by omega, hlo, fun j h1 h2 => hhi j h1 (by omega)⟩
    · have hd : (false : Bool) = isAt l t i := by
        rw [isAt, hl]; symm; rw [decide_eq_false_iff_not]; omega
      have hdi : ((i : Int) < (n : Int)) = False := eq_false (by omega)
      try simp -dsimp only [↓RE,↓c_seq,RU,RL,if_true,if_false,forall_const,implies_true,Nat.reduceLeDiff,Nat.reduceLT,pureOp,binPure,intBin,strBin,eqPure,isConstO,unPure,sliceLo,sliceHi,slicePure,slice3Pure,lenPure,capPure,minPure,maxPure,buildP,resK,endV,yieldE,↓reduceIte,Nat.reduceEqDiff,reduceCtorEq,Nat.reduceAdd,Nat.reduceMul,Nat.reduceSub,Int.reduceLT,Int.reduceLE,Int.reduceToNat,Int.reduceAdd,Int.reduceSub,Int.reduceMul,ne_eq,decide_true,decide_false,tf84, h0, h1, h2, h8, h9, h10, hdi, not_true_eq_false, not_false_eq_true, false_implies, true_implies, and_true, true_and, undef]
      have := h w' i hg ⟨by omega, hlo, fun j h1 h2 => hhi j h1 (by omega)⟩
      rw [← hd] at this
      exact this
theorem find_ok {w : World} {g o : Nat} {A : Option Addr} {n c : Nat} {l : List (Int × Int × Int)} (hp : w.cell? ⟨g, o, none⟩ = some (.slice A n c)) (hR : Rd w A n 3 (l.flatMap scells)) (hn : n ≤ 5864062014634) (hr : Rise l) {t : Int} {R : VWK}
    (h : ∀ w' i, Grow w w' → Stand l t i → R (.tuple #[.int .i64 (i : Nat), .bool (isAt l t i)]) w') :
    CallsV Tryz.prog 74 [.pointer (some ⟨g, o, none⟩), .int .i64 t] w R := by
  refine calls_of_wpC mixed Tryz.func74 rfl (by kernel_rfl) ?_
  intro e he
  have he0 := he 0
  have he1 := he 1
  simp only [List.getD_cons_zero, List.getD_cons_succ] at he0 he1
  clear he
  try simp -dsimp only [↓RE,↓c_seq,RU,RL,if_true,if_false,forall_const,implies_true,Nat.reduceLeDiff,Nat.reduceLT,pureOp,binPure,intBin,strBin,eqPure,isConstO,unPure,sliceLo,sliceHi,slicePure,slice3Pure,lenPure,capPure,minPure,maxPure,buildP,resK,endV,yieldE,↓reduceIte,Nat.reduceEqDiff,reduceCtorEq,Nat.reduceAdd,Nat.reduceMul,Nat.reduceSub,Int.reduceLT,Int.reduceLE,Int.reduceToNat,Int.reduceAdd,Int.reduceSub,Int.reduceMul,ne_eq,decide_true,decide_false,tf74, he0, he1, hp]
  refine bsearch_ok hR hn hr (fun w' i g1 h1 => ?_)
  try simp -dsimp only [↓RE,↓c_seq,RU,RL,if_true,if_false,forall_const,implies_true,Nat.reduceLeDiff,Nat.reduceLT,pureOp,binPure,intBin,strBin,eqPure,isConstO,unPure,sliceLo,sliceHi,slicePure,slice3Pure,lenPure,capPure,minPure,maxPure,buildP,resK,endV,yieldE,↓reduceIte,Nat.reduceEqDiff,reduceCtorEq,Nat.reduceAdd,Nat.reduceMul,Nat.reduceSub,Int.reduceLT,Int.reduceLE,Int.reduceToNat,Int.reduceAdd,Int.reduceSub,Int.reduceMul,ne_eq,decide_true,decide_false,tf74, he0, he1, hp]
  exact h w' i g1 h1

end Go.Proofs.YtcnebgokbjpjnaaGreat
