/- The times that steps name. -/
import Derived.Test.YtcnebgokbjpjnaaGreatAlike8
set_option linter.unusedVariables false
set_option linter.unusedSimpArgs false
set_option maxRecDepth 100000
namespace Go.Proofs.YtcnebgokbjpjnaaGreat
open Go

theorem named_ok {w : World} {A : Option Addr} {n c : Nat} {ops : List StepV} (hR : Rd w A n 6 (ops.flatMap StepV.cells)) (ho : ∀ o ∈ ops, o.Ok w) (hn : n ≤ 1099511627776) {R : VWK}
    (h : ∀ w' A' c' (ts : List Int), IRow w' (.slice A' ts.length c') ts → ts.length ≤ 2 + 6 * n → Grow w w' → (∀ q, fpA A' q → w.heap.size ≤ q) → R (.slice A' ts.length c') w') :
    CallsV Tryz.prog 17 [.slice A n c] w R := by
  have hl := hR.steps_len
  refine calls_of_wpC mixed Tryz.func17 rfl (by kernel_rfl) ?_
  intro e he
  have he0 := he 0
  simp only [List.getD_cons_zero, List.getD_cons_succ] at he0
  clear he
  rw [c_seq]
  simp -dsimp only [↓RE,RU,RL,if_true,if_false,forall_const,implies_true,Nat.reduceLeDiff,Nat.reduceLT,pureOp,binPure,intBin,strBin,eqPure,isConstO,unPure,sliceLo,sliceHi,slicePure,slice3Pure,lenPure,capPure,minPure,maxPure,buildP,resK,endV,yieldE,↓reduceIte,Nat.reduceEqDiff,reduceCtorEq,Nat.reduceAdd,Nat.reduceMul,Nat.reduceSub,Int.reduceLT,Int.reduceLE,Int.reduceToNat,Int.reduceAdd,Int.reduceSub,Int.reduceMul,ne_eq,decide_true,decide_false,tf17, he0]
  rw [c_seq]
  simp -dsimp only [↓RE,RU,RL,if_true,if_false,forall_const,implies_true,Nat.reduceLeDiff,Nat.reduceLT,pureOp,binPure,intBin,strBin,eqPure,isConstO,unPure,sliceLo,sliceHi,slicePure,slice3Pure,lenPure,capPure,minPure,maxPure,buildP,resK,endV,yieldE,↓reduceIte,Nat.reduceEqDiff,reduceCtorEq,Nat.reduceAdd,Nat.reduceMul,Nat.reduceSub,Int.reduceLT,Int.reduceLE,Int.reduceToNat,Int.reduceAdd,Int.reduceSub,Int.reduceMul,ne_eq,decide_true,decide_false,tf17, he0]
  have hI0 : IRow (w.alloc (.cells #[.int .i64 (-9223372036854775808), .int .i64 9223372036854775807] 2)) (.slice (some ⟨w.heap.size, 0, none⟩) 2 2) [-9223372036854775808, 9223372036854775807] :=
    LRow.of_own (own_new w 2 1 2 #[.int .i64 (-9223372036854775808), .int .i64 9223372036854775807] rfl (by simp [maxLen]))
  have g0 := Grow.alloc w (.cells #[.int .i64 (-9223372036854775808), .int .i64 9223372036854775807] 2)
  refine c_seq_cut (fun e' w' => ∃ (vt : Value) (ts : List Int), e' 3 = vt ∧ IRow w' vt ts ∧ ts.length ≤ 2 + 6 * n ∧ (∀ q, fpV vt q → w.heap.size ≤ q) ∧ Grow w w') ?_ ?_
  · rw [c_seq]
    simp -dsimp only [↓RE,RU,RL,if_true,if_false,forall_const,implies_true,Nat.reduceLeDiff,Nat.reduceLT,pureOp,binPure,intBin,strBin,eqPure,isConstO,unPure,sliceLo,sliceHi,slicePure,slice3Pure,lenPure,capPure,minPure,maxPure,buildP,resK,endV,yieldE,↓reduceIte,Nat.reduceEqDiff,reduceCtorEq,Nat.reduceAdd,Nat.reduceMul,Nat.reduceSub,Int.reduceLT,Int.reduceLE,Int.reduceToNat,Int.reduceAdd,Int.reduceSub,Int.reduceMul,ne_eq,decide_true,decide_false,tf17, he0]
    refine wpLoop_intro (fun e' w' => e' 0 = .slice A n c ∧ ∃ (i : Nat) (vt : Value) (ts : List Int), i ≤ n ∧ e' 4 = .int .i64 i ∧ e' 3 = vt ∧ IRow w' vt ts ∧ ts.length ≤ 2 + 6 * i ∧ (∀ q, fpV vt q → w.heap.size ≤ q) ∧ Grow w w')
      (fun e' _ => n - (envInt (e' 4)).toNat) ⟨?_, 0, .slice (some ⟨w.heap.size, 0, none⟩) 2 2, _, Nat.zero_le _, ?_, ?_, hI0, Nat.le_refl _, fun q hq => by rw [fpV_some] at hq; simp only at hq; omega, g0⟩ ?_
    · simp -dsimp only [↓RE,RU,RL,if_true,if_false,↓reduceIte,Nat.reduceEqDiff,reduceCtorEq,decide_true,decide_false, he0]
    · simp -dsimp only [↓RE,RU,RL,if_true,if_false,↓reduceIte,Nat.reduceEqDiff,reduceCtorEq,decide_true,decide_false, he0, Int.cast_ofNat_Int]
    · simp -dsimp only [↓RE,RU,RL,if_true,if_false,↓reduceIte,Nat.reduceEqDiff,reduceCtorEq,decide_true,decide_false, he0]
    clear he0
    rintro e' w' ⟨he0, i, vt, ts, hi, he4, he3, hI, hIl, hIf, hg⟩
    obtain ⟨At, ct, hvt, _, _⟩ := hI.form
    subst hvt
    rw [c_seq, c_seq]
    simp -dsimp only [↓RE,RU,RL,if_true,if_false,forall_const,implies_true,Nat.reduceLeDiff,Nat.reduceLT,pureOp,binPure,intBin,strBin,eqPure,isConstO,unPure,sliceLo,sliceHi,slicePure,slice3Pure,lenPure,capPure,minPure,maxPure,buildP,resK,endV,yieldE,↓reduceIte,Nat.reduceEqDiff,reduceCtorEq,Nat.reduceAdd,Nat.reduceMul,Nat.reduceSub,Int.reduceLT,Int.reduceLE,Int.reduceToNat,Int.reduceAdd,Int.reduceSub,Int.reduceMul,ne_eq,decide_true,decide_false,tf17, he0, he4]
    refine ⟨fun hlt => ?_, fun hge => ?_⟩
    · have hin : i < n := by omega
      obtain ⟨ad, rfl⟩ := hR.some (by omega)
      have hoi : (ops.getD i step0).Ok w := by rw [stepD_lt (by omega)]; exact ho _ (List.getElem_mem _)
      have st : ∀ w1, Grow w w1 → w1.cell? (ad.add (i * 6)) = some (.int .i64 (ops.getD i step0).k) ∧ w1.cell? ((ad.add (i * 6)).add 1) = some (.int .i64 (ops.getD i step0).t) ∧ w1.cell? ((ad.add (i * 6)).add 2) = some (.int .i64 (ops.getD i step0).u) ∧
          w1.cell? ((ad.add (i * 6)).add 5) = some (.slice (ops.getD i step0).A (ops.getD i step0).m (ops.getD i step0).c) := fun w1 g1 => by
        obtain ⟨a1, a2, a3, a4, _⟩ := (hR.grow g1).stp' hin
        exact ⟨a1, a2, a3, a4⟩
      have hw1 : IntKind.i64.wrap ((i : Int) + 1) = ((i + 1 : Nat) : Int) := by rw [wrap_i64_in (by omega) (by omega)]; omega
      generalize ops.getD i step0 = o at hoi st
      obtain ⟨hk, ht, _, _⟩ := st w' hg
      have hbx := Blk.new' w' 2 #[.int .i64 o.t]
      have gx := Grow.alloc w' (.cells #[.int .i64 o.t] 2)
      have hsg := hg.size
      rw [c_seq]
      simp -dsimp only [↓RE,RU,RL,if_true,if_false,forall_const,implies_true,Nat.reduceLeDiff,Nat.reduceLT,pureOp,binPure,intBin,strBin,eqPure,isConstO,unPure,sliceLo,sliceHi,slicePure,slice3Pure,lenPure,capPure,minPure,maxPure,buildP,resK,endV,yieldE,↓reduceIte,Nat.reduceEqDiff,reduceCtorEq,Nat.reduceAdd,Nat.reduceMul,Nat.reduceSub,Int.reduceLT,Int.reduceLE,Int.reduceToNat,Int.reduceAdd,Int.reduceSub,Int.reduceMul,ne_eq,decide_true,decide_false,tf17, he0]
      rw [c_seq]
      simp -dsimp only [↓RE,RU,RL,if_true,if_false,forall_const,implies_true,Nat.reduceLeDiff,Nat.reduceLT,pureOp,binPure,intBin,strBin,eqPure,isConstO,unPure,sliceLo,sliceHi,slicePure,slice3Pure,lenPure,capPure,minPure,maxPure,buildP,resK,endV,yieldE,↓reduceIte,Nat.reduceEqDiff,reduceCtorEq,Nat.reduceAdd,Nat.reduceMul,Nat.reduceSub,Int.reduceLT,Int.reduceLE,Int.reduceToNat,Int.reduceAdd,Int.reduceSub,Int.reduceMul,ne_eq,decide_true,decide_false,tf17, he0, he3, he4, ht]
      refine ⟨by omega, ?_⟩
      refine app_int (hI.grow gx) hbx (by omega) (fun A2 c2 w2 hI2 k2 f2 => ?_)
      have hsx := gx.size
      have g2 : Grow w w2 := (hg.trans gx).above k2 (fun q hq e => by have := hIf q e; omega)
      have hf2 : ∀ q, fpV (.slice A2 (ts.length + 1) c2) q → w.heap.size ≤ q := fun q hq => (f2 q hq).elim (hIf q) (fun e => by omega)
      have hl2 : (ts ++ [o.t]).length = ts.length + 1 := by rw [List.length_append]; rfl
      obtain ⟨hk2, _, hu2, _⟩ := st w2 g2
      rw [← hl2] at hI2 hf2
      simp -dsimp only [↓RE,RU,RL,if_true,if_false,forall_const,implies_true,Nat.reduceLeDiff,Nat.reduceLT,pureOp,binPure,intBin,strBin,eqPure,isConstO,unPure,sliceLo,sliceHi,slicePure,slice3Pure,lenPure,capPure,minPure,maxPure,buildP,resK,endV,yieldE,↓reduceIte,Nat.reduceEqDiff,reduceCtorEq,Nat.reduceAdd,Nat.reduceMul,Nat.reduceSub,Int.reduceLT,Int.reduceLE,Int.reduceToNat,Int.reduceAdd,Int.reduceSub,Int.reduceMul,ne_eq,decide_true,decide_false,tf17, he0]
      refine c_seq_cut (fun e' w' => e' 0 = .slice (some ad) n c ∧ e' 4 = .int .i64 i ∧ ∃ (vt : Value) (ts : List Int), e' 3 = vt ∧ IRow w' vt ts ∧ ts.length ≤ 4 + 6 * i ∧ (∀ q, fpV vt q → w.heap.size ≤ q) ∧ Grow w w') ?_ ?_
      · rw [c_seq]
        cases hk : decide (o.k = 2) with
        | false =>
          simp -dsimp only [↓RE,RU,RL,if_true,if_false,forall_const,implies_true,Nat.reduceLeDiff,Nat.reduceLT,pureOp,binPure,intBin,strBin,eqPure,isConstO,unPure,sliceLo,sliceHi,slicePure,slice3Pure,lenPure,capPure,minPure,maxPure,buildP,resK,endV,yieldE,↓reduceIte,Nat.reduceEqDiff,reduceCtorEq,Nat.reduceAdd,Nat.reduceMul,Nat.reduceSub,Int.reduceLT,Int.reduceLE,Int.reduceToNat,Int.reduceAdd,Int.reduceSub,Int.reduceMul,ne_eq,decide_true,decide_false,tf17, he0, he4, hk2, hk, add_zero']
          refine ⟨by omega, hold_intro ⟨by simp -dsimp only [↓RE,RU,RL,if_true,if_false,↓reduceIte,Nat.reduceEqDiff,reduceCtorEq,decide_true,decide_false, he0], by simp -dsimp only [↓RE,RU,RL,if_true,if_false,↓reduceIte,Nat.reduceEqDiff,reduceCtorEq,decide_true,decide_false, he4], .slice A2 (ts ++ [o.t]).length c2, _, ?_, hI2, by omega, hf2, g2⟩⟩
          rw [hl2]
          simp -dsimp only [↓RE,↓c_seq,RU,RL,if_true,if_false,forall_const,implies_true,Nat.reduceLeDiff,Nat.reduceLT,pureOp,binPure,intBin,strBin,eqPure,isConstO,unPure,sliceLo,sliceHi,slicePure,slice3Pure,lenPure,capPure,minPure,maxPure,buildP,resK,endV,yieldE,↓reduceIte,Nat.reduceEqDiff,reduceCtorEq,Nat.reduceAdd,Nat.reduceMul,Nat.reduceSub,Int.reduceLT,Int.reduceLE,Int.reduceToNat,Int.reduceAdd,Int.reduceSub,Int.reduceMul,ne_eq,decide_true,decide_false,tf17, he0]
        | true =>
          have hbx2 := Blk.new' w2 2 #[.int .i64 o.u]
          have gx2 := Grow.alloc w2 (.cells #[.int .i64 o.u] 2)
          have hs2 := g2.size
          rw [hl2] at hI2 hf2
          have hI2' := hI2
          simp -dsimp only [↓RE,RU,RL,if_true,if_false,forall_const,implies_true,Nat.reduceLeDiff,Nat.reduceLT,pureOp,binPure,intBin,strBin,eqPure,isConstO,unPure,sliceLo,sliceHi,slicePure,slice3Pure,lenPure,capPure,minPure,maxPure,buildP,resK,endV,yieldE,↓reduceIte,Nat.reduceEqDiff,reduceCtorEq,Nat.reduceAdd,Nat.reduceMul,Nat.reduceSub,Int.reduceLT,Int.reduceLE,Int.reduceToNat,Int.reduceAdd,Int.reduceSub,Int.reduceMul,ne_eq,decide_true,decide_false,tf17, he0, he4, hk2, hk, hu2, add_zero']
          refine ⟨by omega, by omega, ?_⟩
          refine app_int (l := ts ++ [o.t]) (hI2'.grow gx2) hbx2 (by omega) (fun A3 c3 w3 hI3 k3 f3 => ?_)
          have g3 : Grow w w3 := (g2.trans gx2).above k3 (fun q hq e => by have := hf2 q e; omega)
          have hs3 := gx2.size
          have hl3 : (ts ++ [o.t] ++ [o.u]).length = (ts ++ [o.t]).length + 1 := by rw [List.length_append]; rfl
          simp -dsimp only [↓RE,RU,RL,if_true,if_false,forall_const,implies_true,Nat.reduceLeDiff,Nat.reduceLT,pureOp,binPure,intBin,strBin,eqPure,isConstO,unPure,sliceLo,sliceHi,slicePure,slice3Pure,lenPure,capPure,minPure,maxPure,buildP,resK,endV,yieldE,↓reduceIte,Nat.reduceEqDiff,reduceCtorEq,Nat.reduceAdd,Nat.reduceMul,Nat.reduceSub,Int.reduceLT,Int.reduceLE,Int.reduceToNat,Int.reduceAdd,Int.reduceSub,Int.reduceMul,ne_eq,decide_true,decide_false,tf17, he0]
          refine hold_intro ⟨by simp -dsimp only [↓RE,RU,RL,if_true,if_false,↓reduceIte,Nat.reduceEqDiff,reduceCtorEq,decide_true,decide_false, he0], by simp -dsimp only [↓RE,RU,RL,if_true,if_false,↓reduceIte,Nat.reduceEqDiff,reduceCtorEq,decide_true,decide_false, he4], .slice A3 ((ts ++ [o.t]).length + 1) c3, ts ++ [o.t] ++ [o.u], by simp -dsimp only [↓RE,RU,RL,if_true,if_false,↓reduceIte,Nat.reduceEqDiff,reduceCtorEq,decide_true,decide_false, he0], hI3, by omega, fun q hq => (f3 q hq).elim (hf2 q) (fun e => by omega), g3⟩
      have he4o := he4
      clear he0 he4 he3 hI hIl hIf hg hk ht hbx gx hsg hI2 k2 f2 hsx g2 hf2 hk2 hu2
      rintro e w' ⟨he0, he4, vt, ts, he3, hI, hIl, hIf, hg⟩
      obtain ⟨At, ct, hvt, _, _⟩ := hI.form
      subst hvt
      rw [c_seq]
      simp -dsimp only [↓RE,RU,RL,if_true,if_false,forall_const,implies_true,Nat.reduceLeDiff,Nat.reduceLT,pureOp,binPure,intBin,strBin,eqPure,isConstO,unPure,sliceLo,sliceHi,slicePure,slice3Pure,lenPure,capPure,minPure,maxPure,buildP,resK,endV,yieldE,↓reduceIte,Nat.reduceEqDiff,reduceCtorEq,Nat.reduceAdd,Nat.reduceMul,Nat.reduceSub,Int.reduceLT,Int.reduceLE,Int.reduceToNat,Int.reduceAdd,Int.reduceSub,Int.reduceMul,ne_eq,decide_true,decide_false,tf17, he0]
      refine wpLoop_intro (fun e' w' => e' 0 = .slice (some ad) n c ∧ e' 4 = .int .i64 i ∧ ∃ (j : Nat) (vt : Value) (ts : List Int), j ≤ 4 ∧ j ≤ o.m ∧ e' 5 = .int .i64 j ∧ e' 3 = vt ∧ IRow w' vt ts ∧ ts.length ≤ 4 + 6 * i + j ∧ (∀ q, fpV vt q → w.heap.size ≤ q) ∧ Grow w w')
        (fun e' _ => 4 - (envInt (e' 5)).toNat) ⟨?_, ?_, 0, _, ts, by omega, Nat.zero_le _, ?_, ?_, hI, by omega, hIf, hg⟩ ?_
      · simp -dsimp only [↓RE,RU,RL,if_true,if_false,↓reduceIte,Nat.reduceEqDiff,reduceCtorEq,decide_true,decide_false, he0]
      · simp -dsimp only [↓RE,RU,RL,if_true,if_false,↓reduceIte,Nat.reduceEqDiff,reduceCtorEq,decide_true,decide_false, he4]
      · simp -dsimp only [↓RE,RU,RL,if_true,if_false,↓reduceIte,Nat.reduceEqDiff,reduceCtorEq,decide_true,decide_false, he0, Int.cast_ofNat_Int]
      · simp -dsimp only [↓RE,RU,RL,if_true,if_false,↓reduceIte,Nat.reduceEqDiff,reduceCtorEq,decide_true,decide_false, he3]
      clear he0 he4 he3 hI hIl hIf hg
      rintro e' w' ⟨he0, he4, j, vt, ts, hj4, hjm, he5, he3, hI, hIl, hIf, hg⟩
      obtain ⟨At, ct, hvt, _, _⟩ := hI.form
      subst hvt
      obtain ⟨_, _, _, hL⟩ := st w' hg
      have hsg := hg.size
      rw [c_seq, c_seq]
      cases hd1 : decide ((j : Int) < (o.m : Int)) with
      | false =>
        simp -dsimp only [↓RE,RU,RL,if_true,if_false,forall_const,implies_true,Nat.reduceLeDiff,Nat.reduceLT,pureOp,binPure,intBin,strBin,eqPure,isConstO,unPure,sliceLo,sliceHi,slicePure,slice3Pure,lenPure,capPure,minPure,maxPure,buildP,resK,endV,yieldE,↓reduceIte,Nat.reduceEqDiff,reduceCtorEq,Nat.reduceAdd,Nat.reduceMul,Nat.reduceSub,Int.reduceLT,Int.reduceLE,Int.reduceToNat,Int.reduceAdd,Int.reduceSub,Int.reduceMul,ne_eq,decide_true,decide_false,tf17, he0, he4, he5, hL, hd1, undef]
        refine ⟨by omega, ?_⟩
        try simp -dsimp only [↓RE,↓c_seq,RU,RL,if_true,if_false,forall_const,implies_true,Nat.reduceLeDiff,Nat.reduceLT,pureOp,binPure,intBin,strBin,eqPure,isConstO,unPure,sliceLo,sliceHi,slicePure,slice3Pure,lenPure,capPure,minPure,maxPure,buildP,resK,endV,yieldE,↓reduceIte,Nat.reduceEqDiff,reduceCtorEq,Nat.reduceAdd,Nat.reduceMul,Nat.reduceSub,Int.reduceLT,Int.reduceLE,Int.reduceToNat,Int.reduceAdd,Int.reduceSub,Int.reduceMul,ne_eq,decide_true,decide_false,tf17, he4, hw1]
        refine hold_intro ⟨⟨by simp -dsimp only [↓RE,RU,RL,if_true,if_false,↓reduceIte,Nat.reduceEqDiff,reduceCtorEq,decide_true,decide_false, he0], i + 1, _, ts, by omega, by simp -dsimp only [↓RE,RU,RL,if_true,if_false,↓reduceIte,Nat.reduceEqDiff,reduceCtorEq,decide_true,decide_false, he4, hw1], by simp -dsimp only [↓RE,RU,RL,if_true,if_false,↓reduceIte,Nat.reduceEqDiff,reduceCtorEq,decide_true,decide_false, he3], hI, by omega, hIf, hg⟩, ?_⟩
        simp -dsimp only [↓RE,↓c_seq,RU,RL,if_true,if_false,forall_const,implies_true,Nat.reduceLeDiff,Nat.reduceLT,pureOp,binPure,intBin,strBin,eqPure,isConstO,unPure,sliceLo,sliceHi,slicePure,slice3Pure,lenPure,capPure,minPure,maxPure,buildP,resK,endV,yieldE,↓reduceIte,Nat.reduceEqDiff,reduceCtorEq,Nat.reduceAdd,Nat.reduceMul,Nat.reduceSub,Int.reduceLT,Int.reduceLE,Int.reduceToNat,Int.reduceAdd,Int.reduceSub,Int.reduceMul,ne_eq,decide_true,decide_false,tf17, he4o, he4, hw1]
        simp only [envInt_int]; omega
      | true =>
        have hjm' := of_decide_eq_true hd1
        cases hd2 : decide ((j : Int) < 4) with
        | false =>
          have hj4' := of_decide_eq_false hd2
          simp -dsimp only [↓RE,RU,RL,if_true,if_false,forall_const,implies_true,Nat.reduceLeDiff,Nat.reduceLT,pureOp,binPure,intBin,strBin,eqPure,isConstO,unPure,sliceLo,sliceHi,slicePure,slice3Pure,lenPure,capPure,minPure,maxPure,buildP,resK,endV,yieldE,↓reduceIte,Nat.reduceEqDiff,reduceCtorEq,Nat.reduceAdd,Nat.reduceMul,Nat.reduceSub,Int.reduceLT,Int.reduceLE,Int.reduceToNat,Int.reduceAdd,Int.reduceSub,Int.reduceMul,ne_eq,decide_true,decide_false,tf17, he0, he4, he5, hL, hd1, hd2]
          refine ⟨by omega, ?_⟩
          try simp -dsimp only [↓RE,↓c_seq,RU,RL,if_true,if_false,forall_const,implies_true,Nat.reduceLeDiff,Nat.reduceLT,pureOp,binPure,intBin,strBin,eqPure,isConstO,unPure,sliceLo,sliceHi,slicePure,slice3Pure,lenPure,capPure,minPure,maxPure,buildP,resK,endV,yieldE,↓reduceIte,Nat.reduceEqDiff,reduceCtorEq,Nat.reduceAdd,Nat.reduceMul,Nat.reduceSub,Int.reduceLT,Int.reduceLE,Int.reduceToNat,Int.reduceAdd,Int.reduceSub,Int.reduceMul,ne_eq,decide_true,decide_false,tf17, he4, hw1]
          refine hold_intro ⟨⟨by simp -dsimp only [↓RE,RU,RL,if_true,if_false,↓reduceIte,Nat.reduceEqDiff,reduceCtorEq,decide_true,decide_false, he0], i + 1, _, ts, by omega, by simp -dsimp only [↓RE,RU,RL,if_true,if_false,↓reduceIte,Nat.reduceEqDiff,reduceCtorEq,decide_true,decide_false, he4, hw1], by simp -dsimp only [↓RE,RU,RL,if_true,if_false,↓reduceIte,Nat.reduceEqDiff,reduceCtorEq,decide_true,decide_false, he3], hI, by omega, hIf, hg⟩, ?_⟩
          simp -dsimp only [↓RE,↓c_seq,RU,RL,if_true,if_false,forall_const,implies_true,Nat.reduceLeDiff,Nat.reduceLT,pureOp,binPure,intBin,strBin,eqPure,isConstO,unPure,sliceLo,sliceHi,slicePure,slice3Pure,lenPure,capPure,minPure,maxPure,buildP,resK,endV,yieldE,↓reduceIte,Nat.reduceEqDiff,reduceCtorEq,Nat.reduceAdd,Nat.reduceMul,Nat.reduceSub,Int.reduceLT,Int.reduceLE,Int.reduceToNat,Int.reduceAdd,Int.reduceSub,Int.reduceMul,ne_eq,decide_true,decide_false,tf17, he4o, he4, hw1]
          simp only [envInt_int]; omega
        | true =>
          have hj4' := of_decide_eq_true hd2
          obtain ⟨bd, hbd, hca, _, _⟩ := (hoi.rd.grow hg).smp (k := j) (by omega)
          rw [hbd] at hL
          have hw2 : IntKind.i64.wrap ((j : Int) + 1) = ((j + 1 : Nat) : Int) := by rw [wrap_i64_in (by omega) (by omega)]; omega
          have hbx := Blk.new' w' 2 #[.int .i64 (o.l.getD j (0, 0, 0)).1]
          have gx := Grow.alloc w' (.cells #[.int .i64 (o.l.getD j (0, 0, 0)).1] 2)
          simp -dsimp only [↓RE,RU,RL,if_true,if_false,forall_const,implies_true,Nat.reduceLeDiff,Nat.reduceLT,pureOp,binPure,intBin,strBin,eqPure,isConstO,unPure,sliceLo,sliceHi,slicePure,slice3Pure,lenPure,capPure,minPure,maxPure,buildP,resK,endV,yieldE,↓reduceIte,Nat.reduceEqDiff,reduceCtorEq,Nat.reduceAdd,Nat.reduceMul,Nat.reduceSub,Int.reduceLT,Int.reduceLE,Int.reduceToNat,Int.reduceAdd,Int.reduceSub,Int.reduceMul,ne_eq,decide_true,decide_false,tf17, he0, he4, he5, hL, hd1, hd2]
          refine ⟨by omega, ?_⟩
          rw [c_seq]
          simp -dsimp only [↓RE,RU,RL,if_true,if_false,forall_const,implies_true,Nat.reduceLeDiff,Nat.reduceLT,pureOp,binPure,intBin,strBin,eqPure,isConstO,unPure,sliceLo,sliceHi,slicePure,slice3Pure,lenPure,capPure,minPure,maxPure,buildP,resK,endV,yieldE,↓reduceIte,Nat.reduceEqDiff,reduceCtorEq,Nat.reduceAdd,Nat.reduceMul,Nat.reduceSub,Int.reduceLT,Int.reduceLE,Int.reduceToNat,Int.reduceAdd,Int.reduceSub,Int.reduceMul,ne_eq,decide_true,decide_false,tf17, he0, he3, he4, he5, hL, hca, add_zero']
          refine ⟨by omega, by omega, ?_⟩
          refine app_int (hI.grow gx) hbx (by omega) (fun A3 c3 w3 hI3 k3 f3 => ?_)
          have g3 : Grow w w3 := (hg.trans gx).above k3 (fun q hq e => by have := hIf q e; omega)
          have hs3 := gx.size
          have hl3 : (ts ++ [(o.l.getD j (0, 0, 0)).1]).length = ts.length + 1 := by rw [List.length_append]; rfl
          try simp -dsimp only [↓RE,↓c_seq,RU,RL,if_true,if_false,forall_const,implies_true,Nat.reduceLeDiff,Nat.reduceLT,pureOp,binPure,intBin,strBin,eqPure,isConstO,unPure,sliceLo,sliceHi,slicePure,slice3Pure,lenPure,capPure,minPure,maxPure,buildP,resK,endV,yieldE,↓reduceIte,Nat.reduceEqDiff,reduceCtorEq,Nat.reduceAdd,Nat.reduceMul,Nat.reduceSub,Int.reduceLT,Int.reduceLE,Int.reduceToNat,Int.reduceAdd,Int.reduceSub,Int.reduceMul,ne_eq,decide_true,decide_false,tf17, he5, hw2]
          refine hold_intro ⟨⟨by simp -dsimp only [↓RE,RU,RL,if_true,if_false,↓reduceIte,Nat.reduceEqDiff,reduceCtorEq,decide_true,decide_false, he0], by simp -dsimp only [↓RE,RU,RL,if_true,if_false,↓reduceIte,Nat.reduceEqDiff,reduceCtorEq,decide_true,decide_false, he4], j + 1, .slice A3 (ts.length + 1) c3, ts ++ [(o.l.getD j (0, 0, 0)).1], by omega, by omega, by simp -dsimp only [↓RE,RU,RL,if_true,if_false,↓reduceIte,Nat.reduceEqDiff,reduceCtorEq,decide_true,decide_false, he5, hw2], by simp -dsimp only [↓RE,RU,RL,if_true,if_false,↓reduceIte,Nat.reduceEqDiff,reduceCtorEq,decide_true,decide_false, he3], hI3, by omega, fun q hq => (f3 q hq).elim (hIf q) (fun e => by omega), g3⟩, ?_⟩
          simp -dsimp only [↓RE,↓c_seq,RU,RL,if_true,if_false,forall_const,implies_true,Nat.reduceLeDiff,Nat.reduceLT,pureOp,binPure,intBin,strBin,eqPure,isConstO,unPure,sliceLo,sliceHi,slicePure,slice3Pure,lenPure,capPure,minPure,maxPure,buildP,resK,endV,yieldE,↓reduceIte,Nat.reduceEqDiff,reduceCtorEq,Nat.reduceAdd,Nat.reduceMul,Nat.reduceSub,Int.reduceLT,Int.reduceLE,Int.reduceToNat,Int.reduceAdd,Int.reduceSub,Int.reduceMul,ne_eq,decide_true,decide_false,tf17, he5, hw2]
          simp only [envInt_int]; omega
    · exact hold_intro ⟨_, ts, by simp -dsimp only [↓RE,RU,RL,if_true,if_false,↓reduceIte,Nat.reduceEqDiff,reduceCtorEq,decide_true,decide_false, he3], hI, by omega, hIf, hg⟩
  · rintro e w' ⟨vt, ts, he3, hI, hIl, hIf, hg⟩
    obtain ⟨At, ct, hvt, _, _⟩ := hI.form
    subst hvt
    try simp -dsimp only [↓RE,↓c_seq,RU,RL,if_true,if_false,forall_const,implies_true,Nat.reduceLeDiff,Nat.reduceLT,pureOp,binPure,intBin,strBin,eqPure,isConstO,unPure,sliceLo,sliceHi,slicePure,slice3Pure,lenPure,capPure,minPure,maxPure,buildP,resK,endV,yieldE,↓reduceIte,Nat.reduceEqDiff,reduceCtorEq,Nat.reduceAdd,Nat.reduceMul,Nat.reduceSub,Int.reduceLT,Int.reduceLE,Int.reduceToNat,Int.reduceAdd,Int.reduceSub,Int.reduceMul,ne_eq,decide_true,decide_false,tf17, he3]
    exact h w' At ct ts hI hIl hg (fun q hq => hIf q ((fpV_fpA _ _ _ _).2 hq))

end Go.Proofs.YtcnebgokbjpjnaaGreat
