/- The law WireOnly, walked. -/
import Derived.Test.YtcjlhfmjcioeeaaOnlySpec
import Derived.Test.YtcjlhfmjcioeeaaLive
import Derived.Test.YtcjlhfmjcioeeaaTornSpec
set_option linter.unusedVariables false
set_option linter.unusedSimpArgs false
set_option maxRecDepth 100000
namespace Go.Proofs.Ytcjlhfmjcioeeaa
open Go

theorem only_walk {w : World} {A : Option Addr} {n c : Nat} {ops : List OpV} {B : Option Addr} {m d : Nat} {xs : List Int} (hB : Rd w B m 1 (xs.map (Value.int .u8))) (hx : ∀ z ∈ xs, 0 ≤ z ∧ z < 256) (hm : m ≤ 1000000000)
    (hA : Rd w A n 4 (ops.flatMap OpV.cells)) (ho : ∀ o ∈ ops, o.Ok w) (hn : n ≤ 1000000000) {R : VWK}
    (h : ∀ w', Grow w w' → R (.bool true) w') : CallsV Try.prog 8 [.slice B m d, .slice A n c] w R := by
  have hnl : n = ops.length := by
    have := hA.1.symm.trans (flat_len OpV.cells ops (cells4 ops)); omega
  have hml := hB.len1
  refine calls_of_wpC mixed Try.func8 rfl (by kernel_rfl) ?_
  intro e he
  have he0 := he 0
  have he1 := he 1
  simp only [List.getD_cons_zero, List.getD_cons_succ] at he0 he1
  clear he
  simp -dsimp only [↓RE, ↓c_seq, RU, RL, if_true, if_false, forall_const, implies_true, Nat.reduceLeDiff, Nat.reduceLT, pureOp, binPure, intBin, strBin, eqPure, isConstO, unPure, sliceLo, sliceHi, slicePure, lenPure, minPure, maxPure, buildP, resK, endV, yieldE, ↓reduceIte, Nat.reduceEqDiff, reduceCtorEq, Nat.reduceAdd, Nat.reduceMul, Nat.reduceSub, Int.reduceLT, Int.reduceLE, Int.reduceToNat, Int.reduceAdd, Int.reduceSub, Int.reduceMul, ne_eq, decide_true, decide_false, tf8, he0, he1]
  refine newReader_ok hB (by omega) (fun w1 F1 p1 hR1 g1 hF1 => ?_)
  simp -dsimp only [↓RE, ↓c_seq, RU, RL, if_true, if_false, forall_const, implies_true, Nat.reduceLeDiff, Nat.reduceLT, pureOp, binPure, intBin, strBin, eqPure, isConstO, unPure, sliceLo, sliceHi, slicePure, lenPure, minPure, maxPure, buildP, resK, endV, yieldE, ↓reduceIte, Nat.reduceEqDiff, reduceCtorEq, Nat.reduceAdd, Nat.reduceMul, Nat.reduceSub, Int.reduceLT, Int.reduceLE, Int.reduceToNat, Int.reduceAdd, Int.reduceSub, Int.reduceMul, ne_eq, decide_true, decide_false, tf8, he0, he1]
  have hB2 := Blk.new' w1 30 #[.slice none 0 0, .int .i64 0]
  have g2 := Grow.alloc w1 (.cells #[.slice none 0 0, .int .i64 0] 30)
  have hW0 : WAt 30 (w1.alloc (.cells #[.slice none 0 0, .int .i64 0] 30)) (fun k => k = w1.heap.size ∨ fpV (.slice none 0 0) k) w1.heap.size [] 0 := ⟨_, hB2, own_nil _ _ _, rfl⟩
  have g02 := g1.trans g2
  have hs1 := g1.size
  refine wpLoop_intro (fun e' w' => e' 0 = .slice B m d ∧ e' 5 = .pointer (some ⟨p1, 0, none⟩) ∧ e' 6 = .pointer (some ⟨w1.heap.size, 0, none⟩) ∧ e' 13 = .slice A n c ∧ e' 14 = .int .i64 n ∧
      ∃ (done rest : List OpV) (F : Nat → Prop) (s : RS) (q : List Int × Nat), ops = done ++ rest ∧ e' 15 = .int .i64 done.length ∧ RAt w' F1 p1 s ∧ WAt 30 w' F w1.heap.size q.1 q.2 ∧ RO xs s q done.length ∧
        (∀ k, F k → ¬ F1 k) ∧ (∀ k, F k → w.heap.size ≤ k) ∧ Grow w w')
    (fun e' _ => n - (envInt (e' 15)).toNat) ⟨?_, ?_, ?_, ?_, ?_, [], ops, _, ⟨xs, 0, 0, none⟩, ([], 0), rfl, ?_, hR1.grow g2, hW0, ?_, ?_, ?_, g02⟩ ?_
  · simp -dsimp only [↓RE, ↓c_seq, RU, RL, if_true, if_false, forall_const, implies_true, Nat.reduceLeDiff, Nat.reduceLT, pureOp, binPure, intBin, strBin, eqPure, isConstO, unPure, sliceLo, sliceHi, slicePure, lenPure, minPure, maxPure, buildP, resK, endV, yieldE, ↓reduceIte, Nat.reduceEqDiff, reduceCtorEq, Nat.reduceAdd, Nat.reduceMul, Nat.reduceSub, Int.reduceLT, Int.reduceLE, Int.reduceToNat, Int.reduceAdd, Int.reduceSub, Int.reduceMul, ne_eq, decide_true, decide_false, tf8, he0]
  · simp -dsimp only [↓RE, ↓c_seq, RU, RL, if_true, if_false, forall_const, implies_true, Nat.reduceLeDiff, Nat.reduceLT, pureOp, binPure, intBin, strBin, eqPure, isConstO, unPure, sliceLo, sliceHi, slicePure, lenPure, minPure, maxPure, buildP, resK, endV, yieldE, ↓reduceIte, Nat.reduceEqDiff, reduceCtorEq, Nat.reduceAdd, Nat.reduceMul, Nat.reduceSub, Int.reduceLT, Int.reduceLE, Int.reduceToNat, Int.reduceAdd, Int.reduceSub, Int.reduceMul, ne_eq, decide_true, decide_false, tf8, he0]
  · simp -dsimp only [↓RE, ↓c_seq, RU, RL, if_true, if_false, forall_const, implies_true, Nat.reduceLeDiff, Nat.reduceLT, pureOp, binPure, intBin, strBin, eqPure, isConstO, unPure, sliceLo, sliceHi, slicePure, lenPure, minPure, maxPure, buildP, resK, endV, yieldE, ↓reduceIte, Nat.reduceEqDiff, reduceCtorEq, Nat.reduceAdd, Nat.reduceMul, Nat.reduceSub, Int.reduceLT, Int.reduceLE, Int.reduceToNat, Int.reduceAdd, Int.reduceSub, Int.reduceMul, ne_eq, decide_true, decide_false, tf8, he0]
  · simp -dsimp only [↓RE, ↓c_seq, RU, RL, if_true, if_false, forall_const, implies_true, Nat.reduceLeDiff, Nat.reduceLT, pureOp, binPure, intBin, strBin, eqPure, isConstO, unPure, sliceLo, sliceHi, slicePure, lenPure, minPure, maxPure, buildP, resK, endV, yieldE, ↓reduceIte, Nat.reduceEqDiff, reduceCtorEq, Nat.reduceAdd, Nat.reduceMul, Nat.reduceSub, Int.reduceLT, Int.reduceLE, Int.reduceToNat, Int.reduceAdd, Int.reduceSub, Int.reduceMul, ne_eq, decide_true, decide_false, tf8, he1]
  · simp -dsimp only [↓RE, ↓c_seq, RU, RL, if_true, if_false, forall_const, implies_true, Nat.reduceLeDiff, Nat.reduceLT, pureOp, binPure, intBin, strBin, eqPure, isConstO, unPure, sliceLo, sliceHi, slicePure, lenPure, minPure, maxPure, buildP, resK, endV, yieldE, ↓reduceIte, Nat.reduceEqDiff, reduceCtorEq, Nat.reduceAdd, Nat.reduceMul, Nat.reduceSub, Int.reduceLT, Int.reduceLE, Int.reduceToNat, Int.reduceAdd, Int.reduceSub, Int.reduceMul, ne_eq, decide_true, decide_false, tf8, he1]
  · simp -dsimp only [↓RE, ↓c_seq, RU, RL, if_true, if_false, forall_const, implies_true, Nat.reduceLeDiff, Nat.reduceLT, pureOp, binPure, intBin, strBin, eqPure, isConstO, unPure, sliceLo, sliceHi, slicePure, lenPure, minPure, maxPure, buildP, resK, endV, yieldE, ↓reduceIte, Nat.reduceEqDiff, reduceCtorEq, Nat.reduceAdd, Nat.reduceMul, Nat.reduceSub, Int.reduceLT, Int.reduceLE, Int.reduceToNat, Int.reduceAdd, Int.reduceSub, Int.reduceMul, ne_eq, decide_true, decide_false, tf8, he0, Int.cast_ofNat_Int]
  · exact ⟨⟨by simp, by simp, by simp, by simp only; omega, hx⟩, rfl, WOk.nil, fun _ => ⟨rfl, ⟨by simp, fun i hi => by simp at hi, fun h => absurd rfl h⟩⟩, by simp⟩
  · rintro k (rfl | hk) hk1
    · exact absurd (hR1.lt _ hk1) (by omega)
    · exact absurd hk (fpV_none _)
  · rintro k (rfl | hk)
    · omega
    · exact absurd hk (fpV_none _)
  rintro e' w' ⟨h0, h5, h6, h13, h14, done, rest, F, s, q, hops, h15, hR, hW, hro, hd, hF, hg⟩
  have hnd : n = done.length + rest.length := by rw [hnl, hops, List.length_append]
  have hlen := hro.len
  rw [c_seq]
  simp -dsimp only [↓RE, RU, RL, if_true, if_false, forall_const, implies_true, Nat.reduceLeDiff, Nat.reduceLT, pureOp, binPure, intBin, strBin, eqPure, isConstO, unPure, sliceLo, sliceHi, slicePure, lenPure, minPure, maxPure, buildP, resK, endV, yieldE, ↓reduceIte, Nat.reduceEqDiff, reduceCtorEq, Nat.reduceAdd, Nat.reduceMul, Nat.reduceSub, Int.reduceLT, Int.reduceLE, Int.reduceToNat, Int.reduceAdd, Int.reduceSub, Int.reduceMul, ne_eq, decide_true, decide_false, tf8, h0, h5, h6, h13, h14, h15]
  rw [c_seq]
  simp -dsimp only [↓RE, RU, RL, if_true, if_false, forall_const, implies_true, Nat.reduceLeDiff, Nat.reduceLT, pureOp, binPure, intBin, strBin, eqPure, isConstO, unPure, sliceLo, sliceHi, slicePure, lenPure, minPure, maxPure, buildP, resK, endV, yieldE, ↓reduceIte, Nat.reduceEqDiff, reduceCtorEq, Nat.reduceAdd, Nat.reduceMul, Nat.reduceSub, Int.reduceLT, Int.reduceLE, Int.reduceToNat, Int.reduceAdd, Int.reduceSub, Int.reduceMul, ne_eq, decide_true, decide_false, tf8, h0, h5, h6, h13, h14, h15]
  refine ⟨fun hlt => ?_, fun hge => ?_⟩
  · obtain ⟨o, rest, rfl⟩ : ∃ o r, rest = o :: r := by
      cases rest with
      | nil => simp at hnd; omega
      | cons o r => exact ⟨o, r, rfl⟩
    have hmem : o ∈ ops := by rw [hops]; simp
    have hget : ops[done.length]? = some o := by rw [hops]; simp
    obtain ⟨hkn, ad, rfl, hc⟩ := (hA.grow hg).flat (cells4 ops) hget (by omega)
    have hoo := (ho o hmem).keep hg (fun _ _ _ h => h)
    have hron := ro_step hro o
    refine c_seq_cut (fun e4 w4 => e4 0 = .slice B m d ∧ e4 5 = .pointer (some ⟨p1, 0, none⟩) ∧ e4 6 = .pointer (some ⟨w1.heap.size, 0, none⟩) ∧ e4 13 = .slice (some ad) n c ∧ e4 14 = .int .i64 n ∧ e4 15 = .int .i64 done.length ∧
      ∃ F4, RAt w4 F1 p1 (ro o s q).1 ∧ WAt 30 w4 F4 w1.heap.size (ro o s q).2.1 (ro o s q).2.2 ∧ (∀ k, F4 k → ¬ F1 k) ∧ (∀ k, F4 k → w.heap.size ≤ k) ∧ Grow w w4) ?_ ?_
    · simp -dsimp only [↓RE, RU, RL, if_true, if_false, forall_const, implies_true, Nat.reduceLeDiff, Nat.reduceLT, pureOp, binPure, intBin, strBin, eqPure, isConstO, unPure, sliceLo, sliceHi, slicePure, lenPure, minPure, maxPure, buildP, resK, endV, yieldE, ↓reduceIte, Nat.reduceEqDiff, reduceCtorEq, Nat.reduceAdd, Nat.reduceMul, Nat.reduceSub, Int.reduceLT, Int.reduceLE, Int.reduceToNat, Int.reduceAdd, Int.reduceSub, Int.reduceMul, ne_eq, decide_true, decide_false, tf8, h0, h5, h6, h13, h14, h15]
      rw [c_seq]
      simp -dsimp only [↓RE, RU, RL, if_true, if_false, forall_const, implies_true, Nat.reduceLeDiff, Nat.reduceLT, pureOp, binPure, intBin, strBin, eqPure, isConstO, unPure, sliceLo, sliceHi, slicePure, lenPure, minPure, maxPure, buildP, resK, endV, yieldE, ↓reduceIte, Nat.reduceEqDiff, reduceCtorEq, Nat.reduceAdd, Nat.reduceMul, Nat.reduceSub, Int.reduceLT, Int.reduceLE, Int.reduceToNat, Int.reduceAdd, Int.reduceSub, Int.reduceMul, ne_eq, decide_true, decide_false, tf8, h0, h5, h6, h13, h14, h15]
      refine ⟨⟨by omega, by omega⟩, o.cells, rfl, hc, ?_⟩
      simp -dsimp only [↓RE, RU, RL, if_true, if_false, forall_const, implies_true, Nat.reduceLeDiff, Nat.reduceLT, pureOp, binPure, intBin, strBin, eqPure, isConstO, unPure, sliceLo, sliceHi, slicePure, lenPure, minPure, maxPure, buildP, resK, endV, yieldE, ↓reduceIte, Nat.reduceEqDiff, reduceCtorEq, Nat.reduceAdd, Nat.reduceMul, Nat.reduceSub, Int.reduceLT, Int.reduceLE, Int.reduceToNat, Int.reduceAdd, Int.reduceSub, Int.reduceMul, ne_eq, decide_true, decide_false, tf8, h0, h5, h6, h13, h14, h15]
      have hz0 := Blk.new' w' 36 #[.int .i64 0, .int .u64 0, .int .i64 0, .slice none 0 0]
      have ga := Grow.alloc w' (.cells #[.int .i64 0, .int .u64 0, .int .i64 0, .slice none 0 0] 36)
      refine ⟨rfl, hz0.stAgg (by simp [OpV.cells]) (by simp [OpV.cells, Value.oneCell']) (fun w3 hB3 hK3 => ?_)⟩
      have hB3 : Blk w3 w'.heap.size 36 o.cells := by simpa [OpV.cells] using hB3
      have g3 : Grow w' w3 := ga.above hK3 (fun i hi e => by omega)
      have hR3 := hR.grow g3
      have hW3 := hW.grow g3
      simp -dsimp only [↓RE, RU, RL, if_true, if_false, forall_const, implies_true, Nat.reduceLeDiff, Nat.reduceLT, pureOp, binPure, intBin, strBin, eqPure, isConstO, unPure, sliceLo, sliceHi, slicePure, lenPure, minPure, maxPure, buildP, resK, endV, yieldE, ↓reduceIte, Nat.reduceEqDiff, reduceCtorEq, Nat.reduceAdd, Nat.reduceMul, Nat.reduceSub, Int.reduceLT, Int.reduceLE, Int.reduceToNat, Int.reduceAdd, Int.reduceSub, Int.reduceMul, ne_eq, decide_true, decide_false, tf8, h0, h5, h6, h13, h14, h15]
      have hFp : ¬ F p1 := fun hf => hd p1 hf hR.at
      have hp1 : w.heap.size ≤ p1 := hF1 p1 hR1.at
      have hobp : ¬ w'.heap.size = p1 := fun e => absurd (hR.lt p1 hR.at) (by omega)
      have hok := hro.ok
      have hwok := hro.wok
      have on0 := hoo.n0
      have on1 := hoo.n1
      have ob0 := hoo.b0
      have ob1 := hoo.b1
      have hlx : s.xs.length = xs.length := by rw [hro.xs]
      -- what a read leaves of the Writer
      have mkW : ∀ {wa w4 : World}, Grow w3 wa → Keep (fun k => k = p1) wa w4 → WAt 30 w4 F w1.heap.size q.1 q.2 := fun ga k4 => (hW3.grow ga).keep k4 (fun k hk e => hFp (e ▸ hk))
      -- what a write behind it leaves of the Reader, and all the rest
      have fin : ∀ {wa w4 w5 : World} {F5 : Nat → Prop} {s4 : RS}, Grow w3 wa → Keep (fun k => k = p1) wa w4 → RAt w4 F1 p1 s4 → Step F F5 w4 w5 → RAt w5 F1 p1 s4 ∧ (∀ k, F5 k → ¬ F1 k) ∧ (∀ k, F5 k → w.heap.size ≤ k) ∧ Grow w w5 := by
        intro wa w4 w5 F5 s4 ga k4 hR4 hS
        have g4 : Grow w w4 := ((hg.trans g3).trans ga).above k4 (fun i hi e => by omega)
        refine ⟨hR4.keep hS.keep (fun k hk hf => hd k hf hk), fun k hk hf => ?_, fun k hk => ?_, g4.above hS.keep (fun i hi hf => absurd (hF i hf) (by omega))⟩
        · rcases hS.sub k hk with h1 | h1
          · exact hd k h1 hf
          · exact absurd (hR4.lt k hf) (by omega)
        · rcases hS.sub k hk with h1 | h1
          · exact hF k h1
          · have := g4.size; omega
      simp -dsimp only [↓RE, ↓c_seq, RU, RL, if_true, if_false, forall_const, implies_true, Nat.reduceLeDiff, Nat.reduceLT, pureOp, binPure, intBin, strBin, eqPure, isConstO, unPure, sliceLo, sliceHi, slicePure, lenPure, minPure, maxPure, buildP, resK, endV, yieldE, ↓reduceIte, Nat.reduceEqDiff, reduceCtorEq, Nat.reduceAdd, Nat.reduceMul, Nat.reduceSub, Int.reduceLT, Int.reduceLE, Int.reduceToNat, Int.reduceAdd, Int.reduceSub, Int.reduceMul, ne_eq, decide_true, decide_false, tf8, h0, h5, h6, h13, h14, h15, hB3.cell, OpV.cells]
      refine ⟨fun hk => ?_, fun hk => ?_⟩
      · have hr : ro o s q = ((rTake 1 s).1, (q.1 ++ [(rTake 1 s).2.getD 0 0], 0)) := by unfold ro; rw [if_pos hk]
        rw [hr]
        try simp -dsimp only [↓RE, ↓c_seq, RU, RL, if_true, if_false, forall_const, implies_true, Nat.reduceLeDiff, Nat.reduceLT, pureOp, binPure, intBin, strBin, eqPure, isConstO, unPure, sliceLo, sliceHi, slicePure, lenPure, minPure, maxPure, buildP, resK, endV, yieldE, ↓reduceIte, Nat.reduceEqDiff, reduceCtorEq, Nat.reduceAdd, Nat.reduceMul, Nat.reduceSub, Int.reduceLT, Int.reduceLE, Int.reduceToNat, Int.reduceAdd, Int.reduceSub, Int.reduceMul, ne_eq, decide_true, decide_false, tf8, h0, h5, h6, h13, h14, h15, hB3.cell, OpV.cells]
        refine byteR_ok hR3 hok (fun w4 hR4 k4 => ?_)
        simp -dsimp only [↓RE, ↓c_seq, RU, RL, if_true, if_false, forall_const, implies_true, Nat.reduceLeDiff, Nat.reduceLT, pureOp, binPure, intBin, strBin, eqPure, isConstO, unPure, sliceLo, sliceHi, slicePure, lenPure, minPure, maxPure, buildP, resK, endV, yieldE, ↓reduceIte, Nat.reduceEqDiff, reduceCtorEq, Nat.reduceAdd, Nat.reduceMul, Nat.reduceSub, Int.reduceLT, Int.reduceLE, Int.reduceToNat, Int.reduceAdd, Int.reduceSub, Int.reduceMul, ne_eq, decide_true, decide_false, tf8, h0, h5, h6, h13, h14, h15]
        refine byte_ok (mkW (Keep.refl _ _) k4) (by omega) (fun w5 F5 hW5 hS5 => ?_)
        obtain ⟨a1, a2, a3, a4⟩ := fin (Keep.refl _ _) k4 hR4 hS5
        simp -dsimp only [↓RE, ↓c_seq, RU, RL, if_true, if_false, forall_const, implies_true, Nat.reduceLeDiff, Nat.reduceLT, pureOp, binPure, intBin, strBin, eqPure, isConstO, unPure, sliceLo, sliceHi, slicePure, lenPure, minPure, maxPure, buildP, resK, endV, yieldE, ↓reduceIte, Nat.reduceEqDiff, reduceCtorEq, Nat.reduceAdd, Nat.reduceMul, Nat.reduceSub, Int.reduceLT, Int.reduceLE, Int.reduceToNat, Int.reduceAdd, Int.reduceSub, Int.reduceMul, ne_eq, decide_true, decide_false, tf8, h0, h5, h6, h13, h14, h15]
        refine hold_intro ⟨?_, ?_, ?_, ?_, ?_, ?_, F5, a1, hW5, a2, a3, a4⟩ <;> simp -dsimp only [↓RE, ↓c_seq, RU, RL, if_true, if_false, forall_const, implies_true, Nat.reduceLeDiff, Nat.reduceLT, pureOp, binPure, intBin, strBin, eqPure, isConstO, unPure, sliceLo, sliceHi, slicePure, lenPure, minPure, maxPure, buildP, resK, endV, yieldE, ↓reduceIte, Nat.reduceEqDiff, reduceCtorEq, Nat.reduceAdd, Nat.reduceMul, Nat.reduceSub, Int.reduceLT, Int.reduceLE, Int.reduceToNat, Int.reduceAdd, Int.reduceSub, Int.reduceMul, ne_eq, decide_true, decide_false, tf8, h0, h5, h6, h13, h14, h15]
      have n0 := hk
      clear hk
      try simp -dsimp only [↓RE, ↓c_seq, RU, RL, if_true, if_false, forall_const, implies_true, Nat.reduceLeDiff, Nat.reduceLT, pureOp, binPure, intBin, strBin, eqPure, isConstO, unPure, sliceLo, sliceHi, slicePure, lenPure, minPure, maxPure, buildP, resK, endV, yieldE, ↓reduceIte, Nat.reduceEqDiff, reduceCtorEq, Nat.reduceAdd, Nat.reduceMul, Nat.reduceSub, Int.reduceLT, Int.reduceLE, Int.reduceToNat, Int.reduceAdd, Int.reduceSub, Int.reduceMul, ne_eq, decide_true, decide_false, tf8, h0, h5, h6, h13, h14, h15, hB3.cell, OpV.cells]
      refine ⟨fun hk => ?_, fun hk => ?_⟩
      · have hr : ro o s q = ((rTake 4 s).1, (q.1 ++ be32 (beNat (rTake 4 s).2), 0)) := by unfold ro; rw [if_neg n0, if_pos hk]
        rw [hr]
        try simp -dsimp only [↓RE, ↓c_seq, RU, RL, if_true, if_false, forall_const, implies_true, Nat.reduceLeDiff, Nat.reduceLT, pureOp, binPure, intBin, strBin, eqPure, isConstO, unPure, sliceLo, sliceHi, slicePure, lenPure, minPure, maxPure, buildP, resK, endV, yieldE, ↓reduceIte, Nat.reduceEqDiff, reduceCtorEq, Nat.reduceAdd, Nat.reduceMul, Nat.reduceSub, Int.reduceLT, Int.reduceLE, Int.reduceToNat, Int.reduceAdd, Int.reduceSub, Int.reduceMul, ne_eq, decide_true, decide_false, tf8, h0, h5, h6, h13, h14, h15, hB3.cell, OpV.cells]
        refine fix32R_ok hR3 hok (fun w4 hR4 k4 => ?_)
        simp -dsimp only [↓RE, ↓c_seq, RU, RL, if_true, if_false, forall_const, implies_true, Nat.reduceLeDiff, Nat.reduceLT, pureOp, binPure, intBin, strBin, eqPure, isConstO, unPure, sliceLo, sliceHi, slicePure, lenPure, minPure, maxPure, buildP, resK, endV, yieldE, ↓reduceIte, Nat.reduceEqDiff, reduceCtorEq, Nat.reduceAdd, Nat.reduceMul, Nat.reduceSub, Int.reduceLT, Int.reduceLE, Int.reduceToNat, Int.reduceAdd, Int.reduceSub, Int.reduceMul, ne_eq, decide_true, decide_false, tf8, h0, h5, h6, h13, h14, h15]
        refine fix32_ok (mkW (Keep.refl _ _) k4) (by omega) (fun w5 F5 hW5 hS5 => ?_)
        obtain ⟨a1, a2, a3, a4⟩ := fin (Keep.refl _ _) k4 hR4 hS5
        simp -dsimp only [↓RE, ↓c_seq, RU, RL, if_true, if_false, forall_const, implies_true, Nat.reduceLeDiff, Nat.reduceLT, pureOp, binPure, intBin, strBin, eqPure, isConstO, unPure, sliceLo, sliceHi, slicePure, lenPure, minPure, maxPure, buildP, resK, endV, yieldE, ↓reduceIte, Nat.reduceEqDiff, reduceCtorEq, Nat.reduceAdd, Nat.reduceMul, Nat.reduceSub, Int.reduceLT, Int.reduceLE, Int.reduceToNat, Int.reduceAdd, Int.reduceSub, Int.reduceMul, ne_eq, decide_true, decide_false, tf8, h0, h5, h6, h13, h14, h15]
        refine hold_intro ⟨?_, ?_, ?_, ?_, ?_, ?_, F5, a1, hW5, a2, a3, a4⟩ <;> simp -dsimp only [↓RE, ↓c_seq, RU, RL, if_true, if_false, forall_const, implies_true, Nat.reduceLeDiff, Nat.reduceLT, pureOp, binPure, intBin, strBin, eqPure, isConstO, unPure, sliceLo, sliceHi, slicePure, lenPure, minPure, maxPure, buildP, resK, endV, yieldE, ↓reduceIte, Nat.reduceEqDiff, reduceCtorEq, Nat.reduceAdd, Nat.reduceMul, Nat.reduceSub, Int.reduceLT, Int.reduceLE, Int.reduceToNat, Int.reduceAdd, Int.reduceSub, Int.reduceMul, ne_eq, decide_true, decide_false, tf8, h0, h5, h6, h13, h14, h15]
      have n1 := hk
      clear hk
      try simp -dsimp only [↓RE, ↓c_seq, RU, RL, if_true, if_false, forall_const, implies_true, Nat.reduceLeDiff, Nat.reduceLT, pureOp, binPure, intBin, strBin, eqPure, isConstO, unPure, sliceLo, sliceHi, slicePure, lenPure, minPure, maxPure, buildP, resK, endV, yieldE, ↓reduceIte, Nat.reduceEqDiff, reduceCtorEq, Nat.reduceAdd, Nat.reduceMul, Nat.reduceSub, Int.reduceLT, Int.reduceLE, Int.reduceToNat, Int.reduceAdd, Int.reduceSub, Int.reduceMul, ne_eq, decide_true, decide_false, tf8, h0, h5, h6, h13, h14, h15, hB3.cell, OpV.cells]
      refine ⟨fun hk => ?_, fun hk => ?_⟩
      · have hr : ro o s q = ((rNumber o.n 2 s).1, (q.1 ++ uvar (rNumber o.n 2 s).2.toNat, 0)) := by unfold ro; rw [if_neg n0, if_neg n1, if_pos hk]
        rw [hr]
        have hrg := rNumber_range hok o.n 2
        try simp -dsimp only [↓RE, ↓c_seq, RU, RL, if_true, if_false, forall_const, implies_true, Nat.reduceLeDiff, Nat.reduceLT, pureOp, binPure, intBin, strBin, eqPure, isConstO, unPure, sliceLo, sliceHi, slicePure, lenPure, minPure, maxPure, buildP, resK, endV, yieldE, ↓reduceIte, Nat.reduceEqDiff, reduceCtorEq, Nat.reduceAdd, Nat.reduceMul, Nat.reduceSub, Int.reduceLT, Int.reduceLE, Int.reduceToNat, Int.reduceAdd, Int.reduceSub, Int.reduceMul, ne_eq, decide_true, decide_false, tf8, h0, h5, h6, h13, h14, h15, hB3.cell, OpV.cells]
        refine uintR_ok hR3 hok on0 (fun w4 hR4 k4 => ?_)
        simp -dsimp only [↓RE, ↓c_seq, RU, RL, if_true, if_false, forall_const, implies_true, Nat.reduceLeDiff, Nat.reduceLT, pureOp, binPure, intBin, strBin, eqPure, isConstO, unPure, sliceLo, sliceHi, slicePure, lenPure, minPure, maxPure, buildP, resK, endV, yieldE, ↓reduceIte, Nat.reduceEqDiff, reduceCtorEq, Nat.reduceAdd, Nat.reduceMul, Nat.reduceSub, Int.reduceLT, Int.reduceLE, Int.reduceToNat, Int.reduceAdd, Int.reduceSub, Int.reduceMul, ne_eq, decide_true, decide_false, tf8, h0, h5, h6, h13, h14, h15]
        refine uint_ok (mkW (Keep.refl _ _) k4) hrg.1 hrg.2 (by omega) (fun w5 F5 hW5 hS5 => ?_)
        obtain ⟨a1, a2, a3, a4⟩ := fin (Keep.refl _ _) k4 hR4 hS5
        simp -dsimp only [↓RE, ↓c_seq, RU, RL, if_true, if_false, forall_const, implies_true, Nat.reduceLeDiff, Nat.reduceLT, pureOp, binPure, intBin, strBin, eqPure, isConstO, unPure, sliceLo, sliceHi, slicePure, lenPure, minPure, maxPure, buildP, resK, endV, yieldE, ↓reduceIte, Nat.reduceEqDiff, reduceCtorEq, Nat.reduceAdd, Nat.reduceMul, Nat.reduceSub, Int.reduceLT, Int.reduceLE, Int.reduceToNat, Int.reduceAdd, Int.reduceSub, Int.reduceMul, ne_eq, decide_true, decide_false, tf8, h0, h5, h6, h13, h14, h15]
        refine hold_intro ⟨?_, ?_, ?_, ?_, ?_, ?_, F5, a1, hW5, a2, a3, a4⟩ <;> simp -dsimp only [↓RE, ↓c_seq, RU, RL, if_true, if_false, forall_const, implies_true, Nat.reduceLeDiff, Nat.reduceLT, pureOp, binPure, intBin, strBin, eqPure, isConstO, unPure, sliceLo, sliceHi, slicePure, lenPure, minPure, maxPure, buildP, resK, endV, yieldE, ↓reduceIte, Nat.reduceEqDiff, reduceCtorEq, Nat.reduceAdd, Nat.reduceMul, Nat.reduceSub, Int.reduceLT, Int.reduceLE, Int.reduceToNat, Int.reduceAdd, Int.reduceSub, Int.reduceMul, ne_eq, decide_true, decide_false, tf8, h0, h5, h6, h13, h14, h15]
      have n2 := hk
      clear hk
      try simp -dsimp only [↓RE, ↓c_seq, RU, RL, if_true, if_false, forall_const, implies_true, Nat.reduceLeDiff, Nat.reduceLT, pureOp, binPure, intBin, strBin, eqPure, isConstO, unPure, sliceLo, sliceHi, slicePure, lenPure, minPure, maxPure, buildP, resK, endV, yieldE, ↓reduceIte, Nat.reduceEqDiff, reduceCtorEq, Nat.reduceAdd, Nat.reduceMul, Nat.reduceSub, Int.reduceLT, Int.reduceLE, Int.reduceToNat, Int.reduceAdd, Int.reduceSub, Int.reduceMul, ne_eq, decide_true, decide_false, tf8, h0, h5, h6, h13, h14, h15, hB3.cell, OpV.cells]
      refine ⟨fun hk => ?_, fun hk => ?_⟩
      · have hr : ro o s q = ((rNumber 18446744073709551615 2 s).1, (q.1 ++ uvar (foldI (unfoldI (rNumber 18446744073709551615 2 s).2)).toNat, 0)) := by unfold ro; rw [if_neg n0, if_neg n1, if_neg n2, if_pos hk]
        rw [hr]
        have hrg := rNumber_range hok 18446744073709551615 2
        have hur := unfoldI_range hrg.1 hrg.2
        try simp -dsimp only [↓RE, ↓c_seq, RU, RL, if_true, if_false, forall_const, implies_true, Nat.reduceLeDiff, Nat.reduceLT, pureOp, binPure, intBin, strBin, eqPure, isConstO, unPure, sliceLo, sliceHi, slicePure, lenPure, minPure, maxPure, buildP, resK, endV, yieldE, ↓reduceIte, Nat.reduceEqDiff, reduceCtorEq, Nat.reduceAdd, Nat.reduceMul, Nat.reduceSub, Int.reduceLT, Int.reduceLE, Int.reduceToNat, Int.reduceAdd, Int.reduceSub, Int.reduceMul, ne_eq, decide_true, decide_false, tf8, h0, h5, h6, h13, h14, h15, hB3.cell, OpV.cells]
        refine intR_ok hR3 hok (fun w4 hR4 k4 => ?_)
        simp -dsimp only [↓RE, ↓c_seq, RU, RL, if_true, if_false, forall_const, implies_true, Nat.reduceLeDiff, Nat.reduceLT, pureOp, binPure, intBin, strBin, eqPure, isConstO, unPure, sliceLo, sliceHi, slicePure, lenPure, minPure, maxPure, buildP, resK, endV, yieldE, ↓reduceIte, Nat.reduceEqDiff, reduceCtorEq, Nat.reduceAdd, Nat.reduceMul, Nat.reduceSub, Int.reduceLT, Int.reduceLE, Int.reduceToNat, Int.reduceAdd, Int.reduceSub, Int.reduceMul, ne_eq, decide_true, decide_false, tf8, h0, h5, h6, h13, h14, h15]
        refine int_ok (mkW (Keep.refl _ _) k4) hur.1 hur.2 (by omega) (fun w5 F5 hW5 hS5 => ?_)
        obtain ⟨a1, a2, a3, a4⟩ := fin (Keep.refl _ _) k4 hR4 hS5
        simp -dsimp only [↓RE, ↓c_seq, RU, RL, if_true, if_false, forall_const, implies_true, Nat.reduceLeDiff, Nat.reduceLT, pureOp, binPure, intBin, strBin, eqPure, isConstO, unPure, sliceLo, sliceHi, slicePure, lenPure, minPure, maxPure, buildP, resK, endV, yieldE, ↓reduceIte, Nat.reduceEqDiff, reduceCtorEq, Nat.reduceAdd, Nat.reduceMul, Nat.reduceSub, Int.reduceLT, Int.reduceLE, Int.reduceToNat, Int.reduceAdd, Int.reduceSub, Int.reduceMul, ne_eq, decide_true, decide_false, tf8, h0, h5, h6, h13, h14, h15]
        refine hold_intro ⟨?_, ?_, ?_, ?_, ?_, ?_, F5, a1, hW5, a2, a3, a4⟩ <;> simp -dsimp only [↓RE, ↓c_seq, RU, RL, if_true, if_false, forall_const, implies_true, Nat.reduceLeDiff, Nat.reduceLT, pureOp, binPure, intBin, strBin, eqPure, isConstO, unPure, sliceLo, sliceHi, slicePure, lenPure, minPure, maxPure, buildP, resK, endV, yieldE, ↓reduceIte, Nat.reduceEqDiff, reduceCtorEq, Nat.reduceAdd, Nat.reduceMul, Nat.reduceSub, Int.reduceLT, Int.reduceLE, Int.reduceToNat, Int.reduceAdd, Int.reduceSub, Int.reduceMul, ne_eq, decide_true, decide_false, tf8, h0, h5, h6, h13, h14, h15]
      have n3 := hk
      clear hk
      have hll := rLoad_len (m := o.b) hok
      have hlm := rLoad_mem (m := o.b) hok
      try simp -dsimp only [↓RE, ↓c_seq, RU, RL, if_true, if_false, forall_const, implies_true, Nat.reduceLeDiff, Nat.reduceLT, pureOp, binPure, intBin, strBin, eqPure, isConstO, unPure, sliceLo, sliceHi, slicePure, lenPure, minPure, maxPure, buildP, resK, endV, yieldE, ↓reduceIte, Nat.reduceEqDiff, reduceCtorEq, Nat.reduceAdd, Nat.reduceMul, Nat.reduceSub, Int.reduceLT, Int.reduceLE, Int.reduceToNat, Int.reduceAdd, Int.reduceSub, Int.reduceMul, ne_eq, decide_true, decide_false, tf8, h0, h5, h6, h13, h14, h15, hB3.cell, OpV.cells]
      refine ⟨fun hk => ?_, fun hk => ?_⟩
      · have hr : ro o s q = ((rLoad o.b s).1, (q.1 ++ (uvar (rLoad o.b s).2.length ++ (rLoad o.b s).2), 0)) := by unfold ro; rw [if_neg n0, if_neg n1, if_neg n2, if_neg n3, if_pos (.inl hk)]
        rw [hr]
        try simp -dsimp only [↓RE, ↓c_seq, RU, RL, if_true, if_false, forall_const, implies_true, Nat.reduceLeDiff, Nat.reduceLT, pureOp, binPure, intBin, strBin, eqPure, isConstO, unPure, sliceLo, sliceHi, slicePure, lenPure, minPure, maxPure, buildP, resK, endV, yieldE, ↓reduceIte, Nat.reduceEqDiff, reduceCtorEq, Nat.reduceAdd, Nat.reduceMul, Nat.reduceSub, Int.reduceLT, Int.reduceLE, Int.reduceToNat, Int.reduceAdd, Int.reduceSub, Int.reduceMul, ne_eq, decide_true, decide_false, tf8, h0, h5, h6, h13, h14, h15, hB3.cell, OpV.cells]
        refine textR_ok hR3 hok ob0 ob1 (fun w4 hR4 k4 => ?_)
        simp -dsimp only [↓RE, ↓c_seq, RU, RL, if_true, if_false, forall_const, implies_true, Nat.reduceLeDiff, Nat.reduceLT, pureOp, binPure, intBin, strBin, eqPure, isConstO, unPure, sliceLo, sliceHi, slicePure, lenPure, minPure, maxPure, buildP, resK, endV, yieldE, ↓reduceIte, Nat.reduceEqDiff, reduceCtorEq, Nat.reduceAdd, Nat.reduceMul, Nat.reduceSub, Int.reduceLT, Int.reduceLE, Int.reduceToNat, Int.reduceAdd, Int.reduceSub, Int.reduceMul, ne_eq, decide_true, decide_false, tf8, h0, h5, h6, h13, h14, h15]
        refine text_ok (mkW (Keep.refl _ _) k4) hlm (by omega) (fun w5 F5 hW5 hS5 => ?_)
        obtain ⟨a1, a2, a3, a4⟩ := fin (Keep.refl _ _) k4 hR4 hS5
        simp -dsimp only [↓RE, ↓c_seq, RU, RL, if_true, if_false, forall_const, implies_true, Nat.reduceLeDiff, Nat.reduceLT, pureOp, binPure, intBin, strBin, eqPure, isConstO, unPure, sliceLo, sliceHi, slicePure, lenPure, minPure, maxPure, buildP, resK, endV, yieldE, ↓reduceIte, Nat.reduceEqDiff, reduceCtorEq, Nat.reduceAdd, Nat.reduceMul, Nat.reduceSub, Int.reduceLT, Int.reduceLE, Int.reduceToNat, Int.reduceAdd, Int.reduceSub, Int.reduceMul, ne_eq, decide_true, decide_false, tf8, h0, h5, h6, h13, h14, h15]
        refine hold_intro ⟨?_, ?_, ?_, ?_, ?_, ?_, F5, a1, hW5, a2, a3, a4⟩ <;> simp -dsimp only [↓RE, ↓c_seq, RU, RL, if_true, if_false, forall_const, implies_true, Nat.reduceLeDiff, Nat.reduceLT, pureOp, binPure, intBin, strBin, eqPure, isConstO, unPure, sliceLo, sliceHi, slicePure, lenPure, minPure, maxPure, buildP, resK, endV, yieldE, ↓reduceIte, Nat.reduceEqDiff, reduceCtorEq, Nat.reduceAdd, Nat.reduceMul, Nat.reduceSub, Int.reduceLT, Int.reduceLE, Int.reduceToNat, Int.reduceAdd, Int.reduceSub, Int.reduceMul, ne_eq, decide_true, decide_false, tf8, h0, h5, h6, h13, h14, h15]
      have n4 := hk
      clear hk
      try simp -dsimp only [↓RE, ↓c_seq, RU, RL, if_true, if_false, forall_const, implies_true, Nat.reduceLeDiff, Nat.reduceLT, pureOp, binPure, intBin, strBin, eqPure, isConstO, unPure, sliceLo, sliceHi, slicePure, lenPure, minPure, maxPure, buildP, resK, endV, yieldE, ↓reduceIte, Nat.reduceEqDiff, reduceCtorEq, Nat.reduceAdd, Nat.reduceMul, Nat.reduceSub, Int.reduceLT, Int.reduceLE, Int.reduceToNat, Int.reduceAdd, Int.reduceSub, Int.reduceMul, ne_eq, decide_true, decide_false, tf8, h0, h5, h6, h13, h14, h15, hB3.cell, OpV.cells]
      refine ⟨fun hk => ?_, fun hk => ?_⟩
      · have hr : ro o s q = ((rLoad o.b s).1, (q.1 ++ (uvar (rLoad o.b s).2.length ++ (rLoad o.b s).2), 0)) := by unfold ro; rw [if_neg n0, if_neg n1, if_neg n2, if_neg n3, if_pos (.inr hk)]
        rw [hr]
        try simp -dsimp only [↓RE, ↓c_seq, RU, RL, if_true, if_false, forall_const, implies_true, Nat.reduceLeDiff, Nat.reduceLT, pureOp, binPure, intBin, strBin, eqPure, isConstO, unPure, sliceLo, sliceHi, slicePure, lenPure, minPure, maxPure, buildP, resK, endV, yieldE, ↓reduceIte, Nat.reduceEqDiff, reduceCtorEq, Nat.reduceAdd, Nat.reduceMul, Nat.reduceSub, Int.reduceLT, Int.reduceLE, Int.reduceToNat, Int.reduceAdd, Int.reduceSub, Int.reduceMul, ne_eq, decide_true, decide_false, tf8, h0, h5, h6, h13, h14, h15, hB3.cell, OpV.cells]
        refine rawR_ok hR3 hok ob0 ob1 (fun w4 A4 c4 hR4 hO4 hF4 k4 => ?_)
        simp -dsimp only [↓RE, ↓c_seq, RU, RL, if_true, if_false, forall_const, implies_true, Nat.reduceLeDiff, Nat.reduceLT, pureOp, binPure, intBin, strBin, eqPure, isConstO, unPure, sliceLo, sliceHi, slicePure, lenPure, minPure, maxPure, buildP, resK, endV, yieldE, ↓reduceIte, Nat.reduceEqDiff, reduceCtorEq, Nat.reduceAdd, Nat.reduceMul, Nat.reduceSub, Int.reduceLT, Int.reduceLE, Int.reduceToNat, Int.reduceAdd, Int.reduceSub, Int.reduceMul, ne_eq, decide_true, decide_false, tf8, h0, h5, h6, h13, h14, h15]
        have hs3 := hW3.lt
        refine raw_ok (mkW (Keep.refl _ _) k4) (Rd.of_own hO4) (fun _ k hk hf => absurd (hs3 k hf) (by have := hF4 k hk; omega)) (by omega) (fun w5 F5 hW5 hS5 => ?_)
        obtain ⟨a1, a2, a3, a4⟩ := fin (Keep.refl _ _) k4 hR4 hS5
        simp -dsimp only [↓RE, ↓c_seq, RU, RL, if_true, if_false, forall_const, implies_true, Nat.reduceLeDiff, Nat.reduceLT, pureOp, binPure, intBin, strBin, eqPure, isConstO, unPure, sliceLo, sliceHi, slicePure, lenPure, minPure, maxPure, buildP, resK, endV, yieldE, ↓reduceIte, Nat.reduceEqDiff, reduceCtorEq, Nat.reduceAdd, Nat.reduceMul, Nat.reduceSub, Int.reduceLT, Int.reduceLE, Int.reduceToNat, Int.reduceAdd, Int.reduceSub, Int.reduceMul, ne_eq, decide_true, decide_false, tf8, h0, h5, h6, h13, h14, h15]
        refine hold_intro ⟨?_, ?_, ?_, ?_, ?_, ?_, F5, a1, hW5, a2, a3, a4⟩ <;> simp -dsimp only [↓RE, ↓c_seq, RU, RL, if_true, if_false, forall_const, implies_true, Nat.reduceLeDiff, Nat.reduceLT, pureOp, binPure, intBin, strBin, eqPure, isConstO, unPure, sliceLo, sliceHi, slicePure, lenPure, minPure, maxPure, buildP, resK, endV, yieldE, ↓reduceIte, Nat.reduceEqDiff, reduceCtorEq, Nat.reduceAdd, Nat.reduceMul, Nat.reduceSub, Int.reduceLT, Int.reduceLE, Int.reduceToNat, Int.reduceAdd, Int.reduceSub, Int.reduceMul, ne_eq, decide_true, decide_false, tf8, h0, h5, h6, h13, h14, h15]
      have n5 := hk
      clear hk
      try simp -dsimp only [↓RE, ↓c_seq, RU, RL, if_true, if_false, forall_const, implies_true, Nat.reduceLeDiff, Nat.reduceLT, pureOp, binPure, intBin, strBin, eqPure, isConstO, unPure, sliceLo, sliceHi, slicePure, lenPure, minPure, maxPure, buildP, resK, endV, yieldE, ↓reduceIte, Nat.reduceEqDiff, reduceCtorEq, Nat.reduceAdd, Nat.reduceMul, Nat.reduceSub, Int.reduceLT, Int.reduceLE, Int.reduceToNat, Int.reduceAdd, Int.reduceSub, Int.reduceMul, ne_eq, decide_true, decide_false, tf8, h0, h5, h6, h13, h14, h15, hB3.cell, OpV.cells]
      refine ⟨fun hk => ?_, fun hk => ?_⟩
      · have hr : ro o s q = ((rBits o.b s).1, pushBits (rBits o.b s).2 (brought o.b) q) := by unfold ro; rw [if_neg n0, if_neg n1, if_neg n2, if_neg n3, if_neg (by omega), if_pos hk]
        rw [hr]
        have hbr := rBits_range o.b s
        try simp -dsimp only [↓RE, ↓c_seq, RU, RL, if_true, if_false, forall_const, implies_true, Nat.reduceLeDiff, Nat.reduceLT, pureOp, binPure, intBin, strBin, eqPure, isConstO, unPure, sliceLo, sliceHi, slicePure, lenPure, minPure, maxPure, buildP, resK, endV, yieldE, ↓reduceIte, Nat.reduceEqDiff, reduceCtorEq, Nat.reduceAdd, Nat.reduceMul, Nat.reduceSub, Int.reduceLT, Int.reduceLE, Int.reduceToNat, Int.reduceAdd, Int.reduceSub, Int.reduceMul, ne_eq, decide_true, decide_false, tf8, h0, h5, h6, h13, h14, h15, hB3.cell, OpV.cells]
        refine wpDraw_by (fun w => Blk w w'.heap.size 36 o.cells) [(0, true), (1, true), (2, true), (3, true), (5, true), (6, true), (4, false), (7, false)] (by kernel_rfl) hB3.drew ?_
        simp only [planL, List.getElem?_toArray, List.getElem?_cons_zero, List.getElem?_cons_succ, Option.toList_some, List.map_cons, List.map_nil, List.cons_append, List.nil_append]
        simp -dsimp only [↓RE, ↓c_seq, RU, RL, if_true, if_false, forall_const, implies_true, Nat.reduceLeDiff, Nat.reduceLT, pureOp, binPure, intBin, strBin, eqPure, isConstO, unPure, sliceLo, sliceHi, slicePure, lenPure, minPure, maxPure, buildP, resK, endV, yieldE, ↓reduceIte, Nat.reduceEqDiff, reduceCtorEq, Nat.reduceAdd, Nat.reduceMul, Nat.reduceSub, Int.reduceLT, Int.reduceLE, Int.reduceToNat, Int.reduceAdd, Int.reduceSub, Int.reduceMul, ne_eq, decide_true, decide_false, tf8, h0, h5, h6, h13, h14, h15]
        refine ⟨_, fun w' hS => Blk.cell hS 2, ?_⟩
        simp -dsimp only [↓RE, ↓c_seq, RU, RL, if_true, if_false, forall_const, implies_true, Nat.reduceLeDiff, Nat.reduceLT, pureOp, binPure, intBin, strBin, eqPure, isConstO, unPure, sliceLo, sliceHi, slicePure, lenPure, minPure, maxPure, buildP, resK, endV, yieldE, ↓reduceIte, Nat.reduceEqDiff, reduceCtorEq, Nat.reduceAdd, Nat.reduceMul, Nat.reduceSub, Int.reduceLT, Int.reduceLE, Int.reduceToNat, Int.reduceAdd, Int.reduceSub, Int.reduceMul, ne_eq, decide_true, decide_false, tf8, h0, h5, h6, h13, h14, h15]
        refine ⟨_, fun w' hS => Blk.cell hS 2, ?_⟩
        simp -dsimp only [↓RE, ↓c_seq, RU, RL, if_true, if_false, forall_const, implies_true, Nat.reduceLeDiff, Nat.reduceLT, pureOp, binPure, intBin, strBin, eqPure, isConstO, unPure, sliceLo, sliceHi, slicePure, lenPure, minPure, maxPure, buildP, resK, endV, yieldE, ↓reduceIte, Nat.reduceEqDiff, reduceCtorEq, Nat.reduceAdd, Nat.reduceMul, Nat.reduceSub, Int.reduceLT, Int.reduceLE, Int.reduceToNat, Int.reduceAdd, Int.reduceSub, Int.reduceMul, ne_eq, decide_true, decide_false, tf8, h0, h5, h6, h13, h14, h15]
        have gd := Grow.drew w3
        refine bitsR_ok (hR3.grow gd) hok ob0 ob1 (fun w4 hR4 k4 => ?_)
        have hB4 := hB3.drew.keep k4 hobp
        simp -dsimp only [↓RE, ↓c_seq, RU, RL, if_true, if_false, forall_const, implies_true, Nat.reduceLeDiff, Nat.reduceLT, pureOp, binPure, intBin, strBin, eqPure, isConstO, unPure, sliceLo, sliceHi, slicePure, lenPure, minPure, maxPure, buildP, resK, endV, yieldE, ↓reduceIte, Nat.reduceEqDiff, reduceCtorEq, Nat.reduceAdd, Nat.reduceMul, Nat.reduceSub, Int.reduceLT, Int.reduceLE, Int.reduceToNat, Int.reduceAdd, Int.reduceSub, Int.reduceMul, ne_eq, decide_true, decide_false, tf8, h0, h5, h6, h13, h14, h15]
        refine ⟨hB4, ?_⟩
        try simp -dsimp only [↓RE, ↓c_seq, RU, RL, if_true, if_false, forall_const, implies_true, Nat.reduceLeDiff, Nat.reduceLT, pureOp, binPure, intBin, strBin, eqPure, isConstO, unPure, sliceLo, sliceHi, slicePure, lenPure, minPure, maxPure, buildP, resK, endV, yieldE, ↓reduceIte, Nat.reduceEqDiff, reduceCtorEq, Nat.reduceAdd, Nat.reduceMul, Nat.reduceSub, Int.reduceLT, Int.reduceLE, Int.reduceToNat, Int.reduceAdd, Int.reduceSub, Int.reduceMul, ne_eq, decide_true, decide_false, tf8, h0, h5, h6, h13, h14, h15]
        refine bits_ok (mkW gd k4) hwok hbr.1 hbr.2 ob0 ob1 (by omega) (fun w5 F5 hW5 hS5 => ?_)
        obtain ⟨a1, a2, a3, a4⟩ := fin gd k4 hR4 hS5
        have hs3 := hW3.lt
        have hB5 := hB4.keep hS5.keep (fun hf => absurd (hW.lt _ hf) (by omega))
        simp -dsimp only [↓RE, ↓c_seq, RU, RL, if_true, if_false, forall_const, implies_true, Nat.reduceLeDiff, Nat.reduceLT, pureOp, binPure, intBin, strBin, eqPure, isConstO, unPure, sliceLo, sliceHi, slicePure, lenPure, minPure, maxPure, buildP, resK, endV, yieldE, ↓reduceIte, Nat.reduceEqDiff, reduceCtorEq, Nat.reduceAdd, Nat.reduceMul, Nat.reduceSub, Int.reduceLT, Int.reduceLE, Int.reduceToNat, Int.reduceAdd, Int.reduceSub, Int.reduceMul, ne_eq, decide_true, decide_false, tf8, h0, h5, h6, h13, h14, h15]
        refine ⟨hB5, hold_intro ⟨?_, ?_, ?_, ?_, ?_, ?_, F5, a1, hW5, a2, a3, a4⟩⟩ <;> simp -dsimp only [↓RE, ↓c_seq, RU, RL, if_true, if_false, forall_const, implies_true, Nat.reduceLeDiff, Nat.reduceLT, pureOp, binPure, intBin, strBin, eqPure, isConstO, unPure, sliceLo, sliceHi, slicePure, lenPure, minPure, maxPure, buildP, resK, endV, yieldE, ↓reduceIte, Nat.reduceEqDiff, reduceCtorEq, Nat.reduceAdd, Nat.reduceMul, Nat.reduceSub, Int.reduceLT, Int.reduceLE, Int.reduceToNat, Int.reduceAdd, Int.reduceSub, Int.reduceMul, ne_eq, decide_true, decide_false, tf8, h0, h5, h6, h13, h14, h15]
      have n6 := hk
      clear hk
      have hr : ro o s q = (s, q) := by unfold ro; rw [if_neg n0, if_neg n1, if_neg n2, if_neg n3, if_neg (by omega), if_neg n6]
      rw [hr]
      try simp -dsimp only [↓RE, ↓c_seq, RU, RL, if_true, if_false, forall_const, implies_true, Nat.reduceLeDiff, Nat.reduceLT, pureOp, binPure, intBin, strBin, eqPure, isConstO, unPure, sliceLo, sliceHi, slicePure, lenPure, minPure, maxPure, buildP, resK, endV, yieldE, ↓reduceIte, Nat.reduceEqDiff, reduceCtorEq, Nat.reduceAdd, Nat.reduceMul, Nat.reduceSub, Int.reduceLT, Int.reduceLE, Int.reduceToNat, Int.reduceAdd, Int.reduceSub, Int.reduceMul, ne_eq, decide_true, decide_false, tf8, h0, h5, h6, h13, h14, h15, hB3.cell, OpV.cells]
      refine hold_intro ⟨?_, ?_, ?_, ?_, ?_, ?_, F, hR3, hW3, hd, hF, hg.trans g3⟩ <;> simp -dsimp only [↓RE, ↓c_seq, RU, RL, if_true, if_false, forall_const, implies_true, Nat.reduceLeDiff, Nat.reduceLT, pureOp, binPure, intBin, strBin, eqPure, isConstO, unPure, sliceLo, sliceHi, slicePure, lenPure, minPure, maxPure, buildP, resK, endV, yieldE, ↓reduceIte, Nat.reduceEqDiff, reduceCtorEq, Nat.reduceAdd, Nat.reduceMul, Nat.reduceSub, Int.reduceLT, Int.reduceLE, Int.reduceToNat, Int.reduceAdd, Int.reduceSub, Int.reduceMul, ne_eq, decide_true, decide_false, tf8, h0, h5, h6, h13, h14, h15]
    · rintro e4 w4 ⟨f0, f5, f6, f13, f14, f15, F4, hR4, hW4, hd4, hF4, g4⟩
      simp -dsimp only [↓RE, ↓c_seq, RU, RL, if_true, if_false, forall_const, implies_true, Nat.reduceLeDiff, Nat.reduceLT, pureOp, binPure, intBin, strBin, eqPure, isConstO, unPure, sliceLo, sliceHi, slicePure, lenPure, minPure, maxPure, buildP, resK, endV, yieldE, ↓reduceIte, Nat.reduceEqDiff, reduceCtorEq, Nat.reduceAdd, Nat.reduceMul, Nat.reduceSub, Int.reduceLT, Int.reduceLE, Int.reduceToNat, Int.reduceAdd, Int.reduceSub, Int.reduceMul, ne_eq, decide_true, decide_false, tf8, f0, f5, f6, f13, f14, f15]
      refine hold_intro ⟨⟨?_, ?_, ?_, ?_, ?_, done ++ [o], rest, F4, _, _, by rw [hops]; simp, ?_, hR4, hW4, by rw [List.length_append]; exact hron, hd4, hF4, g4⟩, ?_⟩
      · simp -dsimp only [↓RE, ↓c_seq, RU, RL, if_true, if_false, forall_const, implies_true, Nat.reduceLeDiff, Nat.reduceLT, pureOp, binPure, intBin, strBin, eqPure, isConstO, unPure, sliceLo, sliceHi, slicePure, lenPure, minPure, maxPure, buildP, resK, endV, yieldE, ↓reduceIte, Nat.reduceEqDiff, reduceCtorEq, Nat.reduceAdd, Nat.reduceMul, Nat.reduceSub, Int.reduceLT, Int.reduceLE, Int.reduceToNat, Int.reduceAdd, Int.reduceSub, Int.reduceMul, ne_eq, decide_true, decide_false, tf8, f0]
      · simp -dsimp only [↓RE, ↓c_seq, RU, RL, if_true, if_false, forall_const, implies_true, Nat.reduceLeDiff, Nat.reduceLT, pureOp, binPure, intBin, strBin, eqPure, isConstO, unPure, sliceLo, sliceHi, slicePure, lenPure, minPure, maxPure, buildP, resK, endV, yieldE, ↓reduceIte, Nat.reduceEqDiff, reduceCtorEq, Nat.reduceAdd, Nat.reduceMul, Nat.reduceSub, Int.reduceLT, Int.reduceLE, Int.reduceToNat, Int.reduceAdd, Int.reduceSub, Int.reduceMul, ne_eq, decide_true, decide_false, tf8, f5]
      · simp -dsimp only [↓RE, ↓c_seq, RU, RL, if_true, if_false, forall_const, implies_true, Nat.reduceLeDiff, Nat.reduceLT, pureOp, binPure, intBin, strBin, eqPure, isConstO, unPure, sliceLo, sliceHi, slicePure, lenPure, minPure, maxPure, buildP, resK, endV, yieldE, ↓reduceIte, Nat.reduceEqDiff, reduceCtorEq, Nat.reduceAdd, Nat.reduceMul, Nat.reduceSub, Int.reduceLT, Int.reduceLE, Int.reduceToNat, Int.reduceAdd, Int.reduceSub, Int.reduceMul, ne_eq, decide_true, decide_false, tf8, f6]
      · simp -dsimp only [↓RE, ↓c_seq, RU, RL, if_true, if_false, forall_const, implies_true, Nat.reduceLeDiff, Nat.reduceLT, pureOp, binPure, intBin, strBin, eqPure, isConstO, unPure, sliceLo, sliceHi, slicePure, lenPure, minPure, maxPure, buildP, resK, endV, yieldE, ↓reduceIte, Nat.reduceEqDiff, reduceCtorEq, Nat.reduceAdd, Nat.reduceMul, Nat.reduceSub, Int.reduceLT, Int.reduceLE, Int.reduceToNat, Int.reduceAdd, Int.reduceSub, Int.reduceMul, ne_eq, decide_true, decide_false, tf8, f13]
      · simp -dsimp only [↓RE, ↓c_seq, RU, RL, if_true, if_false, forall_const, implies_true, Nat.reduceLeDiff, Nat.reduceLT, pureOp, binPure, intBin, strBin, eqPure, isConstO, unPure, sliceLo, sliceHi, slicePure, lenPure, minPure, maxPure, buildP, resK, endV, yieldE, ↓reduceIte, Nat.reduceEqDiff, reduceCtorEq, Nat.reduceAdd, Nat.reduceMul, Nat.reduceSub, Int.reduceLT, Int.reduceLE, Int.reduceToNat, Int.reduceAdd, Int.reduceSub, Int.reduceMul, ne_eq, decide_true, decide_false, tf8, f14]
      · simp -dsimp only [↓RE, ↓c_seq, RU, RL, if_true, if_false, forall_const, implies_true, Nat.reduceLeDiff, Nat.reduceLT, pureOp, binPure, intBin, strBin, eqPure, isConstO, unPure, sliceLo, sliceHi, slicePure, lenPure, minPure, maxPure, buildP, resK, endV, yieldE, ↓reduceIte, Nat.reduceEqDiff, reduceCtorEq, Nat.reduceAdd, Nat.reduceMul, Nat.reduceSub, Int.reduceLT, Int.reduceLE, Int.reduceToNat, Int.reduceAdd, Int.reduceSub, Int.reduceMul, ne_eq, decide_true, decide_false, tf8, f15]
        rw [wrap_i64_in (by omega) (by omega)]; simp
      · simp -dsimp only [↓RE, ↓c_seq, RU, RL, if_true, if_false, forall_const, implies_true, Nat.reduceLeDiff, Nat.reduceLT, pureOp, binPure, intBin, strBin, eqPure, isConstO, unPure, sliceLo, sliceHi, slicePure, lenPure, minPure, maxPure, buildP, resK, endV, yieldE, ↓reduceIte, Nat.reduceEqDiff, reduceCtorEq, Nat.reduceAdd, Nat.reduceMul, Nat.reduceSub, Int.reduceLT, Int.reduceLE, Int.reduceToNat, Int.reduceAdd, Int.reduceSub, Int.reduceMul, ne_eq, decide_true, decide_false, tf8, f15, h15]
        rw [wrap_i64_in (by omega) (by omega), envInt_int, envInt_int]; omega
  · obtain rfl : rest = [] := by
      cases rest with
      | nil => rfl
      | cons o r => simp at hnd; omega
    simp -dsimp only [↓RE, ↓c_seq, RU, RL, if_true, if_false, forall_const, implies_true, Nat.reduceLeDiff, Nat.reduceLT, pureOp, binPure, intBin, strBin, eqPure, isConstO, unPure, sliceLo, sliceHi, slicePure, lenPure, minPure, maxPure, buildP, resK, endV, yieldE, ↓reduceIte, Nat.reduceEqDiff, reduceCtorEq, Nat.reduceAdd, Nat.reduceMul, Nat.reduceSub, Int.reduceLT, Int.reduceLE, Int.reduceToNat, Int.reduceAdd, Int.reduceSub, Int.reduceMul, ne_eq, decide_true, decide_false, tf8, h0, h5, h6, h13, h14, h15]
    refine live_ok (fun w3 g3 => ?_)
    simp -dsimp only [↓RE, ↓c_seq, RU, RL, if_true, if_false, forall_const, implies_true, Nat.reduceLeDiff, Nat.reduceLT, pureOp, binPure, intBin, strBin, eqPure, isConstO, unPure, sliceLo, sliceHi, slicePure, lenPure, minPure, maxPure, buildP, resK, endV, yieldE, ↓reduceIte, Nat.reduceEqDiff, reduceCtorEq, Nat.reduceAdd, Nat.reduceMul, Nat.reduceSub, Int.reduceLT, Int.reduceLE, Int.reduceToNat, Int.reduceAdd, Int.reduceSub, Int.reduceMul, ne_eq, decide_true, decide_false, tf8, h0, h5, h6, h13, h14, h15]
    refine doneR_ok (hR.grow g3) hro.ok (fun w4 g4 => ?_)
    cases hdn : rDone s with
    | some x =>
      simp -dsimp only [↓RE, ↓c_seq, RU, RL, if_true, if_false, forall_const, implies_true, Nat.reduceLeDiff, Nat.reduceLT, pureOp, binPure, intBin, strBin, eqPure, isConstO, unPure, sliceLo, sliceHi, slicePure, lenPure, minPure, maxPure, buildP, resK, endV, yieldE, ↓reduceIte, Nat.reduceEqDiff, reduceCtorEq, Nat.reduceAdd, Nat.reduceMul, Nat.reduceSub, Int.reduceLT, Int.reduceLE, Int.reduceToNat, Int.reduceAdd, Int.reduceSub, Int.reduceMul, ne_eq, decide_true, decide_false, tf8, h0, h5, h6, h13, h14, h15, errV, undef]
      exact h w4 ((hg.trans g3).trans g4)
    | none =>
      simp -dsimp only [↓RE, ↓c_seq, RU, RL, if_true, if_false, forall_const, implies_true, Nat.reduceLeDiff, Nat.reduceLT, pureOp, binPure, intBin, strBin, eqPure, isConstO, unPure, sliceLo, sliceHi, slicePure, lenPure, minPure, maxPure, buildP, resK, endV, yieldE, ↓reduceIte, Nat.reduceEqDiff, reduceCtorEq, Nat.reduceAdd, Nat.reduceMul, Nat.reduceSub, Int.reduceLT, Int.reduceLE, Int.reduceToNat, Int.reduceAdd, Int.reduceSub, Int.reduceMul, ne_eq, decide_true, decide_false, tf8, h0, h5, h6, h13, h14, h15, errV, undef]
      refine bytes_ok ((hW.grow g3).grow g4) (by omega) (fun w5 A5 c5 hO5 g5 hF5 => ?_)
      have g5' := ((hg.trans g3).trans g4).trans g5
      simp -dsimp only [↓RE, ↓c_seq, RU, RL, if_true, if_false, forall_const, implies_true, Nat.reduceLeDiff, Nat.reduceLT, pureOp, binPure, intBin, strBin, eqPure, isConstO, unPure, sliceLo, sliceHi, slicePure, lenPure, minPure, maxPure, buildP, resK, endV, yieldE, ↓reduceIte, Nat.reduceEqDiff, reduceCtorEq, Nat.reduceAdd, Nat.reduceMul, Nat.reduceSub, Int.reduceLT, Int.reduceLE, Int.reduceToNat, Int.reduceAdd, Int.reduceSub, Int.reduceMul, ne_eq, decide_true, decide_false, tf8, h0, h5, h6, h13, h14, h15]
      refine same_ok (Rd.of_own hO5) (hB.grow g5') (by omega) (by omega) (fun w6 g6 => ?_)
      have hall := done_all (hro.xs ▸ hro.ok.bytes) hro.wok hro.step hdn
      rw [decide_eq_true hall]
      simp -dsimp only [↓RE, ↓c_seq, RU, RL, if_true, if_false, forall_const, implies_true, Nat.reduceLeDiff, Nat.reduceLT, pureOp, binPure, intBin, strBin, eqPure, isConstO, unPure, sliceLo, sliceHi, slicePure, lenPure, minPure, maxPure, buildP, resK, endV, yieldE, ↓reduceIte, Nat.reduceEqDiff, reduceCtorEq, Nat.reduceAdd, Nat.reduceMul, Nat.reduceSub, Int.reduceLT, Int.reduceLE, Int.reduceToNat, Int.reduceAdd, Int.reduceSub, Int.reduceMul, ne_eq, decide_true, decide_false, tf8, h0, h5, h6, h13, h14, h15, undef]
      exact h w6 (g5'.trans g6)

end Go.Proofs.Ytcjlhfmjcioeeaa
