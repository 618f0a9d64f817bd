/- The law WireTorn, walked. -/
import Derived.Test.YtcjlhfmjcioeeaaTornSpec
import Derived.Test.YtcjlhfmjcioeeaaLive
import Derived.Test.YtcjlhfmjcioeeaaBits
set_option linter.unusedVariables false
set_option linter.unusedSimpArgs false
set_option maxRecDepth 100000
namespace Go.Proofs.Ytcjlhfmjcioeeaa
open Go

theorem xor_u8 {x y : Int} (h0 : 0 ≤ x) (h1 : x < 256) (g0 : 0 ≤ y) (g1 : y < 256) : 0 ≤ bitsOp .xor .u8 x y ∧ bitsOp .xor .u8 x y < 256 ∧ (bitsOp .xor .u8 x y = x ↔ y = 0) := by
  have e : bitsOp .xor .u8 x y = ((x.toNat ^^^ y.toNat : Nat) : Int) := by rw [bitsOp_eq _ _ _ _ (by simp), u8_xor x y h0 h1 g0 g1]
  rw [e]
  have hlt : x.toNat ^^^ y.toNat < 2 ^ 8 := Nat.xor_lt_two_pow (by omega) (by omega)
  refine ⟨by omega, by omega, fun h => ?_, fun h => ?_⟩
  · have h2 : x.toNat ^^^ y.toNat = x.toNat := by omega
    have h3 : y.toNat ^^^ x.toNat = 0 ^^^ x.toNat := by rw [Nat.zero_xor, Nat.xor_comm]; exact h2
    have := xor_cancel h3
    omega
  · subst h; simp; omega

theorem torn_walk {w : World} {number At By : Int} (u0 : 0 ≤ number) (u1 : number < 18446744073709551616) (a0 : -9223372036854775808 ≤ At) (a1 : At < 9223372036854775808) (y0 : 0 ≤ By) (y1 : By < 256)
    {A B : Option Addr} {n c m d : Nat} {xs ys : List Int} (hA : Rd w A n 1 (xs.map (Value.int .u8))) (hx : ∀ z ∈ xs, 0 ≤ z ∧ z < 256) (hB : Rd w B m 1 (ys.map (Value.int .u8))) (hy : ∀ z ∈ ys, 0 ≤ z ∧ z < 256)
    (hn : n ≤ 1048576) (hm : m ≤ 1048576) {R : VWK}
    (h : ∀ w', Grow w w' → R (.bool true) w') :
    CallsV Try.prog 5 [.slice A n c, .int .u64 number, .agg #[.int .i64 At, .int .u8 By, .slice B m d]] w R := by
  have hl := hA.len1
  have hlm := hB.len1
  have gd := frameOf_good (kind := 2) (number := number) (by omega) (by omega) hx (by omega)
  have fl := frameOf_len 2 number xs
  have fb := frameOf_byte (kind := 2) (number := number) (xs := xs) (by omega) (by omega) hx
  have e21 : (21 + xs.length) = 21 + n := by omega
  have hpos : ∀ t : Int, t = At.tmod ((21 + n : Nat) : Int) → -((21 + n : Nat) : Int) < t ∧ t < ((21 + n : Nat) : Int) := fun t ht => by
    have h1 := Int.natAbs_tmod At ((21 + n : Nat) : Int)
    rw [← ht] at h1
    have h2 : At.natAbs % (((21 + n : Nat) : Int)).natAbs < (((21 + n : Nat) : Int)).natAbs := Nat.mod_lt _ (by omega)
    omega
  refine calls_of_wpC mixed Try.func5 rfl (by kernel_rfl) ?_
  intro e he
  have he0 := he 0
  have he1 := he 1
  have he2 := he 2
  simp only [List.getD_cons_zero, List.getD_cons_succ] at he0 he1 he2
  clear he
  rw [c_assoc, c_assoc, c_assoc, c_assoc, c_assoc, c_assoc]
  refine c_seq_cut (fun e' w' => Grow w w' ∧ ∃ (A1 : Option Addr) (c1 k : Nat), e' 7 = .slice A1 (21 + n) c1 ∧ w'.ownsRow 0 5 1 (.slice A1 (21 + n) c1) (21 + n) ((frameOf 2 number xs).map (Value.int .u8)) ∧ (∀ k, fpA A1 k → w.heap.size < k) ∧
    e' 5 = .pointer (some ⟨w.heap.size, 0, none⟩) ∧ Blk w' w.heap.size 43 [.int .i64 At, .int .u8 By, .slice B m d] ∧ e' 13 = .int .i64 k ∧ k < 21 + n) ?_ ?_
  · simp only [↓RD, ↓c_seq, RU, RL, if_true, if_false, forall_const, implies_true, Nat.reduceLeDiff, Nat.reduceLT, pureOp, binPure, intBin, strBin, eqPure, isConstO, unPure, sliceLo, sliceHi, slicePure, lenPure, minPure, maxPure, buildP, resK, endV, yieldE, ↓reduceIte, Nat.reduceEqDiff, reduceCtorEq, Nat.reduceAdd, Nat.reduceMul, Nat.reduceSub, Int.reduceLT, Int.reduceLE, Int.reduceToNat, Int.reduceAdd, Int.reduceSub, Int.reduceMul, ne_eq, decide_true, decide_false, tf5, he0, he1, he2]
    have hBk := Blk.new' w 43 #[.int .i64 At, .int .u8 By, .slice B m d]
    have g0 := Grow.alloc w (.cells #[.int .i64 At, .int .u8 By, .slice B m d] 43)
    refine seal_ok (by omega) (by omega) (hA.grow g0) hx (by omega) (fun hgt => by omega) (fun _ w1 A1 c1 hO1 g1 hF1 => ?_)
    have hBk1 := hBk.grow g1
    have g1' := g0.trans g1
    simp only [↓RD, ↓c_seq, RU, RL, if_true, if_false, forall_const, implies_true, Nat.reduceLeDiff, Nat.reduceLT, pureOp, binPure, intBin, strBin, eqPure, isConstO, unPure, sliceLo, sliceHi, slicePure, lenPure, minPure, maxPure, buildP, resK, endV, yieldE, ↓reduceIte, Nat.reduceEqDiff, reduceCtorEq, Nat.reduceAdd, Nat.reduceMul, Nat.reduceSub, Int.reduceLT, Int.reduceLE, Int.reduceToNat, Int.reduceAdd, Int.reduceSub, Int.reduceMul, ne_eq, decide_true, decide_false, tf5, he0, he1, he2]
    refine wpDraw_by (Grow w1) [(1, true), (3, true), (4, true), (0, false), (2, false), (5, false), (6, false), (7, true), (8, true), (9, true), (10, true), (11, true), (12, true), (13, true), (14, true), (15, true), (16, true), (17, true)] (by kernel_rfl) (Grow.drew w1) ?_
    simp only [planL, List.getElem?_toArray, List.getElem?_cons_zero, List.getElem?_cons_succ, Option.toList_some, List.map_cons, List.map_nil, List.cons_append, List.nil_append]
    simp only [↓RD, ↓c_seq, RU, RL, if_true, if_false, forall_const, implies_true, Nat.reduceLeDiff, Nat.reduceLT, pureOp, binPure, intBin, strBin, eqPure, isConstO, unPure, sliceLo, sliceHi, slicePure, lenPure, minPure, maxPure, buildP, resK, endV, yieldE, ↓reduceIte, Nat.reduceEqDiff, reduceCtorEq, Nat.reduceAdd, Nat.reduceMul, Nat.reduceSub, Int.reduceLT, Int.reduceLE, Int.reduceToNat, Int.reduceAdd, Int.reduceSub, Int.reduceMul, ne_eq, decide_true, decide_false, tf5, he0, he1, he2]
    refine ⟨_, fun w' g => (hBk1.grow g).cell 2, ?_⟩
    simp only [↓RD, ↓c_seq, RU, RL, if_true, if_false, forall_const, implies_true, Nat.reduceLeDiff, Nat.reduceLT, pureOp, binPure, intBin, strBin, eqPure, isConstO, unPure, sliceLo, sliceHi, slicePure, lenPure, minPure, maxPure, buildP, resK, endV, yieldE, ↓reduceIte, Nat.reduceEqDiff, reduceCtorEq, Nat.reduceAdd, Nat.reduceMul, Nat.reduceSub, Int.reduceLT, Int.reduceLE, Int.reduceToNat, Int.reduceAdd, Int.reduceSub, Int.reduceMul, ne_eq, decide_true, decide_false, tf5, he0, he1, he2]
    have gA := (Grow.drew w1).trans (Grow.alloc w1.drew (.cells #[] 5))
    refine ⟨gA, ?_⟩
    have hRf := (Rd.of_own hO1).grow gA
    refine appK_own (bytes := 1) (by kernel_rfl) (own_new w1.drew 5 1 0 #[] rfl (by simp [maxLen])) hRf (ints_one _ _) (by simp only [maxLen]; omega) (by omega) (fun A2 c2 w2 hO2 hK2 hF2 => ?_)
    have g2 : Grow w1 w2 := gA.above hK2 (fun i hi hf => by
      rw [fpV_some] at hf; subst hf; exact absurd hi (by simp))
    simp only [Nat.zero_add, List.nil_append] at hO2 hF2
    simp only [↓RD, ↓c_seq, RU, RL, if_true, if_false, forall_const, implies_true, Nat.reduceLeDiff, Nat.reduceLT, pureOp, binPure, intBin, strBin, eqPure, isConstO, unPure, sliceLo, sliceHi, slicePure, lenPure, minPure, maxPure, buildP, resK, endV, yieldE, ↓reduceIte, Nat.reduceEqDiff, reduceCtorEq, Nat.reduceAdd, Nat.reduceMul, Nat.reduceSub, Int.reduceLT, Int.reduceLE, Int.reduceToNat, Int.reduceAdd, Int.reduceSub, Int.reduceMul, ne_eq, decide_true, decide_false, tf5, he0, he1, he2]
    refine ⟨g2, ?_⟩
    have hRb := (hB.grow g1').grow g2
    refine appK_own (bytes := 1) (by kernel_rfl) hO2 hRb (ints_one _ _) (by simp only [maxLen]; omega) (by omega) (fun A3 c3 w3 hO3 hK3 hF3 => ?_)
    have hF2' : ∀ k, fpV (.slice A2 (21 + n) c2) k → w1.heap.size ≤ k := fun k hk => by
      rcases hF2 k hk with h1 | h1
      · rw [fpV_some] at h1; subst h1; simp
      · rw [h1]; simp
    have g3 : Grow w1 w3 := g2.above hK3 (fun i hi hf => absurd (hF2' i hf) (by omega))
    rw [← List.map_append] at hO3
    simp only [↓RD, ↓c_seq, RU, RL, if_true, if_false, forall_const, implies_true, Nat.reduceLeDiff, Nat.reduceLT, pureOp, binPure, intBin, strBin, eqPure, isConstO, unPure, sliceLo, sliceHi, slicePure, lenPure, minPure, maxPure, buildP, resK, endV, yieldE, ↓reduceIte, Nat.reduceEqDiff, reduceCtorEq, Nat.reduceAdd, Nat.reduceMul, Nat.reduceSub, Int.reduceLT, Int.reduceLE, Int.reduceToNat, Int.reduceAdd, Int.reduceSub, Int.reduceMul, ne_eq, decide_true, decide_false, tf5, he0, he1, he2]
    refine ⟨g3, ?_⟩
    have hnn := gd.none ys
    obtain ⟨A3', c3', e3, hc3, _⟩ := own_form hO3
    simp only [Value.slice.injEq, true_and] at e3
    obtain ⟨rfl, rfl⟩ := e3
    refine open_ok (Rd.of_own hO3) hc3 (mem_app fb hy) (by omega) (fun e w4 he => by rw [hnn.1] at he; cases he) (fun _ w4 A4 c4 hO4 g4 hF4 => ?_)
    obtain ⟨r0, r1, r2⟩ := frameOf_read (kind := 2) u0 u1 (xs := xs) ys
    rw [hnn.2, r2] at hO4
    rw [hnn.2, r0, r1, hl]
    rw [hl] at hO4
    simp only [↓RD, ↓c_seq, RU, RL, if_true, if_false, forall_const, implies_true, Nat.reduceLeDiff, Nat.reduceLT, pureOp, binPure, intBin, strBin, eqPure, isConstO, unPure, sliceLo, sliceHi, slicePure, lenPure, minPure, maxPure, buildP, resK, endV, yieldE, ↓reduceIte, Nat.reduceEqDiff, reduceCtorEq, Nat.reduceAdd, Nat.reduceMul, Nat.reduceSub, Int.reduceLT, Int.reduceLE, Int.reduceToNat, Int.reduceAdd, Int.reduceSub, Int.reduceMul, ne_eq, decide_true, decide_false, tf5, he0, he1, he2]
    have g4' := g3.trans g4
    refine ⟨g4', ?_⟩
    refine same_ok (Rd.of_own hO4) (hA.grow (g1'.trans g4')) (by omega) (by omega) (fun w5 g5 => ?_)
    have g5' := g4'.trans g5
    have hwl : IntKind.i64.wrap ((n : Int) + 21) = ((21 + n : Nat) : Int) := by rw [wrap_i64_in (by omega) (by omega)]; omega
    have hp0 := hpos _ rfl
    simp only [↓RD, ↓c_seq, RU, RL, if_true, if_false, forall_const, implies_true, Nat.reduceLeDiff, Nat.reduceLT, pureOp, binPure, intBin, strBin, eqPure, isConstO, unPure, sliceLo, sliceHi, slicePure, lenPure, minPure, maxPure, buildP, resK, endV, yieldE, ↓reduceIte, Nat.reduceEqDiff, reduceCtorEq, Nat.reduceAdd, Nat.reduceMul, Nat.reduceSub, Int.reduceLT, Int.reduceLE, Int.reduceToNat, Int.reduceAdd, Int.reduceSub, Int.reduceMul, ne_eq, decide_true, decide_false, tf5, he0, he1, he2, eq_self, hwl, (hBk1.grow g5').cell]
    have hO5 := own_grow hO1 g5'
    have hw5 : ∀ k, fpA A1 k → w.heap.size < k := fun k hk => Nat.lt_of_lt_of_le (by simp) (hF1 k hk)
    refine ⟨by omega, fun hlt => ?_, fun hge => ?_⟩
    · have e13 : IntKind.i64.wrap (At.tmod ((21 + n : Nat) : Int) + ((21 + n : Nat) : Int)) = ((At.tmod ((21 + n : Nat) : Int) + ((21 + n : Nat) : Int)).toNat : Nat) := by rw [wrap_i64_in (by omega) (by omega)]; omega
      refine hold_intro ⟨g1'.trans g5', A1, c1, (At.tmod ((21 + n : Nat) : Int) + ((21 + n : Nat) : Int)).toNat, ?_, hO5, hw5, ?_, hBk1.grow g5', ?_, by omega⟩
      · simp only [↓RD, ↓c_seq, RU, RL, if_true, if_false, forall_const, implies_true, Nat.reduceLeDiff, Nat.reduceLT, pureOp, binPure, intBin, strBin, eqPure, isConstO, unPure, sliceLo, sliceHi, slicePure, lenPure, minPure, maxPure, buildP, resK, endV, yieldE, ↓reduceIte, Nat.reduceEqDiff, reduceCtorEq, Nat.reduceAdd, Nat.reduceMul, Nat.reduceSub, Int.reduceLT, Int.reduceLE, Int.reduceToNat, Int.reduceAdd, Int.reduceSub, Int.reduceMul, ne_eq, decide_true, decide_false, tf5, he0, he1, he2]
      · simp only [↓RD, ↓c_seq, RU, RL, if_true, if_false, forall_const, implies_true, Nat.reduceLeDiff, Nat.reduceLT, pureOp, binPure, intBin, strBin, eqPure, isConstO, unPure, sliceLo, sliceHi, slicePure, lenPure, minPure, maxPure, buildP, resK, endV, yieldE, ↓reduceIte, Nat.reduceEqDiff, reduceCtorEq, Nat.reduceAdd, Nat.reduceMul, Nat.reduceSub, Int.reduceLT, Int.reduceLE, Int.reduceToNat, Int.reduceAdd, Int.reduceSub, Int.reduceMul, ne_eq, decide_true, decide_false, tf5, he0, he1, he2]
      · simp only [↓RD, ↓c_seq, RU, RL, if_true, if_false, forall_const, implies_true, Nat.reduceLeDiff, Nat.reduceLT, pureOp, binPure, intBin, strBin, eqPure, isConstO, unPure, sliceLo, sliceHi, slicePure, lenPure, minPure, maxPure, buildP, resK, endV, yieldE, ↓reduceIte, Nat.reduceEqDiff, reduceCtorEq, Nat.reduceAdd, Nat.reduceMul, Nat.reduceSub, Int.reduceLT, Int.reduceLE, Int.reduceToNat, Int.reduceAdd, Int.reduceSub, Int.reduceMul, ne_eq, decide_true, decide_false, tf5, he0, he1, he2, e13]
    · refine hold_intro ⟨g1'.trans g5', A1, c1, (At.tmod ((21 + n : Nat) : Int)).toNat, ?_, hO5, hw5, ?_, hBk1.grow g5', ?_, by omega⟩
      · simp only [↓RD, ↓c_seq, RU, RL, if_true, if_false, forall_const, implies_true, Nat.reduceLeDiff, Nat.reduceLT, pureOp, binPure, intBin, strBin, eqPure, isConstO, unPure, sliceLo, sliceHi, slicePure, lenPure, minPure, maxPure, buildP, resK, endV, yieldE, ↓reduceIte, Nat.reduceEqDiff, reduceCtorEq, Nat.reduceAdd, Nat.reduceMul, Nat.reduceSub, Int.reduceLT, Int.reduceLE, Int.reduceToNat, Int.reduceAdd, Int.reduceSub, Int.reduceMul, ne_eq, decide_true, decide_false, tf5, he0, he1, he2]
      · simp only [↓RD, ↓c_seq, RU, RL, if_true, if_false, forall_const, implies_true, Nat.reduceLeDiff, Nat.reduceLT, pureOp, binPure, intBin, strBin, eqPure, isConstO, unPure, sliceLo, sliceHi, slicePure, lenPure, minPure, maxPure, buildP, resK, endV, yieldE, ↓reduceIte, Nat.reduceEqDiff, reduceCtorEq, Nat.reduceAdd, Nat.reduceMul, Nat.reduceSub, Int.reduceLT, Int.reduceLE, Int.reduceToNat, Int.reduceAdd, Int.reduceSub, Int.reduceMul, ne_eq, decide_true, decide_false, tf5, he0, he1, he2]
      · simp only [↓RD, ↓c_seq, RU, RL, if_true, if_false, forall_const, implies_true, Nat.reduceLeDiff, Nat.reduceLT, pureOp, binPure, intBin, strBin, eqPure, isConstO, unPure, sliceLo, sliceHi, slicePure, lenPure, minPure, maxPure, buildP, resK, endV, yieldE, ↓reduceIte, Nat.reduceEqDiff, reduceCtorEq, Nat.reduceAdd, Nat.reduceMul, Nat.reduceSub, Int.reduceLT, Int.reduceLE, Int.reduceToNat, Int.reduceAdd, Int.reduceSub, Int.reduceMul, ne_eq, decide_true, decide_false, tf5, he0, he1, he2]
        rw [Int.toNat_of_nonneg (by omega)]
  · rintro e' w' ⟨g, A1, c1, k, h7, hO, hA1, h5, hBk, h13, hk⟩
    obtain ⟨gb, c1', e1, hc1⟩ := own_some hO (by omega)
    simp only [Value.slice.injEq, true_and] at e1
    obtain ⟨rfl, rfl⟩ := e1
    have hgb : w.heap.size < gb := hA1 gb ⟨_, rfl, rfl⟩
    have hRf := Rd.of_own hO
    have hcut := hRf.cut (k := 0) (m := k) (cap := c1) (by omega) (by omega) hc1
    simp only [Nat.zero_mul, List.drop_zero, Nat.sub_zero, Nat.mul_one, ← List.map_take] at hcut
    have hnc := gd.cut (k := k) (by omega)
    simp only [↓RD, ↓c_seq, RU, RL, if_true, if_false, forall_const, implies_true, Nat.reduceLeDiff, Nat.reduceLT, pureOp, binPure, intBin, strBin, eqPure, isConstO, unPure, sliceLo, sliceHi, slicePure, lenPure, minPure, maxPure, buildP, resK, endV, yieldE, ↓reduceIte, Nat.reduceEqDiff, reduceCtorEq, Nat.reduceAdd, Nat.reduceMul, Nat.reduceSub, Int.reduceLT, Int.reduceLE, Int.reduceToNat, Int.reduceAdd, Int.reduceSub, Int.reduceMul, ne_eq, decide_true, decide_false, tf5, h5, h7, h13]
    refine ⟨by omega, ?_⟩
    refine open_ok hcut (by omega) (fun z hz => fb z (List.mem_of_mem_take hz)) (by omega) (fun er w6 he g6 => ?_) (fun he => absurd he hnc)
    simp only [↓RD, ↓c_seq, RU, RL, if_true, if_false, forall_const, implies_true, Nat.reduceLeDiff, Nat.reduceLT, pureOp, binPure, intBin, strBin, eqPure, isConstO, unPure, sliceLo, sliceHi, slicePure, lenPure, minPure, maxPure, buildP, resK, endV, yieldE, ↓reduceIte, Nat.reduceEqDiff, reduceCtorEq, Nat.reduceAdd, Nat.reduceMul, Nat.reduceSub, Int.reduceLT, Int.reduceLE, Int.reduceToNat, Int.reduceAdd, Int.reduceSub, Int.reduceMul, ne_eq, decide_true, decide_false, tf5, h5, h7, h13]
    have hO6 := own_grow hO g6
    have hBk6 := hBk.grow g6
    have hcell : w6.cell? ⟨gb, k, none⟩ = some (.int .u8 ((frameOf 2 number xs).getD k 0)) := by
      rw [hO6.cellAt _ (by omega), getD_map_int _ _ (by omega)]
    have hrg := getD_mem_range fb k
    have hxr := xor_u8 hrg.1 hrg.2 y0 y1
    refine wpDraw_tail mixed 7 (by kernel_rfl) ?_
    simp only [↓RD, ↓c_seq, RU, RL, if_true, if_false, forall_const, implies_true, Nat.reduceLeDiff, Nat.reduceLT, pureOp, binPure, intBin, strBin, eqPure, isConstO, unPure, sliceLo, sliceHi, slicePure, lenPure, minPure, maxPure, buildP, resK, endV, yieldE, ↓reduceIte, Nat.reduceEqDiff, reduceCtorEq, Nat.reduceAdd, Nat.reduceMul, Nat.reduceSub, Int.reduceLT, Int.reduceLE, Int.reduceToNat, Int.reduceAdd, Int.reduceSub, Int.reduceMul, ne_eq, decide_true, decide_false, tf5, h5, h7, h13, World.cell?_drew, hBk6.cell, hcell]
    refine ⟨⟨by omega, by omega⟩, ⟨by omega, by omega⟩, ?_⟩
    generalize hv : bitsOp .xor .u8 ((frameOf 2 number xs).getD k 0) By = v at hxr
    have hO6d : w6.drew.ownsRow 0 5 1 (.slice (some ⟨gb, 0, none⟩) (21 + n) c1) (21 + n) ((frameOf 2 number xs).map (Value.int .u8)) := hO6
    refine own_st (w := w6.drew) (j := k) hO6d (by omega) ?_
    have hO7 := own_set hO6d k (by omega) (.int .u8 v)
    rw [map_set] at hO7
    have k7 : Keep (fun i => i = gb) w6 (w6.drew.setCell ⟨gb, k, none⟩ (.int .u8 v)) := (Grow.drew w6).then (Keep.set1 w6.drew gb k (.int .u8 v))
    have hBk7 : Blk (w6.drew.setCell ⟨gb, k, none⟩ (.int .u8 v)) w.heap.size 43 [.int .i64 At, .int .u8 By, .slice B m d] := hBk6.keep k7 (by omega)
    have g7 : Grow w (w6.drew.setCell ⟨gb, k, none⟩ (.int .u8 v)) := (g.trans g6).above k7 (fun i hi e => by omega)
    have hb7 : ∀ z ∈ (frameOf 2 number xs).set k v, 0 ≤ z ∧ z < 256 := fun z hz => (List.mem_or_eq_of_mem_set hz).elim (fb z) (fun e => by subst e; exact ⟨hxr.1, hxr.2.1⟩)
    generalize w6.drew.setCell ⟨gb, k, none⟩ (.int .u8 v) = w7 at hO7 hBk7 g7
    simp only [↓RD, ↓c_seq, RU, RL, if_true, if_false, forall_const, implies_true, Nat.reduceLeDiff, Nat.reduceLT, pureOp, binPure, intBin, strBin, eqPure, isConstO, unPure, sliceLo, sliceHi, slicePure, lenPure, minPure, maxPure, buildP, resK, endV, yieldE, ↓reduceIte, Nat.reduceEqDiff, reduceCtorEq, Nat.reduceAdd, Nat.reduceMul, Nat.reduceSub, Int.reduceLT, Int.reduceLE, Int.reduceToNat, Int.reduceAdd, Int.reduceSub, Int.reduceMul, ne_eq, decide_true, decide_false, tf5, h5, h7, h13]
    refine open_ok (Rd.of_own hO7) hc1 hb7 (by omega) (fun er w8 he g8 => ?_) (fun he w8 A8 c8 _ g8 _ => ?_)
    · have hne : By ≠ 0 := by
        rintro rfl
        have := hxr.2.2.2 rfl
        rw [this, show (frameOf 2 number xs).set k ((frameOf 2 number xs).getD k 0) = frameOf 2 number xs by
          rw [List.getD_eq_getElem?_getD, List.getElem?_eq_getElem (by omega)]; exact List.set_getElem_self _] at he
        have hn := (gd.none []).1
        rw [List.append_nil] at hn
        rw [hn] at he
        cases he
      simp only [↓RD, ↓c_seq, RU, RL, if_true, if_false, forall_const, implies_true, Nat.reduceLeDiff, Nat.reduceLT, pureOp, binPure, intBin, strBin, eqPure, isConstO, unPure, sliceLo, sliceHi, slicePure, lenPure, minPure, maxPure, buildP, resK, endV, yieldE, ↓reduceIte, Nat.reduceEqDiff, reduceCtorEq, Nat.reduceAdd, Nat.reduceMul, Nat.reduceSub, Int.reduceLT, Int.reduceLE, Int.reduceToNat, Int.reduceAdd, Int.reduceSub, Int.reduceMul, ne_eq, decide_true, decide_false, tf5, h5, h7, h13]
      refine wpDraw_still (by kernel_rfl) ?_
      simp only [↓RD, ↓c_seq, RU, RL, if_true, if_false, forall_const, implies_true, Nat.reduceLeDiff, Nat.reduceLT, pureOp, binPure, intBin, strBin, eqPure, isConstO, unPure, sliceLo, sliceHi, slicePure, lenPure, minPure, maxPure, buildP, resK, endV, yieldE, ↓reduceIte, Nat.reduceEqDiff, reduceCtorEq, Nat.reduceAdd, Nat.reduceMul, Nat.reduceSub, Int.reduceLT, Int.reduceLE, Int.reduceToNat, Int.reduceAdd, Int.reduceSub, Int.reduceMul, ne_eq, decide_true, decide_false, tf5, h5, h7, h13, World.cell?_drew, (hBk7.grow g8).cell, hne]
      exact h _ (g7.trans (g8.trans (Grow.drew w8)))
    · have hv0 := gd.torn (i := k) (by omega) hxr.1 hxr.2.1 he
      have hBy : By = 0 := hxr.2.2.1 hv0
      simp only [↓RD, ↓c_seq, RU, RL, if_true, if_false, forall_const, implies_true, Nat.reduceLeDiff, Nat.reduceLT, pureOp, binPure, intBin, strBin, eqPure, isConstO, unPure, sliceLo, sliceHi, slicePure, lenPure, minPure, maxPure, buildP, resK, endV, yieldE, ↓reduceIte, Nat.reduceEqDiff, reduceCtorEq, Nat.reduceAdd, Nat.reduceMul, Nat.reduceSub, Int.reduceLT, Int.reduceLE, Int.reduceToNat, Int.reduceAdd, Int.reduceSub, Int.reduceMul, ne_eq, decide_true, decide_false, tf5, h5, h7, h13]
      refine wpDraw_still (by kernel_rfl) ?_
      simp only [↓RD, ↓c_seq, RU, RL, if_true, if_false, forall_const, implies_true, Nat.reduceLeDiff, Nat.reduceLT, pureOp, binPure, intBin, strBin, eqPure, isConstO, unPure, sliceLo, sliceHi, slicePure, lenPure, minPure, maxPure, buildP, resK, endV, yieldE, ↓reduceIte, Nat.reduceEqDiff, reduceCtorEq, Nat.reduceAdd, Nat.reduceMul, Nat.reduceSub, Int.reduceLT, Int.reduceLE, Int.reduceToNat, Int.reduceAdd, Int.reduceSub, Int.reduceMul, ne_eq, decide_true, decide_false, tf5, h5, h7, h13, World.cell?_drew, (hBk7.grow g8).cell, hBy]
      exact h _ (g7.trans (g8.trans (Grow.drew w8)))

end Go.Proofs.Ytcjlhfmjcioeeaa
