
/- The law BlockCut, walked. -/
import Derived.Test.YtmgiichlccdcfaaBlkBack
set_option linter.unusedVariables false
set_option linter.unusedSimpArgs false
set_option maxRecDepth 100000
namespace Go.Proofs.Ytmgiichlccdcfaa
open Go

theorem cut_walk {w : World} {A : Option Addr} {n c : Nat} {l : List (Int × Int × Int)} (hR : Rd w A n 3 (l.flatMap scells)) (hl0 : ∀ z ∈ l, SOk z) (hn : n ≤ 5864062014634) {k : Int} (k0 : -9223372036854775808 ≤ k) (k1 : k < 9223372036854775808)
    {R : VWK} (h : ∀ w', Grow w w' → R (.bool true) w') : CallsV Try.prog 6 [.slice A n c, .int .i64 k] w R := by
  have hl := hR.flat3
  refine calls_of_wpC mixed Try.func6 rfl (by kernel_rfl) ?_
  intro e he
  have he0 := he 0
  have he1 := he 1
  simp only [List.getD_cons_zero, List.getD_cons_succ] at he0 he1
  clear he
  try simp -dsimp only [↓RE, ↓c_seq, RU, RL, if_true, if_false, forall_const, implies_true, Nat.reduceLeDiff, Nat.reduceLT, pureOp, binPure, intBin, strBin, eqPure, isConstO, unPure, sliceLo, sliceHi, slicePure, lenPure, minPure, maxPure, buildP, resK, endV, yieldE, ↓reduceIte, Nat.reduceEqDiff, reduceCtorEq, Nat.reduceAdd, Nat.reduceMul, Nat.reduceSub, Int.reduceLT, Int.reduceLE, Int.reduceToNat, Int.reduceAdd, Int.reduceSub, Int.reduceMul, ne_eq, decide_true, decide_false, tf6, he0, he1]
  refine pack_ok hR hl0 (by omega) (fun er w3 hpe g3 => ?_) (fun hpe w3 A3 c3 hO3 g3 hF3 => ?_)
  · try simp -dsimp only [↓RE, ↓c_seq, RU, RL, if_true, if_false, forall_const, implies_true, Nat.reduceLeDiff, Nat.reduceLT, pureOp, binPure, intBin, strBin, eqPure, isConstO, unPure, sliceLo, sliceHi, slicePure, lenPure, minPure, maxPure, buildP, resK, endV, yieldE, ↓reduceIte, Nat.reduceEqDiff, reduceCtorEq, Nat.reduceAdd, Nat.reduceMul, Nat.reduceSub, Int.reduceLT, Int.reduceLE, Int.reduceToNat, Int.reduceAdd, Int.reduceSub, Int.reduceMul, ne_eq, decide_true, decide_false, tf6, he0, he1, undef]
    refine live9_ok (fun w4 g4 => ?_)
    try simp -dsimp only [↓RE, ↓c_seq, RU, RL, if_true, if_false, forall_const, implies_true, Nat.reduceLeDiff, Nat.reduceLT, pureOp, binPure, intBin, strBin, eqPure, isConstO, unPure, sliceLo, sliceHi, slicePure, lenPure, minPure, maxPure, buildP, resK, endV, yieldE, ↓reduceIte, Nat.reduceEqDiff, reduceCtorEq, Nat.reduceAdd, Nat.reduceMul, Nat.reduceSub, Int.reduceLT, Int.reduceLE, Int.reduceToNat, Int.reduceAdd, Int.reduceSub, Int.reduceMul, ne_eq, decide_true, decide_false, tf6, he0, he1]
    exact h w4 (g3.trans g4)
  · have hln : l.length ≤ 1048576 := by have := tErr_none (pErr_none hpe).1; rwa [tms_len] at this
    have hpl := pOut_len hln hl0
    have hpos : 0 < (pOut l).length := by
      have := uvar_pos (tW (tms l) l.length).1.length
      unfold pOut rawB
      simp only [List.length_append]
      omega
    have hcut := fun m => unpack_cut hl0 hpe (n := m)
    have hbytes := pOut_bytes l
    obtain ⟨G, rfl⟩ : ∃ G, A3 = some ⟨G, 0, none⟩ := own_place hO3 hpos
    have hc3 := own_cap hO3
    have hRo := Rd.of_own hO3
    generalize pOut l = Z at *
    have d1 : decide ((Z.length : Int) = 0) = false := decide_eq_false (by omega)
    have t1 := Int.tmod_lt_of_pos k (show 0 < (Z.length : Int) by omega)
    have t2 := Int.lt_tmod_of_pos k (show 0 < (Z.length : Int) by omega)
    generalize hr : k.tmod (Z.length : Int) = r at *
    have r1 : IntKind.i64.wrap (r + (Z.length : Int)) = r + (Z.length : Int) := wrap_i64_in (by omega) (by omega)
    try simp -dsimp only [↓RE, ↓c_seq, RU, RL, if_true, if_false, forall_const, implies_true, Nat.reduceLeDiff, Nat.reduceLT, pureOp, binPure, intBin, strBin, eqPure, isConstO, unPure, sliceLo, sliceHi, slicePure, lenPure, minPure, maxPure, buildP, resK, endV, yieldE, ↓reduceIte, Nat.reduceEqDiff, reduceCtorEq, Nat.reduceAdd, Nat.reduceMul, Nat.reduceSub, Int.reduceLT, Int.reduceLE, Int.reduceToNat, Int.reduceAdd, Int.reduceSub, Int.reduceMul, ne_eq, decide_true, decide_false, tf6, he0, he1, d1, hr, r1]
    refine ⟨by omega, fun hneg => ?_, fun hneg => ?_⟩
    · refine ⟨⟨by omega, by omega⟩, ?_⟩
      try simp -dsimp only [↓RE, ↓c_seq, RU, RL, if_true, if_false, forall_const, implies_true, Nat.reduceLeDiff, Nat.reduceLT, pureOp, binPure, intBin, strBin, eqPure, isConstO, unPure, sliceLo, sliceHi, slicePure, lenPure, minPure, maxPure, buildP, resK, endV, yieldE, ↓reduceIte, Nat.reduceEqDiff, reduceCtorEq, Nat.reduceAdd, Nat.reduceMul, Nat.reduceSub, Int.reduceLT, Int.reduceLE, Int.reduceToNat, Int.reduceAdd, Int.reduceSub, Int.reduceMul, ne_eq, decide_true, decide_false, tf6, he0, he1, ite_self, Nat.sub_zero]
      have hfr : Rd w3 (some ⟨G, 0, none⟩) (r + (Z.length : Int)).toNat 1 ((Z.take (r + (Z.length : Int)).toNat).map (Value.int .u8)) := by
        have hz : Z.map (Value.int .u8) = (Z.take (r + (Z.length : Int)).toNat).map (Value.int .u8) ++ (Z.drop (r + (Z.length : Int)).toNat).map (Value.int .u8) := by rw [← List.map_append, List.take_append_drop]
        rw [hz] at hRo
        exact hRo.front (by rw [List.length_map, List.length_take]; omega) (by omega)
      refine unpack_ok hfr (fun z hz => hbytes z (List.mem_of_mem_take hz)) (by omega) (fun x w4 hq g4 => ?_) (fun hq => absurd hq (hcut _ (by omega)))
      try simp -dsimp only [↓RE, ↓c_seq, RU, RL, if_true, if_false, forall_const, implies_true, Nat.reduceLeDiff, Nat.reduceLT, pureOp, binPure, intBin, strBin, eqPure, isConstO, unPure, sliceLo, sliceHi, slicePure, lenPure, minPure, maxPure, buildP, resK, endV, yieldE, ↓reduceIte, Nat.reduceEqDiff, reduceCtorEq, Nat.reduceAdd, Nat.reduceMul, Nat.reduceSub, Int.reduceLT, Int.reduceLE, Int.reduceToNat, Int.reduceAdd, Int.reduceSub, Int.reduceMul, ne_eq, decide_true, decide_false, tf6, he0, he1, errV]
      refine live9_ok (fun w5 g5 => ?_)
      try simp -dsimp only [↓RE, ↓c_seq, RU, RL, if_true, if_false, forall_const, implies_true, Nat.reduceLeDiff, Nat.reduceLT, pureOp, binPure, intBin, strBin, eqPure, isConstO, unPure, sliceLo, sliceHi, slicePure, lenPure, minPure, maxPure, buildP, resK, endV, yieldE, ↓reduceIte, Nat.reduceEqDiff, reduceCtorEq, Nat.reduceAdd, Nat.reduceMul, Nat.reduceSub, Int.reduceLT, Int.reduceLE, Int.reduceToNat, Int.reduceAdd, Int.reduceSub, Int.reduceMul, ne_eq, decide_true, decide_false, tf6, he0, he1, Int.cast_ofNat_Int, eq_self]
      exact h w5 ((g3.trans g4).trans g5)
    · try simp -dsimp only [↓RE, ↓c_seq, RU, RL, if_true, if_false, forall_const, implies_true, Nat.reduceLeDiff, Nat.reduceLT, pureOp, binPure, intBin, strBin, eqPure, isConstO, unPure, sliceLo, sliceHi, slicePure, lenPure, minPure, maxPure, buildP, resK, endV, yieldE, ↓reduceIte, Nat.reduceEqDiff, reduceCtorEq, Nat.reduceAdd, Nat.reduceMul, Nat.reduceSub, Int.reduceLT, Int.reduceLE, Int.reduceToNat, Int.reduceAdd, Int.reduceSub, Int.reduceMul, ne_eq, decide_true, decide_false, tf6, he0, he1, hr]
      refine ⟨⟨by omega, by omega⟩, ?_⟩
      try simp -dsimp only [↓RE, ↓c_seq, RU, RL, if_true, if_false, forall_const, implies_true, Nat.reduceLeDiff, Nat.reduceLT, pureOp, binPure, intBin, strBin, eqPure, isConstO, unPure, sliceLo, sliceHi, slicePure, lenPure, minPure, maxPure, buildP, resK, endV, yieldE, ↓reduceIte, Nat.reduceEqDiff, reduceCtorEq, Nat.reduceAdd, Nat.reduceMul, Nat.reduceSub, Int.reduceLT, Int.reduceLE, Int.reduceToNat, Int.reduceAdd, Int.reduceSub, Int.reduceMul, ne_eq, decide_true, decide_false, tf6, he0, he1, ite_self, Nat.sub_zero]
      have hfr : Rd w3 (some ⟨G, 0, none⟩) r.toNat 1 ((Z.take r.toNat).map (Value.int .u8)) := by
        have hz : Z.map (Value.int .u8) = (Z.take r.toNat).map (Value.int .u8) ++ (Z.drop r.toNat).map (Value.int .u8) := by rw [← List.map_append, List.take_append_drop]
        rw [hz] at hRo
        exact hRo.front (by rw [List.length_map, List.length_take]; omega) (by omega)
      refine unpack_ok hfr (fun z hz => hbytes z (List.mem_of_mem_take hz)) (by omega) (fun x w4 hq g4 => ?_) (fun hq => absurd hq (hcut _ (by omega)))
      try simp -dsimp only [↓RE, ↓c_seq, RU, RL, if_true, if_false, forall_const, implies_true, Nat.reduceLeDiff, Nat.reduceLT, pureOp, binPure, intBin, strBin, eqPure, isConstO, unPure, sliceLo, sliceHi, slicePure, lenPure, minPure, maxPure, buildP, resK, endV, yieldE, ↓reduceIte, Nat.reduceEqDiff, reduceCtorEq, Nat.reduceAdd, Nat.reduceMul, Nat.reduceSub, Int.reduceLT, Int.reduceLE, Int.reduceToNat, Int.reduceAdd, Int.reduceSub, Int.reduceMul, ne_eq, decide_true, decide_false, tf6, he0, he1, errV]
      refine live9_ok (fun w5 g5 => ?_)
      try simp -dsimp only [↓RE, ↓c_seq, RU, RL, if_true, if_false, forall_const, implies_true, Nat.reduceLeDiff, Nat.reduceLT, pureOp, binPure, intBin, strBin, eqPure, isConstO, unPure, sliceLo, sliceHi, slicePure, lenPure, minPure, maxPure, buildP, resK, endV, yieldE, ↓reduceIte, Nat.reduceEqDiff, reduceCtorEq, Nat.reduceAdd, Nat.reduceMul, Nat.reduceSub, Int.reduceLT, Int.reduceLE, Int.reduceToNat, Int.reduceAdd, Int.reduceSub, Int.reduceMul, ne_eq, decide_true, decide_false, tf6, he0, he1, Int.cast_ofNat_Int, eq_self]
      exact h w5 ((g3.trans g4).trans g5)

end Go.Proofs.Ytmgiichlccdcfaa
