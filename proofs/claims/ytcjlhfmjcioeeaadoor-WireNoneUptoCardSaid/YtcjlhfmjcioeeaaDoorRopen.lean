
/- The document's NewReader and Open; the law WireOpens, walked. -/
import Derived.Test.YtcjlhfmjcioeeaaDoorRR
import Derived.Test.YtcjlhfmjcioeeaaDoorOpen
import Derived.Test.YtcjlhfmjcioeeaaDoorLive
set_option linter.unusedVariables false
set_option linter.unusedSimpArgs false
set_option maxRecDepth 100000
namespace Go.Proofs.YtcjlhfmjcioeeaaDoor
open Go

theorem rnewReader_ok {w : World} {A : Option Addr} {n c : Nat} {xs : List Int} (hR : Rd w A n 1 (xs.map (Value.int .u8))) (hb : n ≤ 140737488355328) {R : VWK}
    (h : ∀ w' F p, RMAt w' F p ⟨xs, 0, 0, none⟩ → Grow w w' → (∀ k, F k → w.heap.size ≤ k) → R (.pointer (some ⟨p, 0, none⟩)) w') :
    CallsV Tryd.prog 17 [.slice A n c] w R := by
  have hl := hR.len1
  refine calls_of_wpC mixed Tryd.func17 rfl (by kernel_rfl) ?_
  intro e he
  have he0 := he 0
  simp only [List.getD_cons_zero, List.getD_cons_succ] at he0
  clear he
  try simp -dsimp only [↓RE, ↓c_seq, RU, RL, if_true, if_false, forall_const, implies_true, Nat.reduceLeDiff, Nat.reduceLT, pureOp, binPure, intBin, strBin, eqPure, isConstO, unPure, sliceLo, sliceHi, slicePure, lenPure, minPure, maxPure, buildP, resK, endV, yieldE, ↓reduceIte, Nat.reduceEqDiff, reduceCtorEq, Nat.reduceAdd, Nat.reduceMul, Nat.reduceSub, Int.reduceLT, Int.reduceLE, Int.reduceToNat, Int.reduceAdd, Int.reduceSub, Int.reduceMul, ne_eq, decide_true, decide_false, tf17, he0]
  have hB1 := Blk.new' w 97 #[.slice none 0 0, .int .i64 0, .int .i64 0, .int .i64 0, .int .i64 0, .int .i64 0, .bool false, .bool false]
  have g1 := Grow.alloc w (.cells #[.slice none 0 0, .int .i64 0, .int .i64 0, .int .i64 0, .int .i64 0, .int .i64 0, .bool false, .bool false] 97)
  generalize hw1 : w.alloc (.cells #[.slice none 0 0, .int .i64 0, .int .i64 0, .int .i64 0, .int .i64 0, .int .i64 0, .bool false, .bool false] 97) = w1 at hB1 g1
  try simp -dsimp only [↓RE, ↓c_seq, RU, RL, if_true, if_false, forall_const, implies_true, Nat.reduceLeDiff, Nat.reduceLT, pureOp, binPure, intBin, strBin, eqPure, isConstO, unPure, sliceLo, sliceHi, slicePure, lenPure, minPure, maxPure, buildP, resK, endV, yieldE, ↓reduceIte, Nat.reduceEqDiff, reduceCtorEq, Nat.reduceAdd, Nat.reduceMul, Nat.reduceSub, Int.reduceLT, Int.reduceLE, Int.reduceToNat, Int.reduceAdd, Int.reduceSub, Int.reduceMul, ne_eq, decide_true, decide_false, tf17, he0, hB1.cell, hw1]
  refine appK_own (bytes := 1) (by kernel_rfl) (own_nil w1 5 1) (hR.grow g1) (ints_one _ _) (by simp only [maxLen]; omega) (by omega) (fun A' c' w2 hO2 hK2 hF2 => ?_)
  have hO2 : w2.ownsRow 0 5 1 (.slice A' n c') n (xs.map (Value.int .u8)) := by simpa using hO2
  rw [Nat.zero_add]
  have k2 : Grow w1 w2 := hK2.mono (fun i _ hf => absurd hf (fpV_none i))
  have hF2 : ∀ k, fpA A' k → k = w1.heap.size := fun k hk => (hF2 k (by rw [Nat.zero_add, fpV_fpA]; exact hk)).elim (fun h => absurd h (fpV_none k)) id
  have hp1 : w.heap.size < w1.heap.size := hB1.lt
  try simp -dsimp only [↓RE, ↓c_seq, RU, RL, if_true, if_false, forall_const, implies_true, Nat.reduceLeDiff, Nat.reduceLT, pureOp, binPure, intBin, strBin, eqPure, isConstO, unPure, sliceLo, sliceHi, slicePure, lenPure, minPure, maxPure, buildP, resK, endV, yieldE, ↓reduceIte, Nat.reduceEqDiff, reduceCtorEq, Nat.reduceAdd, Nat.reduceMul, Nat.reduceSub, Int.reduceLT, Int.reduceLE, Int.reduceToNat, Int.reduceAdd, Int.reduceSub, Int.reduceMul, ne_eq, decide_true, decide_false, tf17, he0]
  refine (hB1.grow k2).st (i := 0) (by simp) ?_
  have hB3 := (hB1.grow k2).set 0 (.slice A' n c')
  have hB3 : Blk (w2.setCell ⟨w.heap.size, 0, none⟩ (.slice A' n c')) w.heap.size 97 ([.slice A' xs.length c', .int .i64 (0 : Nat), .int .i64 (0 : Nat)] ++ (badF none).cells) := by rw [hl]; simpa [badF, BadV.none, BadV.cells] using hB3
  have k3 := Keep.set1 w2 w.heap.size 0 (.slice A' n c')
  have hO3 := own_keep hO2 k3 (fun k hk e => by rw [fpV_fpA] at hk; have := hF2 k hk; omega)
  obtain ⟨A2, c2, e2, hc2, _⟩ := own_form hO2
  injection e2 with e2a e2b e2c
  subst e2a; subst e2c
  try simp -dsimp only [↓RE, ↓c_seq, RU, RL, if_true, if_false, forall_const, implies_true, Nat.reduceLeDiff, Nat.reduceLT, pureOp, binPure, intBin, strBin, eqPure, isConstO, unPure, sliceLo, sliceHi, slicePure, lenPure, minPure, maxPure, buildP, resK, endV, yieldE, ↓reduceIte, Nat.reduceEqDiff, reduceCtorEq, Nat.reduceAdd, Nat.reduceMul, Nat.reduceSub, Int.reduceLT, Int.reduceLE, Int.reduceToNat, Int.reduceAdd, Int.reduceSub, Int.reduceMul, ne_eq, decide_true, decide_false, tf17, he0]
  refine h _ _ _ ⟨A', c', hB3, by rw [hl]; exact Rd.of_own hO3, fun _ hf => by have := hF2 _ hf; omega, by rw [hl]; exact hc2, rfl⟩ ((g1.trans k2).above k3 (fun i hi e => by omega)) ?_
  rintro k (rfl | ⟨_, hk⟩)
  · exact Nat.le_refl _
  · have := hF2 k hk; omega

theorem ropen_ok {w : World} {A : Option Addr} {n c : Nat} {xs : List Int} (hR : Rd w A n 1 (xs.map (Value.int .u8))) (hc : n ≤ c) (hx : ∀ z ∈ xs, 0 ≤ z ∧ z < 256) (hn : n ≤ 140737488355328) {R : VWK}
    (herr : ∀ e w', oErr xs = some e → e ≠ 0 → Grow w w' → R (.tuple #[.int .u8 0, .int .u64 0, .slice none 0 0, .int .i64 0, BadV.v ⟨e, 0, 0, false, false⟩]) w')
    (h : oErr xs = none → ∀ w' A' c', Rd w' A' (oN xs) 1 (((xs.drop 17).take (oN xs)).map (Value.int .u8)) → Grow w w' → R (.tuple #[.int .u8 (xs.getD 0 0), .int .u64 (oNum xs), .slice A' (oN xs) c', .int .i64 (21 + oN xs : Nat), BadV.none.v]) w') :
    CallsV Tryd.prog 15 [.slice A n c] w R := by
  have hl := hR.len1
  unfold oErr at herr h
  refine calls_of_wpC mixed Tryd.func15 rfl (by kernel_rfl) ?_
  intro e he
  have he0 := he 0
  simp only [List.getD_cons_zero, List.getD_cons_succ] at he0
  clear he
  try simp -dsimp only [↓RE, ↓c_seq, RU, RL, if_true, if_false, forall_const, implies_true, Nat.reduceLeDiff, Nat.reduceLT, pureOp, binPure, intBin, strBin, eqPure, isConstO, unPure, sliceLo, sliceHi, slicePure, lenPure, minPure, maxPure, buildP, resK, endV, yieldE, ↓reduceIte, Nat.reduceEqDiff, reduceCtorEq, Nat.reduceAdd, Nat.reduceMul, Nat.reduceSub, Int.reduceLT, Int.reduceLE, Int.reduceToNat, Int.reduceAdd, Int.reduceSub, Int.reduceMul, ne_eq, decide_true, decide_false, tf15, he0]
  have hz0 := Blk.new' w 31 #[.int .i64 0, .int .i64 0, .int .i64 0, .bool false, .bool false]
  have g0 := Grow.alloc w (.cells #[.int .i64 0, .int .i64 0, .int .i64 0, .bool false, .bool false] 31)
  generalize hw0 : w.alloc (.cells #[.int .i64 0, .int .i64 0, .int .i64 0, .bool false, .bool false] 31) = w0 at hz0 g0
  refine ⟨fun hlt => ?_, fun hge => ?_⟩
  · try simp -dsimp only [↓RE, ↓c_seq, RU, RL, if_true, if_false, forall_const, implies_true, Nat.reduceLeDiff, Nat.reduceLT, pureOp, binPure, intBin, strBin, eqPure, isConstO, unPure, sliceLo, sliceHi, slicePure, lenPure, minPure, maxPure, buildP, resK, endV, yieldE, ↓reduceIte, Nat.reduceEqDiff, reduceCtorEq, Nat.reduceAdd, Nat.reduceMul, Nat.reduceSub, Int.reduceLT, Int.reduceLE, Int.reduceToNat, Int.reduceAdd, Int.reduceSub, Int.reduceMul, ne_eq, decide_true, decide_false, tf15, he0, hw0]
    refine rnew_ok (fun w1 g1 => ?_)
    try simp -dsimp only [↓RE, ↓c_seq, RU, RL, if_true, if_false, forall_const, implies_true, Nat.reduceLeDiff, Nat.reduceLT, pureOp, binPure, intBin, strBin, eqPure, isConstO, unPure, sliceLo, sliceHi, slicePure, lenPure, minPure, maxPure, buildP, resK, endV, yieldE, ↓reduceIte, Nat.reduceEqDiff, reduceCtorEq, Nat.reduceAdd, Nat.reduceMul, Nat.reduceSub, Int.reduceLT, Int.reduceLE, Int.reduceToNat, Int.reduceAdd, Int.reduceSub, Int.reduceMul, ne_eq, decide_true, decide_false, tf15, he0, BadV.v, BadV.cells]
    refine (hz0.grow g1).stAgg (by simp) (by simp [Value.oneCell']) (fun w2 hB2 hK2 => ?_)
    have hB2 : Blk w2 w.heap.size 31 (BadV.cells ⟨30, 0, 0, false, false⟩) := by simpa [BadV.cells] using hB2
    try simp -dsimp only [↓RE, ↓c_seq, RU, RL, if_true, if_false, forall_const, implies_true, Nat.reduceLeDiff, Nat.reduceLT, pureOp, binPure, intBin, strBin, eqPure, isConstO, unPure, sliceLo, sliceHi, slicePure, lenPure, minPure, maxPure, buildP, resK, endV, yieldE, ↓reduceIte, Nat.reduceEqDiff, reduceCtorEq, Nat.reduceAdd, Nat.reduceMul, Nat.reduceSub, Int.reduceLT, Int.reduceLE, Int.reduceToNat, Int.reduceAdd, Int.reduceSub, Int.reduceMul, ne_eq, decide_true, decide_false, tf15, he0]
    refine hB2.aggK (by simp [BadV.cells]) ?_
    try simp -dsimp only [↓RE, ↓c_seq, RU, RL, if_true, if_false, forall_const, implies_true, Nat.reduceLeDiff, Nat.reduceLT, pureOp, binPure, intBin, strBin, eqPure, isConstO, unPure, sliceLo, sliceHi, slicePure, lenPure, minPure, maxPure, buildP, resK, endV, yieldE, ↓reduceIte, Nat.reduceEqDiff, reduceCtorEq, Nat.reduceAdd, Nat.reduceMul, Nat.reduceSub, Int.reduceLT, Int.reduceLE, Int.reduceToNat, Int.reduceAdd, Int.reduceSub, Int.reduceMul, ne_eq, decide_true, decide_false, tf15, he0]
    exact herr 30 w2 (by rw [if_pos (by omega)]) (by decide) ((g0.trans g1).above hK2 (fun i hi e => by omega))
  have h17 : 17 ≤ n := by omega
  rw [if_neg (by omega)] at herr h
  have okk : ∀ k, k ≤ n → RSok ⟨xs, k, 0, none⟩ := fun k hk => ⟨by simp only; omega, by simp, by simp, by simp only; omega, hx⟩
  have tk : ∀ k m, k + m ≤ n → rTake m ⟨xs, k, 0, none⟩ = (⟨xs, k + m, 0, none⟩, (xs.drop k).take m) := fun k m hk => by
    rw [rTake_ok rfl rfl (by simp only; omega)]
  have b4 : ∀ k, 0 ≤ beNat ((xs.drop k).take 4) ∧ beNat ((xs.drop k).take 4) < 4294967296 := fun k => by
    have h1 := beNat_range 4 ((xs.drop k).take 4) (fun z hz => hx z (List.mem_of_mem_drop (List.mem_of_mem_take hz))) (by rw [List.length_take]; omega)
    have h2 : ((xs.drop k).take 4).length = 0 ∨ ((xs.drop k).take 4).length = 1 ∨ ((xs.drop k).take 4).length = 2 ∨ ((xs.drop k).take 4).length = 3 ∨ ((xs.drop k).take 4).length = 4 := by
      have : ((xs.drop k).take 4).length ≤ 4 := by rw [List.length_take]; omega
      omega
    rcases h2 with h2 | h2 | h2 | h2 | h2 <;> rw [h2] at h1 <;> omega
  have hcut : ∀ {w' : World} (k : Nat), k ≤ n → Grow w w' → Rd w' (if c = 0 then A else A.map (·.add (0 * 1))) (k - 0) 1 ((xs.take k).map (Value.int .u8)) := fun k hk g => by
    have := (hR.grow g).cut (k := 0) (m := k) (cap := c) (by omega) hk hc
    simpa using this
  have hcb : ∀ k, ∀ z ∈ xs.take k, 0 ≤ z ∧ z < 256 := fun k z hz => hx z (List.mem_of_mem_take hz)
  try simp -dsimp only [↓RE, ↓c_seq, RU, RL, if_true, if_false, forall_const, implies_true, Nat.reduceLeDiff, Nat.reduceLT, pureOp, binPure, intBin, strBin, eqPure, isConstO, unPure, sliceLo, sliceHi, slicePure, lenPure, minPure, maxPure, buildP, resK, endV, yieldE, ↓reduceIte, Nat.reduceEqDiff, reduceCtorEq, Nat.reduceAdd, Nat.reduceMul, Nat.reduceSub, Int.reduceLT, Int.reduceLE, Int.reduceToNat, Int.reduceAdd, Int.reduceSub, Int.reduceMul, ne_eq, decide_true, decide_false, tf15, he0, hw0]
  refine rnewReader_ok (hR.grow g0) hn (fun w1 F p hR1 g1 hF => ?_)
  have hFw : ¬ F w.heap.size := fun hf => by have := hF _ hf; have := hz0.lt; omega
  have hpw : w0.heap.size ≤ p := hF p hR1.place
  have hpz : ¬ w.heap.size = p := fun e => by have := hz0.lt; omega
  try simp -dsimp only [↓RE, ↓c_seq, RU, RL, if_true, if_false, forall_const, implies_true, Nat.reduceLeDiff, Nat.reduceLT, pureOp, binPure, intBin, strBin, eqPure, isConstO, unPure, sliceLo, sliceHi, slicePure, lenPure, minPure, maxPure, buildP, resK, endV, yieldE, ↓reduceIte, Nat.reduceEqDiff, reduceCtorEq, Nat.reduceAdd, Nat.reduceMul, Nat.reduceSub, Int.reduceLT, Int.reduceLE, Int.reduceToNat, Int.reduceAdd, Int.reduceSub, Int.reduceMul, ne_eq, decide_true, decide_false, tf15, he0]
  refine rrbyte_ok hR1 (okk 0 (by omega)) FOk.none (fun w2 hR2 k2 => ?_)
  rw [tk 0 1 (by omega)] at hR2 ⊢
  simp only [Nat.zero_add] at hR2
  try simp -dsimp only [↓RE, ↓c_seq, RU, RL, if_true, if_false, forall_const, implies_true, Nat.reduceLeDiff, Nat.reduceLT, pureOp, binPure, intBin, strBin, eqPure, isConstO, unPure, sliceLo, sliceHi, slicePure, lenPure, minPure, maxPure, buildP, resK, endV, yieldE, ↓reduceIte, Nat.reduceEqDiff, reduceCtorEq, Nat.reduceAdd, Nat.reduceMul, Nat.reduceSub, Int.reduceLT, Int.reduceLE, Int.reduceToNat, Int.reduceAdd, Int.reduceSub, Int.reduceMul, ne_eq, decide_true, decide_false, tf15, he0]
  refine rrfix32_ok hR2 (okk 1 (by omega)) FOk.none (fun w3 hR3 k3 => ?_)
  rw [tk 1 4 (by omega)] at hR3 ⊢
  have b1 := b4 1
  have hw1 : IntKind.i64.wrap (beNat ((xs.drop 1).take 4)) = (oN xs : Nat) := by rw [wrap_i64_in (by omega) (by omega)]; unfold oN; omega
  try simp -dsimp only [↓RE, ↓c_seq, RU, RL, if_true, if_false, forall_const, implies_true, Nat.reduceLeDiff, Nat.reduceLT, pureOp, binPure, intBin, strBin, eqPure, isConstO, unPure, sliceLo, sliceHi, slicePure, lenPure, minPure, maxPure, buildP, resK, endV, yieldE, ↓reduceIte, Nat.reduceEqDiff, reduceCtorEq, Nat.reduceAdd, Nat.reduceMul, Nat.reduceSub, Int.reduceLT, Int.reduceLE, Int.reduceToNat, Int.reduceAdd, Int.reduceSub, Int.reduceMul, ne_eq, decide_true, decide_false, tf15, he0, hw1]
  refine rrfix32_ok hR3 (okk 5 (by omega)) FOk.none (fun w4 hR4 k4 => ?_)
  rw [tk 5 4 (by omega)] at hR4 ⊢
  have b5 := b4 5
  have hw5 : shlOp .u64 (IntKind.u64.wrap (beNat ((xs.drop 5).take 4))) 32 = beNat ((xs.drop 5).take 4) * 4294967296 := by
    have := shl_eq .u64 (IntKind.u64.wrap (beNat ((xs.drop 5).take 4))) 32 (by decide) _ rfl
    rw [show ((32 : Nat) : Int) = 32 from rfl] at this
    rw [this, wrap_u64, wrap_u64]; omega
  try simp -dsimp only [↓RE, ↓c_seq, RU, RL, if_true, if_false, forall_const, implies_true, Nat.reduceLeDiff, Nat.reduceLT, pureOp, binPure, intBin, strBin, eqPure, isConstO, unPure, sliceLo, sliceHi, slicePure, lenPure, minPure, maxPure, buildP, resK, endV, yieldE, ↓reduceIte, Nat.reduceEqDiff, reduceCtorEq, Nat.reduceAdd, Nat.reduceMul, Nat.reduceSub, Int.reduceLT, Int.reduceLE, Int.reduceToNat, Int.reduceAdd, Int.reduceSub, Int.reduceMul, ne_eq, decide_true, decide_false, tf15, he0, hw5]
  refine rrfix32_ok hR4 (okk 9 (by omega)) FOk.none (fun w5 hR5 k5 => ?_)
  rw [tk 9 4 (by omega)] at hR5 ⊢
  have b9 := b4 9
  have hw9 : IntKind.u64.wrap (beNat ((xs.drop 5).take 4) * 4294967296 + IntKind.u64.wrap (beNat ((xs.drop 9).take 4))) = oNum xs := by
    rw [wrap_u64, wrap_u64]; unfold oNum; omega
  generalize oN xs = N at herr h hw1
  generalize oNum xs = Num at h hw9
  have kall : Keep (fun k => k = p) w1 w5 := ((k2.trans k3 (H := fun k => k = p) (fun _ _ h => h) (fun _ _ h => h)).trans k4 (H := fun k => k = p) (fun _ _ h => h) (fun _ _ h => h)).trans k5 (H := fun k => k = p) (fun _ _ h => h) (fun _ _ h => h)
  have g5 : Grow w w5 := (g0.trans g1).above kall (fun i hi e => by have := g0.size; omega)
  have hz5 := (hz0.grow g1).keep kall hpz
  -- each way to an error
  have fail : ∀ {w' : World} {c : Int} {K : WK} {tk : Tok K}, Grow w w' → Blk w' w.heap.size 31 [.int .i64 0, .int .i64 0, .int .i64 0, .bool false, .bool false] →
      (∀ w2, Blk w2 w.heap.size 31 (BadV.cells ⟨c, 0, 0, false, false⟩) → Grow w w2 → K w2) → aggSt Tryd.prog w' ⟨w.heap.size, 0, none⟩ [.int .i64 c, .int .i64 0, .int .i64 0, .bool false, .bool false] K tk := by
    intro w' c K tk g hB hk
    refine hB.stAgg (by simp) (by simp [Value.oneCell']) (fun w2 hB2 hK2 => hk w2 (by simpa [BadV.cells] using hB2) (g.above hK2 (fun i hi e => by omega)))
  try simp -dsimp only [↓RE, ↓c_seq, RU, RL, if_true, if_false, forall_const, implies_true, Nat.reduceLeDiff, Nat.reduceLT, pureOp, binPure, intBin, strBin, eqPure, isConstO, unPure, sliceLo, sliceHi, slicePure, lenPure, minPure, maxPure, buildP, resK, endV, yieldE, ↓reduceIte, Nat.reduceEqDiff, reduceCtorEq, Nat.reduceAdd, Nat.reduceMul, Nat.reduceSub, Int.reduceLT, Int.reduceLE, Int.reduceToNat, Int.reduceAdd, Int.reduceSub, Int.reduceMul, ne_eq, decide_true, decide_false, tf15, he0, hw9]
  have hp0 : w.heap.size ≤ p := by have := g0.size; omega
  refine wpDraw_by (fun _ => True) [(0, true), (2, true), (3, true), (1, false), (4, false), (5, true), (6, true)] (by kernel_rfl) trivial ?_
  simp only [planL, List.getElem?_toArray, List.getElem?_cons_zero, List.getElem?_cons_succ, Option.toList_some, List.map_cons, List.map_nil, List.cons_append, List.nil_append]
  try simp -dsimp only [↓RE, ↓c_seq, RU, RL, if_true, if_false, forall_const, implies_true, Nat.reduceLeDiff, Nat.reduceLT, pureOp, binPure, intBin, strBin, eqPure, isConstO, unPure, sliceLo, sliceHi, slicePure, lenPure, minPure, maxPure, buildP, resK, endV, yieldE, ↓reduceIte, Nat.reduceEqDiff, reduceCtorEq, Nat.reduceAdd, Nat.reduceMul, Nat.reduceSub, Int.reduceLT, Int.reduceLE, Int.reduceToNat, Int.reduceAdd, Int.reduceSub, Int.reduceMul, ne_eq, decide_true, decide_false, tf15, he0]
  refine ⟨by omega, ?_⟩
  try simp -dsimp only [↓RE, ↓c_seq, RU, RL, if_true, if_false, forall_const, implies_true, Nat.reduceLeDiff, Nat.reduceLT, pureOp, binPure, intBin, strBin, eqPure, isConstO, unPure, sliceLo, sliceHi, slicePure, lenPure, minPure, maxPure, buildP, resK, endV, yieldE, ↓reduceIte, Nat.reduceEqDiff, reduceCtorEq, Nat.reduceAdd, Nat.reduceMul, Nat.reduceSub, Int.reduceLT, Int.reduceLE, Int.reduceToNat, Int.reduceAdd, Int.reduceSub, Int.reduceMul, ne_eq, decide_true, decide_false, tf15, he0]
  refine rrfix32_ok (hR5.grow (Grow.drew w5)) (okk 13 (by omega)) FOk.none (fun w6 hR6 k6 => ?_)
  rw [tk 13 4 (by omega)] at hR6 ⊢
  have g6 : Grow w w6 := (g5.trans (Grow.drew w5)).above k6 (fun i hi e => by omega)
  have hz6 := hz5.drew.keep k6 hpz
  try simp -dsimp only [↓RE, ↓c_seq, RU, RL, if_true, if_false, forall_const, implies_true, Nat.reduceLeDiff, Nat.reduceLT, pureOp, binPure, intBin, strBin, eqPure, isConstO, unPure, sliceLo, sliceHi, slicePure, lenPure, minPure, maxPure, buildP, resK, endV, yieldE, ↓reduceIte, Nat.reduceEqDiff, reduceCtorEq, Nat.reduceAdd, Nat.reduceMul, Nat.reduceSub, Int.reduceLT, Int.reduceLE, Int.reduceToNat, Int.reduceAdd, Int.reduceSub, Int.reduceMul, ne_eq, decide_true, decide_false, tf15, he0]
  try simp -dsimp only [↓RE, ↓c_seq, RU, RL, if_true, if_false, forall_const, implies_true, Nat.reduceLeDiff, Nat.reduceLT, pureOp, binPure, intBin, strBin, eqPure, isConstO, unPure, sliceLo, sliceHi, slicePure, lenPure, minPure, maxPure, buildP, resK, endV, yieldE, ↓reduceIte, Nat.reduceEqDiff, reduceCtorEq, Nat.reduceAdd, Nat.reduceMul, Nat.reduceSub, Int.reduceLT, Int.reduceLE, Int.reduceToNat, Int.reduceAdd, Int.reduceSub, Int.reduceMul, ne_eq, decide_true, decide_false, tf15, he0]
  refine refcrc_ok (hcut 13 (by omega) g6) (hcb 13) (by omega) ?_
  try simp -dsimp only [↓RE, ↓c_seq, RU, RL, if_true, if_false, forall_const, implies_true, Nat.reduceLeDiff, Nat.reduceLT, pureOp, binPure, intBin, strBin, eqPure, isConstO, unPure, sliceLo, sliceHi, slicePure, lenPure, minPure, maxPure, buildP, resK, endV, yieldE, ↓reduceIte, Nat.reduceEqDiff, reduceCtorEq, Nat.reduceAdd, Nat.reduceMul, Nat.reduceSub, Int.reduceLT, Int.reduceLE, Int.reduceToNat, Int.reduceAdd, Int.reduceSub, Int.reduceMul, ne_eq, decide_true, decide_false, tf15, he0]
  try simp -dsimp only [↓RE, ↓c_seq, RU, RL, if_true, if_false, forall_const, implies_true, Nat.reduceLeDiff, Nat.reduceLT, pureOp, binPure, intBin, strBin, eqPure, isConstO, unPure, sliceLo, sliceHi, slicePure, lenPure, minPure, maxPure, buildP, resK, endV, yieldE, ↓reduceIte, Nat.reduceEqDiff, reduceCtorEq, Nat.reduceAdd, Nat.reduceMul, Nat.reduceSub, Int.reduceLT, Int.reduceLE, Int.reduceToNat, Int.reduceAdd, Int.reduceSub, Int.reduceMul, ne_eq, decide_true, decide_false, tf15, he0]
  refine ⟨fun hne => ?_, fun heq => ?_⟩
  · try simp -dsimp only [↓RE, ↓c_seq, RU, RL, if_true, if_false, forall_const, implies_true, Nat.reduceLeDiff, Nat.reduceLT, pureOp, binPure, intBin, strBin, eqPure, isConstO, unPure, sliceLo, sliceHi, slicePure, lenPure, minPure, maxPure, buildP, resK, endV, yieldE, ↓reduceIte, Nat.reduceEqDiff, reduceCtorEq, Nat.reduceAdd, Nat.reduceMul, Nat.reduceSub, Int.reduceLT, Int.reduceLE, Int.reduceToNat, Int.reduceAdd, Int.reduceSub, Int.reduceMul, ne_eq, decide_true, decide_false, tf15, he0]
    refine rnew_ok (fun w8 g8 => ?_)
    try simp -dsimp only [↓RE, ↓c_seq, RU, RL, if_true, if_false, forall_const, implies_true, Nat.reduceLeDiff, Nat.reduceLT, pureOp, binPure, intBin, strBin, eqPure, isConstO, unPure, sliceLo, sliceHi, slicePure, lenPure, minPure, maxPure, buildP, resK, endV, yieldE, ↓reduceIte, Nat.reduceEqDiff, reduceCtorEq, Nat.reduceAdd, Nat.reduceMul, Nat.reduceSub, Int.reduceLT, Int.reduceLE, Int.reduceToNat, Int.reduceAdd, Int.reduceSub, Int.reduceMul, ne_eq, decide_true, decide_false, tf15, he0, BadV.v, BadV.cells]
    refine fail (g6.trans g8) (hz6.grow g8) (fun w9 hB9 g9 => ?_)
    try simp -dsimp only [↓RE, ↓c_seq, RU, RL, if_true, if_false, forall_const, implies_true, Nat.reduceLeDiff, Nat.reduceLT, pureOp, binPure, intBin, strBin, eqPure, isConstO, unPure, sliceLo, sliceHi, slicePure, lenPure, minPure, maxPure, buildP, resK, endV, yieldE, ↓reduceIte, Nat.reduceEqDiff, reduceCtorEq, Nat.reduceAdd, Nat.reduceMul, Nat.reduceSub, Int.reduceLT, Int.reduceLE, Int.reduceToNat, Int.reduceAdd, Int.reduceSub, Int.reduceMul, ne_eq, decide_true, decide_false, tf15, he0]
    refine hB9.aggK (by simp [BadV.cells]) ?_
    try simp -dsimp only [↓RE, ↓c_seq, RU, RL, if_true, if_false, forall_const, implies_true, Nat.reduceLeDiff, Nat.reduceLT, pureOp, binPure, intBin, strBin, eqPure, isConstO, unPure, sliceLo, sliceHi, slicePure, lenPure, minPure, maxPure, buildP, resK, endV, yieldE, ↓reduceIte, Nat.reduceEqDiff, reduceCtorEq, Nat.reduceAdd, Nat.reduceMul, Nat.reduceSub, Int.reduceLT, Int.reduceLE, Int.reduceToNat, Int.reduceAdd, Int.reduceSub, Int.reduceMul, ne_eq, decide_true, decide_false, tf15, he0]
    exact herr 32 w9 (by rw [if_pos hne]) (by decide) g9
  rw [if_neg (by omega)] at herr h
  try simp -dsimp only [↓RE, ↓c_seq, RU, RL, if_true, if_false, forall_const, implies_true, Nat.reduceLeDiff, Nat.reduceLT, pureOp, binPure, intBin, strBin, eqPure, isConstO, unPure, sliceLo, sliceHi, slicePure, lenPure, minPure, maxPure, buildP, resK, endV, yieldE, ↓reduceIte, Nat.reduceEqDiff, reduceCtorEq, Nat.reduceAdd, Nat.reduceMul, Nat.reduceSub, Int.reduceLT, Int.reduceLE, Int.reduceToNat, Int.reduceAdd, Int.reduceSub, Int.reduceMul, ne_eq, decide_true, decide_false, tf15, he0, hw1, hw9]
  refine ⟨fun hgt => ?_, fun hle => ?_⟩
  · try simp -dsimp only [↓RE, ↓c_seq, RU, RL, if_true, if_false, forall_const, implies_true, Nat.reduceLeDiff, Nat.reduceLT, pureOp, binPure, intBin, strBin, eqPure, isConstO, unPure, sliceLo, sliceHi, slicePure, lenPure, minPure, maxPure, buildP, resK, endV, yieldE, ↓reduceIte, Nat.reduceEqDiff, reduceCtorEq, Nat.reduceAdd, Nat.reduceMul, Nat.reduceSub, Int.reduceLT, Int.reduceLE, Int.reduceToNat, Int.reduceAdd, Int.reduceSub, Int.reduceMul, ne_eq, decide_true, decide_false, tf15, he0]
    refine rnew_ok (fun w8 g8 => ?_)
    try simp -dsimp only [↓RE, ↓c_seq, RU, RL, if_true, if_false, forall_const, implies_true, Nat.reduceLeDiff, Nat.reduceLT, pureOp, binPure, intBin, strBin, eqPure, isConstO, unPure, sliceLo, sliceHi, slicePure, lenPure, minPure, maxPure, buildP, resK, endV, yieldE, ↓reduceIte, Nat.reduceEqDiff, reduceCtorEq, Nat.reduceAdd, Nat.reduceMul, Nat.reduceSub, Int.reduceLT, Int.reduceLE, Int.reduceToNat, Int.reduceAdd, Int.reduceSub, Int.reduceMul, ne_eq, decide_true, decide_false, tf15, he0, BadV.v, BadV.cells]
    refine fail (g6.trans g8) (hz6.grow g8) (fun w9 hB9 g9 => ?_)
    try simp -dsimp only [↓RE, ↓c_seq, RU, RL, if_true, if_false, forall_const, implies_true, Nat.reduceLeDiff, Nat.reduceLT, pureOp, binPure, intBin, strBin, eqPure, isConstO, unPure, sliceLo, sliceHi, slicePure, lenPure, minPure, maxPure, buildP, resK, endV, yieldE, ↓reduceIte, Nat.reduceEqDiff, reduceCtorEq, Nat.reduceAdd, Nat.reduceMul, Nat.reduceSub, Int.reduceLT, Int.reduceLE, Int.reduceToNat, Int.reduceAdd, Int.reduceSub, Int.reduceMul, ne_eq, decide_true, decide_false, tf15, he0]
    refine hB9.aggK (by simp [BadV.cells]) ?_
    try simp -dsimp only [↓RE, ↓c_seq, RU, RL, if_true, if_false, forall_const, implies_true, Nat.reduceLeDiff, Nat.reduceLT, pureOp, binPure, intBin, strBin, eqPure, isConstO, unPure, sliceLo, sliceHi, slicePure, lenPure, minPure, maxPure, buildP, resK, endV, yieldE, ↓reduceIte, Nat.reduceEqDiff, reduceCtorEq, Nat.reduceAdd, Nat.reduceMul, Nat.reduceSub, Int.reduceLT, Int.reduceLE, Int.reduceToNat, Int.reduceAdd, Int.reduceSub, Int.reduceMul, ne_eq, decide_true, decide_false, tf15, he0]
    exact herr 6 w9 (by rw [if_pos (by omega)]) (by decide) g9
  have hN : N ≤ 67108864 := by omega
  rw [if_neg (by omega)] at herr h
  have hw21 : IntKind.i64.wrap ((n : Int) - 21) = (n : Int) - 21 := by rw [wrap_i64_in (by omega) (by omega)]
  try simp -dsimp only [↓RE, ↓c_seq, RU, RL, if_true, if_false, forall_const, implies_true, Nat.reduceLeDiff, Nat.reduceLT, pureOp, binPure, intBin, strBin, eqPure, isConstO, unPure, sliceLo, sliceHi, slicePure, lenPure, minPure, maxPure, buildP, resK, endV, yieldE, ↓reduceIte, Nat.reduceEqDiff, reduceCtorEq, Nat.reduceAdd, Nat.reduceMul, Nat.reduceSub, Int.reduceLT, Int.reduceLE, Int.reduceToNat, Int.reduceAdd, Int.reduceSub, Int.reduceMul, ne_eq, decide_true, decide_false, tf15, he0, hw21, hw1, hw9]
  refine ⟨fun hlt => ?_, fun hge2 => ?_⟩
  · try simp -dsimp only [↓RE, ↓c_seq, RU, RL, if_true, if_false, forall_const, implies_true, Nat.reduceLeDiff, Nat.reduceLT, pureOp, binPure, intBin, strBin, eqPure, isConstO, unPure, sliceLo, sliceHi, slicePure, lenPure, minPure, maxPure, buildP, resK, endV, yieldE, ↓reduceIte, Nat.reduceEqDiff, reduceCtorEq, Nat.reduceAdd, Nat.reduceMul, Nat.reduceSub, Int.reduceLT, Int.reduceLE, Int.reduceToNat, Int.reduceAdd, Int.reduceSub, Int.reduceMul, ne_eq, decide_true, decide_false, tf15, he0]
    refine rnew_ok (fun w8 g8 => ?_)
    try simp -dsimp only [↓RE, ↓c_seq, RU, RL, if_true, if_false, forall_const, implies_true, Nat.reduceLeDiff, Nat.reduceLT, pureOp, binPure, intBin, strBin, eqPure, isConstO, unPure, sliceLo, sliceHi, slicePure, lenPure, minPure, maxPure, buildP, resK, endV, yieldE, ↓reduceIte, Nat.reduceEqDiff, reduceCtorEq, Nat.reduceAdd, Nat.reduceMul, Nat.reduceSub, Int.reduceLT, Int.reduceLE, Int.reduceToNat, Int.reduceAdd, Int.reduceSub, Int.reduceMul, ne_eq, decide_true, decide_false, tf15, he0, BadV.v, BadV.cells]
    refine fail (g6.trans g8) (hz6.grow g8) (fun w9 hB9 g9 => ?_)
    try simp -dsimp only [↓RE, ↓c_seq, RU, RL, if_true, if_false, forall_const, implies_true, Nat.reduceLeDiff, Nat.reduceLT, pureOp, binPure, intBin, strBin, eqPure, isConstO, unPure, sliceLo, sliceHi, slicePure, lenPure, minPure, maxPure, buildP, resK, endV, yieldE, ↓reduceIte, Nat.reduceEqDiff, reduceCtorEq, Nat.reduceAdd, Nat.reduceMul, Nat.reduceSub, Int.reduceLT, Int.reduceLE, Int.reduceToNat, Int.reduceAdd, Int.reduceSub, Int.reduceMul, ne_eq, decide_true, decide_false, tf15, he0]
    refine hB9.aggK (by simp [BadV.cells]) ?_
    try simp -dsimp only [↓RE, ↓c_seq, RU, RL, if_true, if_false, forall_const, implies_true, Nat.reduceLeDiff, Nat.reduceLT, pureOp, binPure, intBin, strBin, eqPure, isConstO, unPure, sliceLo, sliceHi, slicePure, lenPure, minPure, maxPure, buildP, resK, endV, yieldE, ↓reduceIte, Nat.reduceEqDiff, reduceCtorEq, Nat.reduceAdd, Nat.reduceMul, Nat.reduceSub, Int.reduceLT, Int.reduceLE, Int.reduceToNat, Int.reduceAdd, Int.reduceSub, Int.reduceMul, ne_eq, decide_true, decide_false, tf15, he0]
    exact herr 30 w9 (by rw [if_pos (by omega)]) (by decide) g9
  have h21 : 21 + N ≤ n := by omega
  rw [if_neg (by omega)] at herr h
  have hw17 : IntKind.i64.wrap (17 + ((N : Nat) : Int)) = ((17 + N : Nat) : Int) := by rw [wrap_i64_in (by omega) (by omega)]; omega
  try simp -dsimp only [↓RE, ↓c_seq, RU, RL, if_true, if_false, forall_const, implies_true, Nat.reduceLeDiff, Nat.reduceLT, pureOp, binPure, intBin, strBin, eqPure, isConstO, unPure, sliceLo, sliceHi, slicePure, lenPure, minPure, maxPure, buildP, resK, endV, yieldE, ↓reduceIte, Nat.reduceEqDiff, reduceCtorEq, Nat.reduceAdd, Nat.reduceMul, Nat.reduceSub, Int.reduceLT, Int.reduceLE, Int.reduceToNat, Int.reduceAdd, Int.reduceSub, Int.reduceMul, ne_eq, decide_true, decide_false, tf15, he0, hw17, hw1, hw9]
  refine ⟨by omega, ?_⟩
  try simp -dsimp only [↓RE, ↓c_seq, RU, RL, if_true, if_false, forall_const, implies_true, Nat.reduceLeDiff, Nat.reduceLT, pureOp, binPure, intBin, strBin, eqPure, isConstO, unPure, sliceLo, sliceHi, slicePure, lenPure, minPure, maxPure, buildP, resK, endV, yieldE, ↓reduceIte, Nat.reduceEqDiff, reduceCtorEq, Nat.reduceAdd, Nat.reduceMul, Nat.reduceSub, Int.reduceLT, Int.reduceLE, Int.reduceToNat, Int.reduceAdd, Int.reduceSub, Int.reduceMul, ne_eq, decide_true, decide_false, tf15, he0, hw17, hw1, hw9, Int.toNat_natCast]
  have hcutT := (hR.grow g6).cut (k := 17 + N) (m := n) (cap := c) (by omega) (Nat.le_refl n) hc
  have hdT : ((xs.map (Value.int .u8)).drop ((17 + N) * 1)).take ((n - (17 + N)) * 1) = (xs.drop (17 + N)).map (Value.int .u8) := by
    rw [Nat.mul_one, Nat.mul_one, ← List.map_drop, List.take_of_length_le (by simp; omega)]
  rw [hdT] at hcutT
  simp only [Nat.mul_one] at hcutT
  refine rnewReader_ok hcutT (by omega) (fun w7 G q hR7 g7 hG => ?_)
  have hq0 : w.heap.size ≤ q := by have := hG q hR7.place; have := g6.size; omega
  have hqz : ¬ w.heap.size = q := fun e => by have := hG q hR7.place; have := hz6.lt; omega
  have hz7 := hz6.grow g7
  try simp -dsimp only [↓RE, ↓c_seq, RU, RL, if_true, if_false, forall_const, implies_true, Nat.reduceLeDiff, Nat.reduceLT, pureOp, binPure, intBin, strBin, eqPure, isConstO, unPure, sliceLo, sliceHi, slicePure, lenPure, minPure, maxPure, buildP, resK, endV, yieldE, ↓reduceIte, Nat.reduceEqDiff, reduceCtorEq, Nat.reduceAdd, Nat.reduceMul, Nat.reduceSub, Int.reduceLT, Int.reduceLE, Int.reduceToNat, Int.reduceAdd, Int.reduceSub, Int.reduceMul, ne_eq, decide_true, decide_false, tf15, he0, hw17, hw1, hw9]
  refine wpDraw_by (fun _ => True) [(0, true), (2, true), (3, true), (4, true), (5, true), (1, false), (6, false), (7, true)] (by kernel_rfl) trivial ?_
  simp only [planL, List.getElem?_toArray, List.getElem?_cons_zero, List.getElem?_cons_succ, Option.toList_some, List.map_cons, List.map_nil, List.cons_append, List.nil_append]
  try simp -dsimp only [↓RE, ↓c_seq, RU, RL, if_true, if_false, forall_const, implies_true, Nat.reduceLeDiff, Nat.reduceLT, pureOp, binPure, intBin, strBin, eqPure, isConstO, unPure, sliceLo, sliceHi, slicePure, lenPure, minPure, maxPure, buildP, resK, endV, yieldE, ↓reduceIte, Nat.reduceEqDiff, reduceCtorEq, Nat.reduceAdd, Nat.reduceMul, Nat.reduceSub, Int.reduceLT, Int.reduceLE, Int.reduceToNat, Int.reduceAdd, Int.reduceSub, Int.reduceMul, ne_eq, decide_true, decide_false, tf15, he0, hw17, hw1, hw9]
  refine ⟨by omega, ?_⟩
  try simp -dsimp only [↓RE, ↓c_seq, RU, RL, if_true, if_false, forall_const, implies_true, Nat.reduceLeDiff, Nat.reduceLT, pureOp, binPure, intBin, strBin, eqPure, isConstO, unPure, sliceLo, sliceHi, slicePure, lenPure, minPure, maxPure, buildP, resK, endV, yieldE, ↓reduceIte, Nat.reduceEqDiff, reduceCtorEq, Nat.reduceAdd, Nat.reduceMul, Nat.reduceSub, Int.reduceLT, Int.reduceLE, Int.reduceToNat, Int.reduceAdd, Int.reduceSub, Int.reduceMul, ne_eq, decide_true, decide_false, tf15, he0, hw17, hw1, hw9, Int.toNat_natCast]
  refine rrfix32_ok (hR7.grow (Grow.drew w7)) ⟨by simp, by simp, by simp, by simp; omega, fun z hz => hx z (List.mem_of_mem_drop hz)⟩ FOk.none (fun w8 hR8 k8 => ?_)
  have hTk : rTake 4 ⟨xs.drop (17 + N), 0, 0, none⟩ = (⟨xs.drop (17 + N), 4, 0, none⟩, (xs.drop (17 + N)).take 4) := by
    rw [rTake_ok rfl rfl (by simp; omega)]; simp
  rw [hTk] at hR8
  simp -dsimp only [hTk]
  have g8 : Grow w w8 := ((g6.trans g7).trans (Grow.drew w7)).above k8 (fun i hi e => by omega)
  have hz8 := hz7.drew.keep k8 hqz
  try simp -dsimp only [↓RE, ↓c_seq, RU, RL, if_true, if_false, forall_const, implies_true, Nat.reduceLeDiff, Nat.reduceLT, pureOp, binPure, intBin, strBin, eqPure, isConstO, unPure, sliceLo, sliceHi, slicePure, lenPure, minPure, maxPure, buildP, resK, endV, yieldE, ↓reduceIte, Nat.reduceEqDiff, reduceCtorEq, Nat.reduceAdd, Nat.reduceMul, Nat.reduceSub, Int.reduceLT, Int.reduceLE, Int.reduceToNat, Int.reduceAdd, Int.reduceSub, Int.reduceMul, ne_eq, decide_true, decide_false, tf15, he0]
  try simp -dsimp only [↓RE, ↓c_seq, RU, RL, if_true, if_false, forall_const, implies_true, Nat.reduceLeDiff, Nat.reduceLT, pureOp, binPure, intBin, strBin, eqPure, isConstO, unPure, sliceLo, sliceHi, slicePure, lenPure, minPure, maxPure, buildP, resK, endV, yieldE, ↓reduceIte, Nat.reduceEqDiff, reduceCtorEq, Nat.reduceAdd, Nat.reduceMul, Nat.reduceSub, Int.reduceLT, Int.reduceLE, Int.reduceToNat, Int.reduceAdd, Int.reduceSub, Int.reduceMul, ne_eq, decide_true, decide_false, tf15, he0]
  refine refcrc_ok (hcut (17 + N) (by omega) g8) (hcb _) (by omega) ?_
  try simp -dsimp only [↓RE, ↓c_seq, RU, RL, if_true, if_false, forall_const, implies_true, Nat.reduceLeDiff, Nat.reduceLT, pureOp, binPure, intBin, strBin, eqPure, isConstO, unPure, sliceLo, sliceHi, slicePure, lenPure, minPure, maxPure, buildP, resK, endV, yieldE, ↓reduceIte, Nat.reduceEqDiff, reduceCtorEq, Nat.reduceAdd, Nat.reduceMul, Nat.reduceSub, Int.reduceLT, Int.reduceLE, Int.reduceToNat, Int.reduceAdd, Int.reduceSub, Int.reduceMul, ne_eq, decide_true, decide_false, tf15, he0]
  try simp -dsimp only [↓RE, ↓c_seq, RU, RL, if_true, if_false, forall_const, implies_true, Nat.reduceLeDiff, Nat.reduceLT, pureOp, binPure, intBin, strBin, eqPure, isConstO, unPure, sliceLo, sliceHi, slicePure, lenPure, minPure, maxPure, buildP, resK, endV, yieldE, ↓reduceIte, Nat.reduceEqDiff, reduceCtorEq, Nat.reduceAdd, Nat.reduceMul, Nat.reduceSub, Int.reduceLT, Int.reduceLE, Int.reduceToNat, Int.reduceAdd, Int.reduceSub, Int.reduceMul, ne_eq, decide_true, decide_false, tf15, he0]
  refine ⟨fun hne => ?_, fun heq2 => ?_⟩
  · try simp -dsimp only [↓RE, ↓c_seq, RU, RL, if_true, if_false, forall_const, implies_true, Nat.reduceLeDiff, Nat.reduceLT, pureOp, binPure, intBin, strBin, eqPure, isConstO, unPure, sliceLo, sliceHi, slicePure, lenPure, minPure, maxPure, buildP, resK, endV, yieldE, ↓reduceIte, Nat.reduceEqDiff, reduceCtorEq, Nat.reduceAdd, Nat.reduceMul, Nat.reduceSub, Int.reduceLT, Int.reduceLE, Int.reduceToNat, Int.reduceAdd, Int.reduceSub, Int.reduceMul, ne_eq, decide_true, decide_false, tf15, he0]
    refine rnew_ok (fun wb gb => ?_)
    try simp -dsimp only [↓RE, ↓c_seq, RU, RL, if_true, if_false, forall_const, implies_true, Nat.reduceLeDiff, Nat.reduceLT, pureOp, binPure, intBin, strBin, eqPure, isConstO, unPure, sliceLo, sliceHi, slicePure, lenPure, minPure, maxPure, buildP, resK, endV, yieldE, ↓reduceIte, Nat.reduceEqDiff, reduceCtorEq, Nat.reduceAdd, Nat.reduceMul, Nat.reduceSub, Int.reduceLT, Int.reduceLE, Int.reduceToNat, Int.reduceAdd, Int.reduceSub, Int.reduceMul, ne_eq, decide_true, decide_false, tf15, he0, BadV.v, BadV.cells]
    refine fail (g8.trans gb) (hz8.grow gb) (fun w9 hB9 g9 => ?_)
    try simp -dsimp only [↓RE, ↓c_seq, RU, RL, if_true, if_false, forall_const, implies_true, Nat.reduceLeDiff, Nat.reduceLT, pureOp, binPure, intBin, strBin, eqPure, isConstO, unPure, sliceLo, sliceHi, slicePure, lenPure, minPure, maxPure, buildP, resK, endV, yieldE, ↓reduceIte, Nat.reduceEqDiff, reduceCtorEq, Nat.reduceAdd, Nat.reduceMul, Nat.reduceSub, Int.reduceLT, Int.reduceLE, Int.reduceToNat, Int.reduceAdd, Int.reduceSub, Int.reduceMul, ne_eq, decide_true, decide_false, tf15, he0]
    refine hB9.aggK (by simp [BadV.cells]) ?_
    try simp -dsimp only [↓RE, ↓c_seq, RU, RL, if_true, if_false, forall_const, implies_true, Nat.reduceLeDiff, Nat.reduceLT, pureOp, binPure, intBin, strBin, eqPure, isConstO, unPure, sliceLo, sliceHi, slicePure, lenPure, minPure, maxPure, buildP, resK, endV, yieldE, ↓reduceIte, Nat.reduceEqDiff, reduceCtorEq, Nat.reduceAdd, Nat.reduceMul, Nat.reduceSub, Int.reduceLT, Int.reduceLE, Int.reduceToNat, Int.reduceAdd, Int.reduceSub, Int.reduceMul, ne_eq, decide_true, decide_false, tf15, he0]
    exact herr 32 w9 (by rw [if_pos hne]) (by decide) g9
  rw [if_neg (by omega)] at herr h
  have hw21' : IntKind.i64.wrap (21 + ((N : Nat) : Int)) = ((21 + N : Nat) : Int) := by rw [wrap_i64_in (by omega) (by omega)]; omega
  try simp -dsimp only [↓RE, ↓c_seq, RU, RL, if_true, if_false, forall_const, implies_true, Nat.reduceLeDiff, Nat.reduceLT, pureOp, binPure, intBin, strBin, eqPure, isConstO, unPure, sliceLo, sliceHi, slicePure, lenPure, minPure, maxPure, buildP, resK, endV, yieldE, ↓reduceIte, Nat.reduceEqDiff, reduceCtorEq, Nat.reduceAdd, Nat.reduceMul, Nat.reduceSub, Int.reduceLT, Int.reduceLE, Int.reduceToNat, Int.reduceAdd, Int.reduceSub, Int.reduceMul, ne_eq, decide_true, decide_false, tf15, he0, hw17, hw1, hw9, hw21', Int.toNat_natCast]
  have e17 : 17 + N - 17 = N := by omega
  refine ⟨by omega, ?_⟩
  try simp -dsimp only [↓RE, ↓c_seq, RU, RL, if_true, if_false, forall_const, implies_true, Nat.reduceLeDiff, Nat.reduceLT, pureOp, binPure, intBin, strBin, eqPure, isConstO, unPure, sliceLo, sliceHi, slicePure, lenPure, minPure, maxPure, buildP, resK, endV, yieldE, ↓reduceIte, Nat.reduceEqDiff, reduceCtorEq, Nat.reduceAdd, Nat.reduceMul, Nat.reduceSub, Int.reduceLT, Int.reduceLE, Int.reduceToNat, Int.reduceAdd, Int.reduceSub, Int.reduceMul, ne_eq, decide_true, decide_false, tf15, he0, hw17, hw1, hw9, hw21', Int.toNat_natCast, e17]
  have hcutP := (hR.grow g8).cut (k := 17) (m := 17 + N) (cap := c) (by omega) (by omega) hc
  have hdP : ((xs.map (Value.int .u8)).drop (17 * 1)).take ((17 + N - 17) * 1) = ((xs.drop 17).take (N)).map (Value.int .u8) := by
    rw [Nat.mul_one, Nat.mul_one, ← List.map_drop, ← List.map_take, show 17 + N - 17 = N by omega]
  rw [hdP] at hcutP
  simp only [Nat.mul_one, e17] at hcutP
  refine appK_own (bytes := 1) (by kernel_rfl) (own_nil w8 5 1) hcutP (ints_one _ _) (by simp only [maxLen]; omega) (by omega) (fun A' c' wa hOa hKa hFa => ?_)
  have hOa : wa.ownsRow 0 5 1 (.slice A' N c') N (((xs.drop 17).take N).map (Value.int .u8)) := by simpa using hOa
  have ka : Grow w8 wa := hKa.mono (fun i _ hf => absurd hf (fpV_none i))
  have hFa : ∀ k, fpA A' k → k = w8.heap.size := fun k hk => (hFa k (by rw [Nat.zero_add, fpV_fpA]; exact hk)).elim (fun h => absurd h (fpV_none k)) id
  try simp -dsimp only [↓RE, ↓c_seq, RU, RL, if_true, if_false, forall_const, implies_true, Nat.reduceLeDiff, Nat.reduceLT, pureOp, binPure, intBin, strBin, eqPure, isConstO, unPure, sliceLo, sliceHi, slicePure, lenPure, minPure, maxPure, buildP, resK, endV, yieldE, ↓reduceIte, Nat.reduceEqDiff, reduceCtorEq, Nat.reduceAdd, Nat.reduceMul, Nat.reduceSub, Int.reduceLT, Int.reduceLE, Int.reduceToNat, Int.reduceAdd, Int.reduceSub, Int.reduceMul, ne_eq, decide_true, decide_false, tf15, he0, hw17, hw1, hw9, hw21', Int.toNat_natCast]
  refine (hz8.grow ka).stAgg (by simp) (by simp [Value.oneCell']) (fun wb hBb hKb => ?_)
  have hBb : Blk wb w.heap.size 31 BadV.none.cells := by simpa [BadV.cells, BadV.none] using hBb
  have hOb := own_keep hOa hKb (fun k hk e => by rw [fpV_fpA] at hk; have := hFa k hk; have := hz8.lt; omega)
  try simp -dsimp only [↓RE, ↓c_seq, RU, RL, if_true, if_false, forall_const, implies_true, Nat.reduceLeDiff, Nat.reduceLT, pureOp, binPure, intBin, strBin, eqPure, isConstO, unPure, sliceLo, sliceHi, slicePure, lenPure, minPure, maxPure, buildP, resK, endV, yieldE, ↓reduceIte, Nat.reduceEqDiff, reduceCtorEq, Nat.reduceAdd, Nat.reduceMul, Nat.reduceSub, Int.reduceLT, Int.reduceLE, Int.reduceToNat, Int.reduceAdd, Int.reduceSub, Int.reduceMul, ne_eq, decide_true, decide_false, tf15, he0]
  refine hBb.aggK (by simp [BadV.cells]) ?_
  have h0 : (List.take 1 (List.drop 0 xs)).getD 0 0 = xs.getD 0 0 := by rw [List.drop_zero, List.getD_eq_getElem?_getD, List.getElem?_take_of_lt (by omega), ← List.getD_eq_getElem?_getD]
  try simp -dsimp only [↓RE, ↓c_seq, RU, RL, if_true, if_false, forall_const, implies_true, Nat.reduceLeDiff, Nat.reduceLT, pureOp, binPure, intBin, strBin, eqPure, isConstO, unPure, sliceLo, sliceHi, slicePure, lenPure, minPure, maxPure, buildP, resK, endV, yieldE, ↓reduceIte, Nat.reduceEqDiff, reduceCtorEq, Nat.reduceAdd, Nat.reduceMul, Nat.reduceSub, Int.reduceLT, Int.reduceLE, Int.reduceToNat, Int.reduceAdd, Int.reduceSub, Int.reduceMul, ne_eq, decide_true, decide_false, tf15, he0, hw17, hw1, hw9, hw21', h0]
  exact h rfl wb A' c' (Rd.of_own hOb) ((g8.trans ka).above hKb (fun i hi e => by omega))

end Go.Proofs.YtcjlhfmjcioeeaaDoor
