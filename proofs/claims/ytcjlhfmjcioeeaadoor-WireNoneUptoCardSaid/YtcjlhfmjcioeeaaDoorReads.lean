
/- The law WireReads, walked. -/
import Derived.Test.YtcjlhfmjcioeeaaDoorRR4
import Derived.Test.YtcjlhfmjcioeeaaDoorRopen
import Derived.Test.YtcjlhfmjcioeeaaDoorLive
import Derived.Test.YtcjlhfmjcioeeaaDoorOps
import Derived.Test.YtcjlhfmjcioeeaaDoorOpenOp
set_option linter.unusedVariables false
set_option linter.unusedSimpArgs false
set_option maxRecDepth 100000
namespace Go.Proofs.YtcjlhfmjcioeeaaDoor
open Go

theorem catR_ok {w : World} {p : Nat} {k : Nat} (hc1 : w.cell? ⟨p, 1, none⟩ = some (.int .i64 k)) {R : VWK} (h : R (.int .i64 k) w) : CallsV Tryd.prog 63 [.pointer (some ⟨p, 0, none⟩)] w R := by
  refine calls_of_wpC mixed Tryd.func63 rfl (by kernel_rfl) ?_
  intro e he
  have he0 := he 0
  simp only [List.getD_cons_zero, List.getD_cons_succ] at he0
  clear he
  try simp -dsimp only [↓RE, ↓c_seq, RU, RL, if_true, if_false, forall_const, implies_true, Nat.reduceLeDiff, Nat.reduceLT, pureOp, binPure, intBin, strBin, eqPure, isConstO, unPure, sliceLo, sliceHi, slicePure, lenPure, minPure, maxPure, buildP, resK, endV, yieldE, ↓reduceIte, Nat.reduceEqDiff, reduceCtorEq, Nat.reduceAdd, Nat.reduceMul, Nat.reduceSub, Int.reduceLT, Int.reduceLE, Int.reduceToNat, Int.reduceAdd, Int.reduceSub, Int.reduceMul, ne_eq, decide_true, decide_false, tf63, he0, hc1]
  exact h
theorem atR_ok {w : World} {F : Nat → Prop} {p : Nat} {s : RS} (hR : RAt w F p s) {R : VWK} (h : R (.int .i64 s.pos) w) : CallsV Tryd.prog 19 [.pointer (some ⟨p, 0, none⟩)] w R := by
  obtain ⟨A, c, hB, hRd, hp, hc, hF⟩ := hR
  have hc1 : w.cell? ⟨p, 1, none⟩ = some (.int .i64 s.pos) := hB.cell 1
  refine calls_of_wpC mixed Tryd.func19 rfl (by kernel_rfl) ?_
  intro e he
  have he0 := he 0
  simp only [List.getD_cons_zero, List.getD_cons_succ] at he0
  clear he
  try simp -dsimp only [↓RE, ↓c_seq, RU, RL, if_true, if_false, forall_const, implies_true, Nat.reduceLeDiff, Nat.reduceLT, pureOp, binPure, intBin, strBin, eqPure, isConstO, unPure, sliceLo, sliceHi, slicePure, lenPure, minPure, maxPure, buildP, resK, endV, yieldE, ↓reduceIte, Nat.reduceEqDiff, reduceCtorEq, Nat.reduceAdd, Nat.reduceMul, Nat.reduceSub, Int.reduceLT, Int.reduceLE, Int.reduceToNat, Int.reduceAdd, Int.reduceSub, Int.reduceMul, ne_eq, decide_true, decide_false, tf19, he0]
  refine catR_ok hc1 ?_
  try simp -dsimp only [↓RE, ↓c_seq, RU, RL, if_true, if_false, forall_const, implies_true, Nat.reduceLeDiff, Nat.reduceLT, pureOp, binPure, intBin, strBin, eqPure, isConstO, unPure, sliceLo, sliceHi, slicePure, lenPure, minPure, maxPure, buildP, resK, endV, yieldE, ↓reduceIte, Nat.reduceEqDiff, reduceCtorEq, Nat.reduceAdd, Nat.reduceMul, Nat.reduceSub, Int.reduceLT, Int.reduceLE, Int.reduceToNat, Int.reduceAdd, Int.reduceSub, Int.reduceMul, ne_eq, decide_true, decide_false, tf19, he0]
  exact h
theorem fatI_ok {w : World} {pos c : Int} {R : VWK} (h : R (errV (if c = 0 then none else eAt pos c)) w) : CallsV Tryd.prog 60 [.int .i64 pos, .int .i64 c] w R := by
  refine calls_of_wpC mixed Tryd.func60 rfl (by kernel_rfl) ?_
  intro e he
  have he0 := he 0
  have he1 := he 1
  simp only [List.getD_cons_zero, List.getD_cons_succ] at he0 he1
  clear he
  by_cases hc : c = 0
  · rw [if_pos hc] at h
    try simp -dsimp only [↓RE, ↓c_seq, RU, RL, if_true, if_false, forall_const, implies_true, Nat.reduceLeDiff, Nat.reduceLT, pureOp, binPure, intBin, strBin, eqPure, isConstO, unPure, sliceLo, sliceHi, slicePure, lenPure, minPure, maxPure, buildP, resK, endV, yieldE, ↓reduceIte, Nat.reduceEqDiff, reduceCtorEq, Nat.reduceAdd, Nat.reduceMul, Nat.reduceSub, Int.reduceLT, Int.reduceLE, Int.reduceToNat, Int.reduceAdd, Int.reduceSub, Int.reduceMul, ne_eq, decide_true, decide_false, tf60, he0, he1, hc, eq_self]
    exact h
  · rw [if_neg hc] at h
    try simp -dsimp only [↓RE, ↓c_seq, RU, RL, if_true, if_false, forall_const, implies_true, Nat.reduceLeDiff, Nat.reduceLT, pureOp, binPure, intBin, strBin, eqPure, isConstO, unPure, sliceLo, sliceHi, slicePure, lenPure, minPure, maxPure, buildP, resK, endV, yieldE, ↓reduceIte, Nat.reduceEqDiff, reduceCtorEq, Nat.reduceAdd, Nat.reduceMul, Nat.reduceSub, Int.reduceLT, Int.reduceLE, Int.reduceToNat, Int.reduceAdd, Int.reduceSub, Int.reduceMul, ne_eq, decide_true, decide_false, tf60, he0, he1, hc]
    exact h
theorem rFail_nil (s : RS) : rFail s none = s := by
  unfold rFail; split
  · rename_i h; rw [← h]
  · rfl

/-- what a read that is asked for leaves of where a Reader stands. -/
def rd (o : OpV) (s : RS) : RS :=
  if o.k = 0 then (rTake 1 s).1
  else if o.k = 1 then (rTake 4 s).1
  else if o.k = 2 then (rNumber o.n 2 s).1
  else if o.k = 3 then (rNumber 18446744073709551615 2 s).1
  else if o.k = 4 then (rLoad o.b s).1
  else if o.k = 5 then (rLoad o.b s).1
  else if o.k = 6 then (rBits o.b s).1
  else if o.k = 7 then (if o.n % 400 = 0 then s else rFail s (eAt o.b (o.n % 400)))
  else s
theorem rTake_fok {n : Nat} {s : RS} (h : FOk s.fault) : FOk (rTake n s).1.fault := by
  unfold rTake; split
  · split
    · exact h.fail (FOk.err (by decide))
    · exact h
  · exact rBegin_fok h
theorem rNumber_fok {m a : Int} (ha : a ≠ 0) {s : RS} (h : FOk s.fault) : FOk (rNumber m a s).1.fault := by
  unfold rNumber; split
  · split
    · rename_i i e hsc; exact h.fail (FOk.err (scan_err hsc))
    · split
      · exact h.fail (FOk.err ha)
      · exact h
  · exact rBegin_fok h
theorem rLoad_fok {m : Int} {s : RS} (h : FOk s.fault) : FOk (rLoad m s).1.fault := by
  have h1 : FOk (rLoadS m s).fault := by
    unfold rLoadS rShort rLong
    have h0 := rNumber_fok (m := rLim m) (a := 6) (by decide) h
    split
    · split
      · exact (h0.fail (FOk.err (by decide))).fail (FOk.err (by decide))
      · exact h0.fail (FOk.err (by decide))
    · split
      · exact h0.fail (FOk.err (by decide))
      · exact h0
  unfold rLoad; split
  · split
    · exact h1
    · exact rTake_fok h1
  · exact rBegin_fok h
theorem rBits_fok {n : Int} {s : RS} (h : FOk s.fault) : FOk (rBits n s).1.fault := by
  have hx : ∀ (k : Nat) (s : RS) (v : Int), (rBitsN k s v).1.fault = s.fault := fun k => by
    induction k with
    | zero => intros; rfl
    | succ k ih => intro s v; rw [rBitsN, ih]; rfl
  unfold rBits; split
  · exact h
  split
  · exact h.fail (FOk.err (by decide))
  · rw [hx]; exact h
theorem rd_ok {o : OpV} {s : RS} (h : RSok s) : RSok (rd o s) := by
  unfold rd
  split
  · exact h.take 1
  split
  · exact h.take 4
  split
  · exact h.number _ _
  split
  · exact h.number _ _
  split
  · exact h.load _
  split
  · exact h.load _
  split
  · exact h.bits _
  split
  · split
    · exact h
    · exact h.fail _
  · exact h
theorem rd_fok {o : OpV} {s : RS} (h : FOk s.fault) : FOk (rd o s).fault := by
  unfold rd
  split
  · exact rTake_fok h
  split
  · exact rTake_fok h
  split
  · exact rNumber_fok (by decide) h
  split
  · exact rNumber_fok (by decide) h
  split
  · exact rLoad_fok h
  split
  · exact rLoad_fok h
  split
  · exact rBits_fok h
  split
  · split
    · exact h
    · rename_i hz; exact h.fail (.inr ⟨_, _, hz, rfl⟩)
  · exact h

theorem rd_xs {o : OpV} {s : RS} : (rd o s).xs = s.xs := by
  have t : ∀ n, (rTake n s).1.xs = s.xs := fun n => by
    unfold rTake; split
    · split
      · exact rFail_xs _ _
      · rfl
    · exact rBegin_xs _
  have t' : ∀ n q, (rTake n q).1.xs = q.xs := fun n q => by
    unfold rTake; split
    · split
      · exact rFail_xs _ _
      · rfl
    · exact rBegin_xs _
  have l : ∀ m, (rLoad m s).1.xs = s.xs := fun m => by
    unfold rLoad; split
    · split
      · exact rLoadS_xs _ _
      · rw [t', rLoadS_xs]
    · exact rBegin_xs _
  have b : ∀ (k : Nat) (s : RS) (v : Int), (rBitsN k s v).1.xs = s.xs := fun k => by
    induction k with
    | zero => intros; rfl
    | succ k ih => intro s v; rw [rBitsN, ih]; rfl
  unfold rd
  split
  · exact t 1
  split
  · exact t 4
  split
  · exact rNumber_xs _ _ _
  split
  · exact rNumber_xs _ _ _
  split
  · exact l _
  split
  · exact l _
  split
  · unfold rBits; split
    · rfl
    split
    · exact rFail_xs _ _
    · exact b _ _ _
  split
  · split
    · rfl
    · exact rFail_xs _ _
  · rfl

theorem read_ok {w : World} {F1 F2 : Nat → Prop} {p1 p2 : Nat} {s : RS} {o : OpV} (hR : RAt w F1 p1 s) (hM : RMAt w F2 p2 s) (hd : ∀ k, F1 k → ¬ F2 k) (ok : RSok s) (fo : FOk s.fault) (ho : o.Ok w) {R : VWK}
    (h : ∀ w', RAt w' F1 p1 (rd o s) → RMAt w' F2 p2 (rd o s) → Keep (fun k => k = p1 ∨ k = p2) w w' → R (.bool true) w') :
    CallsV Tryd.prog 18 [.pointer (some ⟨p1, 0, none⟩), .pointer (some ⟨p2, 0, none⟩), .agg o.cells.toArray] w R := by
  have h1 : p1 < w.heap.size := hR.lt p1 hR.at
  have h2 : p2 < w.heap.size := hM.lt p2 hM.place
  have d12 : ¬ F2 p1 := hd p1 hR.at
  have d21 : ¬ F1 p2 := fun hf => hd p2 hf hM.place
  have hl := ok.len
  have on0 := ho.n0
  have on1 := ho.n1
  have ob0 := ho.b0
  have ob1 := ho.b1
  refine calls_of_wpC mixed Tryd.func18 rfl (by kernel_rfl) ?_
  intro e he
  have he0 := he 0
  have he1 := he 1
  have he2 := he 2
  simp only [List.getD_cons_zero, List.getD_cons_succ] at he0 he1 he2
  clear he
  try simp -dsimp only [↓RE, ↓c_seq, RU, RL, if_true, if_false, forall_const, implies_true, Nat.reduceLeDiff, Nat.reduceLT, pureOp, binPure, intBin, strBin, eqPure, isConstO, unPure, sliceLo, sliceHi, slicePure, lenPure, minPure, maxPure, buildP, resK, endV, yieldE, ↓reduceIte, Nat.reduceEqDiff, reduceCtorEq, Nat.reduceAdd, Nat.reduceMul, Nat.reduceSub, Int.reduceLT, Int.reduceLE, Int.reduceToNat, Int.reduceAdd, Int.reduceSub, Int.reduceMul, ne_eq, decide_true, decide_false, tf18, he0, he1, he2, OpV.cells]
  have hB := Blk.new' w 49 #[.int .i64 o.k, .int .u64 o.n, .int .i64 o.b, .slice o.A o.m o.c]
  have ga := Grow.alloc w (.cells #[.int .i64 o.k, .int .u64 o.n, .int .i64 o.b, .slice o.A o.m o.c] 49)
  generalize hwa : w.alloc (.cells #[.int .i64 o.k, .int .u64 o.n, .int .i64 o.b, .slice o.A o.m o.c] 49) = wa at hB ga
  have hR1 := hR.grow ga
  have hM1 := hM.grow ga
  -- the one read, then the other
  have kk : ∀ {wx w1 w2 : World}, Grow w wx → Keep (fun k => k = p1) wx w1 → Keep (fun k => k = p2) w1 w2 → Keep (fun k => k = p1 ∨ k = p2) w w2 := fun g k1 k2 => (g.then k1).trans k2 (fun _ _ h => .inl h) (fun _ _ h => .inr h)
  have fin : ∀ {s' : RS} {wx w1 w2 : World}, rd o s = s' → Grow w wx → Keep (fun k => k = p1) wx w1 → Keep (fun k => k = p2) w1 w2 → RAt w1 F1 p1 s' → RMAt w2 F2 p2 s' → R (.bool true) w2 := fun e g k1 k2 hr hm =>
    h _ (by rw [e]; exact hr.keep k2 (fun k hk e => d21 (e ▸ hk))) (by rw [e]; exact hm) (kk g k1 k2)
  have mk : ∀ {wx w1 : World}, RMAt wx F2 p2 s → Keep (fun k => k = p1) wx w1 → RMAt w1 F2 p2 s := fun hm k1 => hm.keep k1 (fun k hk e => d12 (e ▸ hk))
  try simp -dsimp only [↓RE, ↓c_seq, RU, RL, if_true, if_false, forall_const, implies_true, Nat.reduceLeDiff, Nat.reduceLT, pureOp, binPure, intBin, strBin, eqPure, isConstO, unPure, sliceLo, sliceHi, slicePure, lenPure, minPure, maxPure, buildP, resK, endV, yieldE, ↓reduceIte, Nat.reduceEqDiff, reduceCtorEq, Nat.reduceAdd, Nat.reduceMul, Nat.reduceSub, Int.reduceLT, Int.reduceLE, Int.reduceToNat, Int.reduceAdd, Int.reduceSub, Int.reduceMul, ne_eq, decide_true, decide_false, tf18, he0, he1, hwa, hB.cell]
  refine ⟨fun hk => ?_, fun hk => ?_⟩
  · have e : rd o s = (rTake 1 s).1 := by unfold rd; rw [if_pos hk]
    try simp -dsimp only [↓RE, ↓c_seq, RU, RL, if_true, if_false, forall_const, implies_true, Nat.reduceLeDiff, Nat.reduceLT, pureOp, binPure, intBin, strBin, eqPure, isConstO, unPure, sliceLo, sliceHi, slicePure, lenPure, minPure, maxPure, buildP, resK, endV, yieldE, ↓reduceIte, Nat.reduceEqDiff, reduceCtorEq, Nat.reduceAdd, Nat.reduceMul, Nat.reduceSub, Int.reduceLT, Int.reduceLE, Int.reduceToNat, Int.reduceAdd, Int.reduceSub, Int.reduceMul, ne_eq, decide_true, decide_false, tf18, he0, he1, hwa]
    refine byteR_ok hR1 ok (fun w1 hR2 k1 => ?_)
    try simp -dsimp only [↓RE, ↓c_seq, RU, RL, if_true, if_false, forall_const, implies_true, Nat.reduceLeDiff, Nat.reduceLT, pureOp, binPure, intBin, strBin, eqPure, isConstO, unPure, sliceLo, sliceHi, slicePure, lenPure, minPure, maxPure, buildP, resK, endV, yieldE, ↓reduceIte, Nat.reduceEqDiff, reduceCtorEq, Nat.reduceAdd, Nat.reduceMul, Nat.reduceSub, Int.reduceLT, Int.reduceLE, Int.reduceToNat, Int.reduceAdd, Int.reduceSub, Int.reduceMul, ne_eq, decide_true, decide_false, tf18, he0, he1]
    refine rrbyte_ok (mk hM1 k1) ok fo (fun w2 hM2 k2 => ?_)
    try simp -dsimp only [↓RE, ↓c_seq, RU, RL, if_true, if_false, forall_const, implies_true, Nat.reduceLeDiff, Nat.reduceLT, pureOp, binPure, intBin, strBin, eqPure, isConstO, unPure, sliceLo, sliceHi, slicePure, lenPure, minPure, maxPure, buildP, resK, endV, yieldE, ↓reduceIte, Nat.reduceEqDiff, reduceCtorEq, Nat.reduceAdd, Nat.reduceMul, Nat.reduceSub, Int.reduceLT, Int.reduceLE, Int.reduceToNat, Int.reduceAdd, Int.reduceSub, Int.reduceMul, ne_eq, decide_true, decide_false, tf18, he0, he1, eq_self]
    exact fin e ga k1 k2 hR2 hM2
  have n0 := hk
  clear hk
  try simp -dsimp only [↓RE, ↓c_seq, RU, RL, if_true, if_false, forall_const, implies_true, Nat.reduceLeDiff, Nat.reduceLT, pureOp, binPure, intBin, strBin, eqPure, isConstO, unPure, sliceLo, sliceHi, slicePure, lenPure, minPure, maxPure, buildP, resK, endV, yieldE, ↓reduceIte, Nat.reduceEqDiff, reduceCtorEq, Nat.reduceAdd, Nat.reduceMul, Nat.reduceSub, Int.reduceLT, Int.reduceLE, Int.reduceToNat, Int.reduceAdd, Int.reduceSub, Int.reduceMul, ne_eq, decide_true, decide_false, tf18, he0, he1, hwa, hB.cell]
  refine ⟨fun hk => ?_, fun hk => ?_⟩
  · have e : rd o s = (rTake 4 s).1 := by unfold rd; rw [if_neg n0, if_pos hk]
    try simp -dsimp only [↓RE, ↓c_seq, RU, RL, if_true, if_false, forall_const, implies_true, Nat.reduceLeDiff, Nat.reduceLT, pureOp, binPure, intBin, strBin, eqPure, isConstO, unPure, sliceLo, sliceHi, slicePure, lenPure, minPure, maxPure, buildP, resK, endV, yieldE, ↓reduceIte, Nat.reduceEqDiff, reduceCtorEq, Nat.reduceAdd, Nat.reduceMul, Nat.reduceSub, Int.reduceLT, Int.reduceLE, Int.reduceToNat, Int.reduceAdd, Int.reduceSub, Int.reduceMul, ne_eq, decide_true, decide_false, tf18, he0, he1, hwa]
    refine fix32R_ok hR1 ok (fun w1 hR2 k1 => ?_)
    try simp -dsimp only [↓RE, ↓c_seq, RU, RL, if_true, if_false, forall_const, implies_true, Nat.reduceLeDiff, Nat.reduceLT, pureOp, binPure, intBin, strBin, eqPure, isConstO, unPure, sliceLo, sliceHi, slicePure, lenPure, minPure, maxPure, buildP, resK, endV, yieldE, ↓reduceIte, Nat.reduceEqDiff, reduceCtorEq, Nat.reduceAdd, Nat.reduceMul, Nat.reduceSub, Int.reduceLT, Int.reduceLE, Int.reduceToNat, Int.reduceAdd, Int.reduceSub, Int.reduceMul, ne_eq, decide_true, decide_false, tf18, he0, he1]
    refine rrfix32_ok (mk hM1 k1) ok fo (fun w2 hM2 k2 => ?_)
    try simp -dsimp only [↓RE, ↓c_seq, RU, RL, if_true, if_false, forall_const, implies_true, Nat.reduceLeDiff, Nat.reduceLT, pureOp, binPure, intBin, strBin, eqPure, isConstO, unPure, sliceLo, sliceHi, slicePure, lenPure, minPure, maxPure, buildP, resK, endV, yieldE, ↓reduceIte, Nat.reduceEqDiff, reduceCtorEq, Nat.reduceAdd, Nat.reduceMul, Nat.reduceSub, Int.reduceLT, Int.reduceLE, Int.reduceToNat, Int.reduceAdd, Int.reduceSub, Int.reduceMul, ne_eq, decide_true, decide_false, tf18, he0, he1, eq_self]
    exact fin e ga k1 k2 hR2 hM2
  have n1 := hk
  clear hk
  have gd := ga.trans (Grow.drew wa)
  have hBd := hB.drew
  have hRd := hR1.grow (Grow.drew wa)
  have hMd := hM1.grow (Grow.drew wa)
  generalize hwd : wa.drew = wd at gd hBd hRd hMd
  have hSB : ∀ {w1 : World}, Keep (fun k => k = p1) wd w1 → Blk w1 w.heap.size 49 [.int .i64 o.k, .int .u64 o.n, .int .i64 o.b, .slice o.A o.m o.c] := fun k1 => hBd.keep k1 (by omega)
  have hSB2 : ∀ {w1 w2 : World}, Keep (fun k => k = p1) wd w1 → Keep (fun k => k = p2) w1 w2 → Blk w2 w.heap.size 49 [.int .i64 o.k, .int .u64 o.n, .int .i64 o.b, .slice o.A o.m o.c] := fun k1 k2 => (hSB k1).keep k2 (by omega)
  try simp -dsimp only [↓RE, ↓c_seq, RU, RL, if_true, if_false, forall_const, implies_true, Nat.reduceLeDiff, Nat.reduceLT, pureOp, binPure, intBin, strBin, eqPure, isConstO, unPure, sliceLo, sliceHi, slicePure, lenPure, minPure, maxPure, buildP, resK, endV, yieldE, ↓reduceIte, Nat.reduceEqDiff, reduceCtorEq, Nat.reduceAdd, Nat.reduceMul, Nat.reduceSub, Int.reduceLT, Int.reduceLE, Int.reduceToNat, Int.reduceAdd, Int.reduceSub, Int.reduceMul, ne_eq, decide_true, decide_false, tf18, he0, he1, hwa, hB.cell]
  refine ⟨fun hk => ?_, fun hk => ?_⟩
  · have e : rd o s = (rNumber o.n 2 s).1 := by unfold rd; rw [if_neg n0, if_neg n1, if_pos hk]
    try simp -dsimp only [↓RE, ↓c_seq, RU, RL, if_true, if_false, forall_const, implies_true, Nat.reduceLeDiff, Nat.reduceLT, pureOp, binPure, intBin, strBin, eqPure, isConstO, unPure, sliceLo, sliceHi, slicePure, lenPure, minPure, maxPure, buildP, resK, endV, yieldE, ↓reduceIte, Nat.reduceEqDiff, reduceCtorEq, Nat.reduceAdd, Nat.reduceMul, Nat.reduceSub, Int.reduceLT, Int.reduceLE, Int.reduceToNat, Int.reduceAdd, Int.reduceSub, Int.reduceMul, ne_eq, decide_true, decide_false, tf18, he0, he1, hwa]
    refine wpDraw_by (fun w0 => Blk w0 w.heap.size 49 [.int .i64 o.k, .int .u64 o.n, .int .i64 o.b, .slice o.A o.m o.c]) [(0, true), (1, true), (2, true), (4, true), (5, true), (6, true), (3, false), (7, false), (8, true), (9, true)] (by kernel_rfl) (by have hx := hBd; rw [← hwd, ← hwa] at hx; exact hx) ?_
    simp only [planL, List.getElem?_toArray, List.getElem?_cons_zero, List.getElem?_cons_succ, Option.toList_some, List.map_cons, List.map_nil, List.cons_append, List.nil_append]
    try simp -dsimp only [↓RE, ↓c_seq, RU, RL, if_true, if_false, forall_const, implies_true, Nat.reduceLeDiff, Nat.reduceLT, pureOp, binPure, intBin, strBin, eqPure, isConstO, unPure, sliceLo, sliceHi, slicePure, lenPure, minPure, maxPure, buildP, resK, endV, yieldE, ↓reduceIte, Nat.reduceEqDiff, reduceCtorEq, Nat.reduceAdd, Nat.reduceMul, Nat.reduceSub, Int.reduceLT, Int.reduceLE, Int.reduceToNat, Int.reduceAdd, Int.reduceSub, Int.reduceMul, ne_eq, decide_true, decide_false, tf18, he0, he1, hwa, hwd]
    refine ⟨_, fun w' hS => Blk.cell hS 1, ?_⟩
    try simp -dsimp only [↓RE, ↓c_seq, RU, RL, if_true, if_false, forall_const, implies_true, Nat.reduceLeDiff, Nat.reduceLT, pureOp, binPure, intBin, strBin, eqPure, isConstO, unPure, sliceLo, sliceHi, slicePure, lenPure, minPure, maxPure, buildP, resK, endV, yieldE, ↓reduceIte, Nat.reduceEqDiff, reduceCtorEq, Nat.reduceAdd, Nat.reduceMul, Nat.reduceSub, Int.reduceLT, Int.reduceLE, Int.reduceToNat, Int.reduceAdd, Int.reduceSub, Int.reduceMul, ne_eq, decide_true, decide_false, tf18, he0, he1, hwa, hwd]
    refine ⟨_, fun w' hS => Blk.cell hS 1, ?_⟩
    try simp -dsimp only [↓RE, ↓c_seq, RU, RL, if_true, if_false, forall_const, implies_true, Nat.reduceLeDiff, Nat.reduceLT, pureOp, binPure, intBin, strBin, eqPure, isConstO, unPure, sliceLo, sliceHi, slicePure, lenPure, minPure, maxPure, buildP, resK, endV, yieldE, ↓reduceIte, Nat.reduceEqDiff, reduceCtorEq, Nat.reduceAdd, Nat.reduceMul, Nat.reduceSub, Int.reduceLT, Int.reduceLE, Int.reduceToNat, Int.reduceAdd, Int.reduceSub, Int.reduceMul, ne_eq, decide_true, decide_false, tf18, he0, he1, hwa, hwd]
    refine uintR_ok hRd ok on0 (fun w1 hR2 k1 => ?_)
    try simp -dsimp only [↓RE, ↓c_seq, RU, RL, if_true, if_false, forall_const, implies_true, Nat.reduceLeDiff, Nat.reduceLT, pureOp, binPure, intBin, strBin, eqPure, isConstO, unPure, sliceLo, sliceHi, slicePure, lenPure, minPure, maxPure, buildP, resK, endV, yieldE, ↓reduceIte, Nat.reduceEqDiff, reduceCtorEq, Nat.reduceAdd, Nat.reduceMul, Nat.reduceSub, Int.reduceLT, Int.reduceLE, Int.reduceToNat, Int.reduceAdd, Int.reduceSub, Int.reduceMul, ne_eq, decide_true, decide_false, tf18, he0, he1]
    refine ⟨hSB k1, ?_⟩
    try simp -dsimp only [↓RE, ↓c_seq, RU, RL, if_true, if_false, forall_const, implies_true, Nat.reduceLeDiff, Nat.reduceLT, pureOp, binPure, intBin, strBin, eqPure, isConstO, unPure, sliceLo, sliceHi, slicePure, lenPure, minPure, maxPure, buildP, resK, endV, yieldE, ↓reduceIte, Nat.reduceEqDiff, reduceCtorEq, Nat.reduceAdd, Nat.reduceMul, Nat.reduceSub, Int.reduceLT, Int.reduceLE, Int.reduceToNat, Int.reduceAdd, Int.reduceSub, Int.reduceMul, ne_eq, decide_true, decide_false, tf18, he0, he1]
    refine rruint_ok (mk hMd k1) ok fo on0 (fun w2 hM2 k2 => ?_)
    try simp -dsimp only [↓RE, ↓c_seq, RU, RL, if_true, if_false, forall_const, implies_true, Nat.reduceLeDiff, Nat.reduceLT, pureOp, binPure, intBin, strBin, eqPure, isConstO, unPure, sliceLo, sliceHi, slicePure, lenPure, minPure, maxPure, buildP, resK, endV, yieldE, ↓reduceIte, Nat.reduceEqDiff, reduceCtorEq, Nat.reduceAdd, Nat.reduceMul, Nat.reduceSub, Int.reduceLT, Int.reduceLE, Int.reduceToNat, Int.reduceAdd, Int.reduceSub, Int.reduceMul, ne_eq, decide_true, decide_false, tf18, he0, he1, eq_self]
    refine ⟨hSB2 k1 k2, ?_⟩
    try simp -dsimp only [↓RE, ↓c_seq, RU, RL, if_true, if_false, forall_const, implies_true, Nat.reduceLeDiff, Nat.reduceLT, pureOp, binPure, intBin, strBin, eqPure, isConstO, unPure, sliceLo, sliceHi, slicePure, lenPure, minPure, maxPure, buildP, resK, endV, yieldE, ↓reduceIte, Nat.reduceEqDiff, reduceCtorEq, Nat.reduceAdd, Nat.reduceMul, Nat.reduceSub, Int.reduceLT, Int.reduceLE, Int.reduceToNat, Int.reduceAdd, Int.reduceSub, Int.reduceMul, ne_eq, decide_true, decide_false, tf18, he0, he1, eq_self]
    exact fin e gd k1 k2 hR2 hM2
  have n2 := hk
  clear hk
  try simp -dsimp only [↓RE, ↓c_seq, RU, RL, if_true, if_false, forall_const, implies_true, Nat.reduceLeDiff, Nat.reduceLT, pureOp, binPure, intBin, strBin, eqPure, isConstO, unPure, sliceLo, sliceHi, slicePure, lenPure, minPure, maxPure, buildP, resK, endV, yieldE, ↓reduceIte, Nat.reduceEqDiff, reduceCtorEq, Nat.reduceAdd, Nat.reduceMul, Nat.reduceSub, Int.reduceLT, Int.reduceLE, Int.reduceToNat, Int.reduceAdd, Int.reduceSub, Int.reduceMul, ne_eq, decide_true, decide_false, tf18, he0, he1, hwa, hB.cell]
  refine ⟨fun hk => ?_, fun hk => ?_⟩
  · have e : rd o s = (rNumber 18446744073709551615 2 s).1 := by unfold rd; rw [if_neg n0, if_neg n1, if_neg n2, if_pos hk]
    try simp -dsimp only [↓RE, ↓c_seq, RU, RL, if_true, if_false, forall_const, implies_true, Nat.reduceLeDiff, Nat.reduceLT, pureOp, binPure, intBin, strBin, eqPure, isConstO, unPure, sliceLo, sliceHi, slicePure, lenPure, minPure, maxPure, buildP, resK, endV, yieldE, ↓reduceIte, Nat.reduceEqDiff, reduceCtorEq, Nat.reduceAdd, Nat.reduceMul, Nat.reduceSub, Int.reduceLT, Int.reduceLE, Int.reduceToNat, Int.reduceAdd, Int.reduceSub, Int.reduceMul, ne_eq, decide_true, decide_false, tf18, he0, he1, hwa]
    refine intR_ok hR1 ok (fun w1 hR2 k1 => ?_)
    try simp -dsimp only [↓RE, ↓c_seq, RU, RL, if_true, if_false, forall_const, implies_true, Nat.reduceLeDiff, Nat.reduceLT, pureOp, binPure, intBin, strBin, eqPure, isConstO, unPure, sliceLo, sliceHi, slicePure, lenPure, minPure, maxPure, buildP, resK, endV, yieldE, ↓reduceIte, Nat.reduceEqDiff, reduceCtorEq, Nat.reduceAdd, Nat.reduceMul, Nat.reduceSub, Int.reduceLT, Int.reduceLE, Int.reduceToNat, Int.reduceAdd, Int.reduceSub, Int.reduceMul, ne_eq, decide_true, decide_false, tf18, he0, he1]
    refine rrint_ok (mk hM1 k1) ok fo (fun w2 hM2 k2 => ?_)
    try simp -dsimp only [↓RE, ↓c_seq, RU, RL, if_true, if_false, forall_const, implies_true, Nat.reduceLeDiff, Nat.reduceLT, pureOp, binPure, intBin, strBin, eqPure, isConstO, unPure, sliceLo, sliceHi, slicePure, lenPure, minPure, maxPure, buildP, resK, endV, yieldE, ↓reduceIte, Nat.reduceEqDiff, reduceCtorEq, Nat.reduceAdd, Nat.reduceMul, Nat.reduceSub, Int.reduceLT, Int.reduceLE, Int.reduceToNat, Int.reduceAdd, Int.reduceSub, Int.reduceMul, ne_eq, decide_true, decide_false, tf18, he0, he1, eq_self]
    exact fin e ga k1 k2 hR2 hM2
  have n3 := hk
  clear hk
  try simp -dsimp only [↓RE, ↓c_seq, RU, RL, if_true, if_false, forall_const, implies_true, Nat.reduceLeDiff, Nat.reduceLT, pureOp, binPure, intBin, strBin, eqPure, isConstO, unPure, sliceLo, sliceHi, slicePure, lenPure, minPure, maxPure, buildP, resK, endV, yieldE, ↓reduceIte, Nat.reduceEqDiff, reduceCtorEq, Nat.reduceAdd, Nat.reduceMul, Nat.reduceSub, Int.reduceLT, Int.reduceLE, Int.reduceToNat, Int.reduceAdd, Int.reduceSub, Int.reduceMul, ne_eq, decide_true, decide_false, tf18, he0, he1, hwa, hB.cell]
  refine ⟨fun hk => ?_, fun hk => ?_⟩
  · have e : rd o s = (rLoad o.b s).1 := by unfold rd; rw [if_neg n0, if_neg n1, if_neg n2, if_neg n3, if_pos hk]
    try simp -dsimp only [↓RE, ↓c_seq, RU, RL, if_true, if_false, forall_const, implies_true, Nat.reduceLeDiff, Nat.reduceLT, pureOp, binPure, intBin, strBin, eqPure, isConstO, unPure, sliceLo, sliceHi, slicePure, lenPure, minPure, maxPure, buildP, resK, endV, yieldE, ↓reduceIte, Nat.reduceEqDiff, reduceCtorEq, Nat.reduceAdd, Nat.reduceMul, Nat.reduceSub, Int.reduceLT, Int.reduceLE, Int.reduceToNat, Int.reduceAdd, Int.reduceSub, Int.reduceMul, ne_eq, decide_true, decide_false, tf18, he0, he1, hwa]
    refine wpDraw_by (fun w0 => Blk w0 w.heap.size 49 [.int .i64 o.k, .int .u64 o.n, .int .i64 o.b, .slice o.A o.m o.c]) [(0, true), (1, true), (2, true), (4, true), (5, true), (6, true), (3, false), (7, false), (8, true), (9, true)] (by kernel_rfl) (by have hx := hBd; rw [← hwd, ← hwa] at hx; exact hx) ?_
    simp only [planL, List.getElem?_toArray, List.getElem?_cons_zero, List.getElem?_cons_succ, Option.toList_some, List.map_cons, List.map_nil, List.cons_append, List.nil_append]
    try simp -dsimp only [↓RE, ↓c_seq, RU, RL, if_true, if_false, forall_const, implies_true, Nat.reduceLeDiff, Nat.reduceLT, pureOp, binPure, intBin, strBin, eqPure, isConstO, unPure, sliceLo, sliceHi, slicePure, lenPure, minPure, maxPure, buildP, resK, endV, yieldE, ↓reduceIte, Nat.reduceEqDiff, reduceCtorEq, Nat.reduceAdd, Nat.reduceMul, Nat.reduceSub, Int.reduceLT, Int.reduceLE, Int.reduceToNat, Int.reduceAdd, Int.reduceSub, Int.reduceMul, ne_eq, decide_true, decide_false, tf18, he0, he1, hwa, hwd]
    refine ⟨_, fun w' hS => Blk.cell hS 2, ?_⟩
    try simp -dsimp only [↓RE, ↓c_seq, RU, RL, if_true, if_false, forall_const, implies_true, Nat.reduceLeDiff, Nat.reduceLT, pureOp, binPure, intBin, strBin, eqPure, isConstO, unPure, sliceLo, sliceHi, slicePure, lenPure, minPure, maxPure, buildP, resK, endV, yieldE, ↓reduceIte, Nat.reduceEqDiff, reduceCtorEq, Nat.reduceAdd, Nat.reduceMul, Nat.reduceSub, Int.reduceLT, Int.reduceLE, Int.reduceToNat, Int.reduceAdd, Int.reduceSub, Int.reduceMul, ne_eq, decide_true, decide_false, tf18, he0, he1, hwa, hwd]
    refine ⟨_, fun w' hS => Blk.cell hS 2, ?_⟩
    try simp -dsimp only [↓RE, ↓c_seq, RU, RL, if_true, if_false, forall_const, implies_true, Nat.reduceLeDiff, Nat.reduceLT, pureOp, binPure, intBin, strBin, eqPure, isConstO, unPure, sliceLo, sliceHi, slicePure, lenPure, minPure, maxPure, buildP, resK, endV, yieldE, ↓reduceIte, Nat.reduceEqDiff, reduceCtorEq, Nat.reduceAdd, Nat.reduceMul, Nat.reduceSub, Int.reduceLT, Int.reduceLE, Int.reduceToNat, Int.reduceAdd, Int.reduceSub, Int.reduceMul, ne_eq, decide_true, decide_false, tf18, he0, he1, hwa, hwd]
    refine textR_ok hRd ok ob0 ob1 (fun w1 hR2 k1 => ?_)
    try simp -dsimp only [↓RE, ↓c_seq, RU, RL, if_true, if_false, forall_const, implies_true, Nat.reduceLeDiff, Nat.reduceLT, pureOp, binPure, intBin, strBin, eqPure, isConstO, unPure, sliceLo, sliceHi, slicePure, lenPure, minPure, maxPure, buildP, resK, endV, yieldE, ↓reduceIte, Nat.reduceEqDiff, reduceCtorEq, Nat.reduceAdd, Nat.reduceMul, Nat.reduceSub, Int.reduceLT, Int.reduceLE, Int.reduceToNat, Int.reduceAdd, Int.reduceSub, Int.reduceMul, ne_eq, decide_true, decide_false, tf18, he0, he1]
    refine ⟨hSB k1, ?_⟩
    try simp -dsimp only [↓RE, ↓c_seq, RU, RL, if_true, if_false, forall_const, implies_true, Nat.reduceLeDiff, Nat.reduceLT, pureOp, binPure, intBin, strBin, eqPure, isConstO, unPure, sliceLo, sliceHi, slicePure, lenPure, minPure, maxPure, buildP, resK, endV, yieldE, ↓reduceIte, Nat.reduceEqDiff, reduceCtorEq, Nat.reduceAdd, Nat.reduceMul, Nat.reduceSub, Int.reduceLT, Int.reduceLE, Int.reduceToNat, Int.reduceAdd, Int.reduceSub, Int.reduceMul, ne_eq, decide_true, decide_false, tf18, he0, he1]
    refine rrtext_ok (mk hMd k1) ok fo ob0 ob1 (fun w2 hM2 k2 => ?_)
    try simp -dsimp only [↓RE, ↓c_seq, RU, RL, if_true, if_false, forall_const, implies_true, Nat.reduceLeDiff, Nat.reduceLT, pureOp, binPure, intBin, strBin, eqPure, isConstO, unPure, sliceLo, sliceHi, slicePure, lenPure, minPure, maxPure, buildP, resK, endV, yieldE, ↓reduceIte, Nat.reduceEqDiff, reduceCtorEq, Nat.reduceAdd, Nat.reduceMul, Nat.reduceSub, Int.reduceLT, Int.reduceLE, Int.reduceToNat, Int.reduceAdd, Int.reduceSub, Int.reduceMul, ne_eq, decide_true, decide_false, tf18, he0, he1, beq_self_eq_true]
    refine ⟨hSB2 k1 k2, ?_⟩
    try simp -dsimp only [↓RE, ↓c_seq, RU, RL, if_true, if_false, forall_const, implies_true, Nat.reduceLeDiff, Nat.reduceLT, pureOp, binPure, intBin, strBin, eqPure, isConstO, unPure, sliceLo, sliceHi, slicePure, lenPure, minPure, maxPure, buildP, resK, endV, yieldE, ↓reduceIte, Nat.reduceEqDiff, reduceCtorEq, Nat.reduceAdd, Nat.reduceMul, Nat.reduceSub, Int.reduceLT, Int.reduceLE, Int.reduceToNat, Int.reduceAdd, Int.reduceSub, Int.reduceMul, ne_eq, decide_true, decide_false, tf18, he0, he1, beq_self_eq_true]
    exact fin e gd k1 k2 hR2 hM2
  have n4 := hk
  clear hk
  try simp -dsimp only [↓RE, ↓c_seq, RU, RL, if_true, if_false, forall_const, implies_true, Nat.reduceLeDiff, Nat.reduceLT, pureOp, binPure, intBin, strBin, eqPure, isConstO, unPure, sliceLo, sliceHi, slicePure, lenPure, minPure, maxPure, buildP, resK, endV, yieldE, ↓reduceIte, Nat.reduceEqDiff, reduceCtorEq, Nat.reduceAdd, Nat.reduceMul, Nat.reduceSub, Int.reduceLT, Int.reduceLE, Int.reduceToNat, Int.reduceAdd, Int.reduceSub, Int.reduceMul, ne_eq, decide_true, decide_false, tf18, he0, he1, hwa, hB.cell]
  refine ⟨fun hk => ?_, fun hk => ?_⟩
  · have e : rd o s = (rLoad o.b s).1 := by unfold rd; rw [if_neg n0, if_neg n1, if_neg n2, if_neg n3, if_neg n4, if_pos hk]
    try simp -dsimp only [↓RE, ↓c_seq, RU, RL, if_true, if_false, forall_const, implies_true, Nat.reduceLeDiff, Nat.reduceLT, pureOp, binPure, intBin, strBin, eqPure, isConstO, unPure, sliceLo, sliceHi, slicePure, lenPure, minPure, maxPure, buildP, resK, endV, yieldE, ↓reduceIte, Nat.reduceEqDiff, reduceCtorEq, Nat.reduceAdd, Nat.reduceMul, Nat.reduceSub, Int.reduceLT, Int.reduceLE, Int.reduceToNat, Int.reduceAdd, Int.reduceSub, Int.reduceMul, ne_eq, decide_true, decide_false, tf18, he0, he1, hwa]
    refine wpDraw_by (fun w0 => Blk w0 w.heap.size 49 [.int .i64 o.k, .int .u64 o.n, .int .i64 o.b, .slice o.A o.m o.c]) [(0, true), (1, true), (2, true), (4, true), (5, true), (6, true), (3, false), (7, false), (8, false), (9, true)] (by kernel_rfl) (by have hx := hBd; rw [← hwd, ← hwa] at hx; exact hx) ?_
    simp only [planL, List.getElem?_toArray, List.getElem?_cons_zero, List.getElem?_cons_succ, Option.toList_some, List.map_cons, List.map_nil, List.cons_append, List.nil_append]
    try simp -dsimp only [↓RE, ↓c_seq, RU, RL, if_true, if_false, forall_const, implies_true, Nat.reduceLeDiff, Nat.reduceLT, pureOp, binPure, intBin, strBin, eqPure, isConstO, unPure, sliceLo, sliceHi, slicePure, lenPure, minPure, maxPure, buildP, resK, endV, yieldE, ↓reduceIte, Nat.reduceEqDiff, reduceCtorEq, Nat.reduceAdd, Nat.reduceMul, Nat.reduceSub, Int.reduceLT, Int.reduceLE, Int.reduceToNat, Int.reduceAdd, Int.reduceSub, Int.reduceMul, ne_eq, decide_true, decide_false, tf18, he0, he1, hwa, hwd]
    refine ⟨_, fun w' hS => Blk.cell hS 2, ?_⟩
    try simp -dsimp only [↓RE, ↓c_seq, RU, RL, if_true, if_false, forall_const, implies_true, Nat.reduceLeDiff, Nat.reduceLT, pureOp, binPure, intBin, strBin, eqPure, isConstO, unPure, sliceLo, sliceHi, slicePure, lenPure, minPure, maxPure, buildP, resK, endV, yieldE, ↓reduceIte, Nat.reduceEqDiff, reduceCtorEq, Nat.reduceAdd, Nat.reduceMul, Nat.reduceSub, Int.reduceLT, Int.reduceLE, Int.reduceToNat, Int.reduceAdd, Int.reduceSub, Int.reduceMul, ne_eq, decide_true, decide_false, tf18, he0, he1, hwa, hwd]
    refine ⟨_, fun w' hS => Blk.cell hS 2, ?_⟩
    try simp -dsimp only [↓RE, ↓c_seq, RU, RL, if_true, if_false, forall_const, implies_true, Nat.reduceLeDiff, Nat.reduceLT, pureOp, binPure, intBin, strBin, eqPure, isConstO, unPure, sliceLo, sliceHi, slicePure, lenPure, minPure, maxPure, buildP, resK, endV, yieldE, ↓reduceIte, Nat.reduceEqDiff, reduceCtorEq, Nat.reduceAdd, Nat.reduceMul, Nat.reduceSub, Int.reduceLT, Int.reduceLE, Int.reduceToNat, Int.reduceAdd, Int.reduceSub, Int.reduceMul, ne_eq, decide_true, decide_false, tf18, he0, he1, hwa, hwd]
    refine rawR_ok hRd ok ob0 ob1 (fun w1 A1 c1 hR2 hO1 hF1 k1 => ?_)
    try simp -dsimp only [↓RE, ↓c_seq, RU, RL, if_true, if_false, forall_const, implies_true, Nat.reduceLeDiff, Nat.reduceLT, pureOp, binPure, intBin, strBin, eqPure, isConstO, unPure, sliceLo, sliceHi, slicePure, lenPure, minPure, maxPure, buildP, resK, endV, yieldE, ↓reduceIte, Nat.reduceEqDiff, reduceCtorEq, Nat.reduceAdd, Nat.reduceMul, Nat.reduceSub, Int.reduceLT, Int.reduceLE, Int.reduceToNat, Int.reduceAdd, Int.reduceSub, Int.reduceMul, ne_eq, decide_true, decide_false, tf18, he0, he1]
    refine ⟨hSB k1, ?_⟩
    try simp -dsimp only [↓RE, ↓c_seq, RU, RL, if_true, if_false, forall_const, implies_true, Nat.reduceLeDiff, Nat.reduceLT, pureOp, binPure, intBin, strBin, eqPure, isConstO, unPure, sliceLo, sliceHi, slicePure, lenPure, minPure, maxPure, buildP, resK, endV, yieldE, ↓reduceIte, Nat.reduceEqDiff, reduceCtorEq, Nat.reduceAdd, Nat.reduceMul, Nat.reduceSub, Int.reduceLT, Int.reduceLE, Int.reduceToNat, Int.reduceAdd, Int.reduceSub, Int.reduceMul, ne_eq, decide_true, decide_false, tf18, he0, he1]
    refine rraw_ok' (mk hMd k1) ok fo ob0 ob1 (fun w2 A2 c2 hM2 hRd2 hF2 k2 => ?_)
    have hO2 := own_keep hO1 k2 (fun k hk e => by rw [fpV_fpA] at hk; have := hF1 k hk; have := gd.size; omega)
    have hlen : (rLoad o.b s).2.length ≤ s.xs.length := rLoad_len' ok
    generalize (rLoad o.b s).2 = Z at *
    try simp -dsimp only [↓RE, ↓c_seq, RU, RL, if_true, if_false, forall_const, implies_true, Nat.reduceLeDiff, Nat.reduceLT, pureOp, binPure, intBin, strBin, eqPure, isConstO, unPure, sliceLo, sliceHi, slicePure, lenPure, minPure, maxPure, buildP, resK, endV, yieldE, ↓reduceIte, Nat.reduceEqDiff, reduceCtorEq, Nat.reduceAdd, Nat.reduceMul, Nat.reduceSub, Int.reduceLT, Int.reduceLE, Int.reduceToNat, Int.reduceAdd, Int.reduceSub, Int.reduceMul, ne_eq, decide_true, decide_false, tf18, he0, he1]
    refine ⟨hSB2 k1 k2, ?_⟩
    try simp -dsimp only [↓RE, ↓c_seq, RU, RL, if_true, if_false, forall_const, implies_true, Nat.reduceLeDiff, Nat.reduceLT, pureOp, binPure, intBin, strBin, eqPure, isConstO, unPure, sliceLo, sliceHi, slicePure, lenPure, minPure, maxPure, buildP, resK, endV, yieldE, ↓reduceIte, Nat.reduceEqDiff, reduceCtorEq, Nat.reduceAdd, Nat.reduceMul, Nat.reduceSub, Int.reduceLT, Int.reduceLE, Int.reduceToNat, Int.reduceAdd, Int.reduceSub, Int.reduceMul, ne_eq, decide_true, decide_false, tf18, he0, he1]
    refine same_ok (Rd.of_own hO2) hRd2 (by omega) (by omega) (fun w3 g3 => ?_)
    try simp -dsimp only [↓RE, ↓c_seq, RU, RL, if_true, if_false, forall_const, implies_true, Nat.reduceLeDiff, Nat.reduceLT, pureOp, binPure, intBin, strBin, eqPure, isConstO, unPure, sliceLo, sliceHi, slicePure, lenPure, minPure, maxPure, buildP, resK, endV, yieldE, ↓reduceIte, Nat.reduceEqDiff, reduceCtorEq, Nat.reduceAdd, Nat.reduceMul, Nat.reduceSub, Int.reduceLT, Int.reduceLE, Int.reduceToNat, Int.reduceAdd, Int.reduceSub, Int.reduceMul, ne_eq, decide_true, decide_false, tf18, he0, he1, eq_self]
    refine ⟨(hSB2 k1 k2).grow g3, ?_⟩
    try simp -dsimp only [↓RE, ↓c_seq, RU, RL, if_true, if_false, forall_const, implies_true, Nat.reduceLeDiff, Nat.reduceLT, pureOp, binPure, intBin, strBin, eqPure, isConstO, unPure, sliceLo, sliceHi, slicePure, lenPure, minPure, maxPure, buildP, resK, endV, yieldE, ↓reduceIte, Nat.reduceEqDiff, reduceCtorEq, Nat.reduceAdd, Nat.reduceMul, Nat.reduceSub, Int.reduceLT, Int.reduceLE, Int.reduceToNat, Int.reduceAdd, Int.reduceSub, Int.reduceMul, ne_eq, decide_true, decide_false, tf18, he0, he1, eq_self]
    exact fin e gd k1 (k2.then_grow g3) hR2 (hM2.grow g3)
  have n5 := hk
  clear hk
  try simp -dsimp only [↓RE, ↓c_seq, RU, RL, if_true, if_false, forall_const, implies_true, Nat.reduceLeDiff, Nat.reduceLT, pureOp, binPure, intBin, strBin, eqPure, isConstO, unPure, sliceLo, sliceHi, slicePure, lenPure, minPure, maxPure, buildP, resK, endV, yieldE, ↓reduceIte, Nat.reduceEqDiff, reduceCtorEq, Nat.reduceAdd, Nat.reduceMul, Nat.reduceSub, Int.reduceLT, Int.reduceLE, Int.reduceToNat, Int.reduceAdd, Int.reduceSub, Int.reduceMul, ne_eq, decide_true, decide_false, tf18, he0, he1, hwa, hB.cell]
  refine ⟨fun hk => ?_, fun hk => ?_⟩
  · have e : rd o s = (rBits o.b s).1 := by unfold rd; rw [if_neg n0, if_neg n1, if_neg n2, if_neg n3, if_neg n4, if_neg n5, if_pos hk]
    try simp -dsimp only [↓RE, ↓c_seq, RU, RL, if_true, if_false, forall_const, implies_true, Nat.reduceLeDiff, Nat.reduceLT, pureOp, binPure, intBin, strBin, eqPure, isConstO, unPure, sliceLo, sliceHi, slicePure, lenPure, minPure, maxPure, buildP, resK, endV, yieldE, ↓reduceIte, Nat.reduceEqDiff, reduceCtorEq, Nat.reduceAdd, Nat.reduceMul, Nat.reduceSub, Int.reduceLT, Int.reduceLE, Int.reduceToNat, Int.reduceAdd, Int.reduceSub, Int.reduceMul, ne_eq, decide_true, decide_false, tf18, he0, he1, hwa]
    refine wpDraw_by (fun w0 => Blk w0 w.heap.size 49 [.int .i64 o.k, .int .u64 o.n, .int .i64 o.b, .slice o.A o.m o.c]) [(0, true), (1, true), (2, true), (4, true), (5, true), (6, true), (3, false), (7, false), (8, true), (9, true)] (by kernel_rfl) (by have hx := hBd; rw [← hwd, ← hwa] at hx; exact hx) ?_
    simp only [planL, List.getElem?_toArray, List.getElem?_cons_zero, List.getElem?_cons_succ, Option.toList_some, List.map_cons, List.map_nil, List.cons_append, List.nil_append]
    try simp -dsimp only [↓RE, ↓c_seq, RU, RL, if_true, if_false, forall_const, implies_true, Nat.reduceLeDiff, Nat.reduceLT, pureOp, binPure, intBin, strBin, eqPure, isConstO, unPure, sliceLo, sliceHi, slicePure, lenPure, minPure, maxPure, buildP, resK, endV, yieldE, ↓reduceIte, Nat.reduceEqDiff, reduceCtorEq, Nat.reduceAdd, Nat.reduceMul, Nat.reduceSub, Int.reduceLT, Int.reduceLE, Int.reduceToNat, Int.reduceAdd, Int.reduceSub, Int.reduceMul, ne_eq, decide_true, decide_false, tf18, he0, he1, hwa, hwd]
    refine ⟨_, fun w' hS => Blk.cell hS 2, ?_⟩
    try simp -dsimp only [↓RE, ↓c_seq, RU, RL, if_true, if_false, forall_const, implies_true, Nat.reduceLeDiff, Nat.reduceLT, pureOp, binPure, intBin, strBin, eqPure, isConstO, unPure, sliceLo, sliceHi, slicePure, lenPure, minPure, maxPure, buildP, resK, endV, yieldE, ↓reduceIte, Nat.reduceEqDiff, reduceCtorEq, Nat.reduceAdd, Nat.reduceMul, Nat.reduceSub, Int.reduceLT, Int.reduceLE, Int.reduceToNat, Int.reduceAdd, Int.reduceSub, Int.reduceMul, ne_eq, decide_true, decide_false, tf18, he0, he1, hwa, hwd]
    refine ⟨_, fun w' hS => Blk.cell hS 2, ?_⟩
    try simp -dsimp only [↓RE, ↓c_seq, RU, RL, if_true, if_false, forall_const, implies_true, Nat.reduceLeDiff, Nat.reduceLT, pureOp, binPure, intBin, strBin, eqPure, isConstO, unPure, sliceLo, sliceHi, slicePure, lenPure, minPure, maxPure, buildP, resK, endV, yieldE, ↓reduceIte, Nat.reduceEqDiff, reduceCtorEq, Nat.reduceAdd, Nat.reduceMul, Nat.reduceSub, Int.reduceLT, Int.reduceLE, Int.reduceToNat, Int.reduceAdd, Int.reduceSub, Int.reduceMul, ne_eq, decide_true, decide_false, tf18, he0, he1, hwa, hwd]
    refine bitsR_ok hRd ok ob0 ob1 (fun w1 hR2 k1 => ?_)
    try simp -dsimp only [↓RE, ↓c_seq, RU, RL, if_true, if_false, forall_const, implies_true, Nat.reduceLeDiff, Nat.reduceLT, pureOp, binPure, intBin, strBin, eqPure, isConstO, unPure, sliceLo, sliceHi, slicePure, lenPure, minPure, maxPure, buildP, resK, endV, yieldE, ↓reduceIte, Nat.reduceEqDiff, reduceCtorEq, Nat.reduceAdd, Nat.reduceMul, Nat.reduceSub, Int.reduceLT, Int.reduceLE, Int.reduceToNat, Int.reduceAdd, Int.reduceSub, Int.reduceMul, ne_eq, decide_true, decide_false, tf18, he0, he1]
    refine ⟨hSB k1, ?_⟩
    try simp -dsimp only [↓RE, ↓c_seq, RU, RL, if_true, if_false, forall_const, implies_true, Nat.reduceLeDiff, Nat.reduceLT, pureOp, binPure, intBin, strBin, eqPure, isConstO, unPure, sliceLo, sliceHi, slicePure, lenPure, minPure, maxPure, buildP, resK, endV, yieldE, ↓reduceIte, Nat.reduceEqDiff, reduceCtorEq, Nat.reduceAdd, Nat.reduceMul, Nat.reduceSub, Int.reduceLT, Int.reduceLE, Int.reduceToNat, Int.reduceAdd, Int.reduceSub, Int.reduceMul, ne_eq, decide_true, decide_false, tf18, he0, he1]
    refine rrbits_ok (mk hMd k1) ok fo (fun w2 hM2 k2 => ?_)
    try simp -dsimp only [↓RE, ↓c_seq, RU, RL, if_true, if_false, forall_const, implies_true, Nat.reduceLeDiff, Nat.reduceLT, pureOp, binPure, intBin, strBin, eqPure, isConstO, unPure, sliceLo, sliceHi, slicePure, lenPure, minPure, maxPure, buildP, resK, endV, yieldE, ↓reduceIte, Nat.reduceEqDiff, reduceCtorEq, Nat.reduceAdd, Nat.reduceMul, Nat.reduceSub, Int.reduceLT, Int.reduceLE, Int.reduceToNat, Int.reduceAdd, Int.reduceSub, Int.reduceMul, ne_eq, decide_true, decide_false, tf18, he0, he1, eq_self]
    refine ⟨hSB2 k1 k2, ?_⟩
    try simp -dsimp only [↓RE, ↓c_seq, RU, RL, if_true, if_false, forall_const, implies_true, Nat.reduceLeDiff, Nat.reduceLT, pureOp, binPure, intBin, strBin, eqPure, isConstO, unPure, sliceLo, sliceHi, slicePure, lenPure, minPure, maxPure, buildP, resK, endV, yieldE, ↓reduceIte, Nat.reduceEqDiff, reduceCtorEq, Nat.reduceAdd, Nat.reduceMul, Nat.reduceSub, Int.reduceLT, Int.reduceLE, Int.reduceToNat, Int.reduceAdd, Int.reduceSub, Int.reduceMul, ne_eq, decide_true, decide_false, tf18, he0, he1, eq_self]
    exact fin e gd k1 k2 hR2 hM2
  have n6 := hk
  clear hk
  try simp -dsimp only [↓RE, ↓c_seq, RU, RL, if_true, if_false, forall_const, implies_true, Nat.reduceLeDiff, Nat.reduceLT, pureOp, binPure, intBin, strBin, eqPure, isConstO, unPure, sliceLo, sliceHi, slicePure, lenPure, minPure, maxPure, buildP, resK, endV, yieldE, ↓reduceIte, Nat.reduceEqDiff, reduceCtorEq, Nat.reduceAdd, Nat.reduceMul, Nat.reduceSub, Int.reduceLT, Int.reduceLE, Int.reduceToNat, Int.reduceAdd, Int.reduceSub, Int.reduceMul, ne_eq, decide_true, decide_false, tf18, he0, he1, hwa, hB.cell]
  refine ⟨fun hk => ?_, fun hk => ?_⟩
  · have e : rd o s = (if o.n % 400 = 0 then s else rFail s (eAt o.b (o.n % 400))) := by unfold rd; rw [if_neg n0, if_neg n1, if_neg n2, if_neg n3, if_neg n4, if_neg n5, if_neg n6, if_pos hk]
    have hrm : o.n.tmod 400 = o.n % 400 := Int.tmod_eq_emod_of_nonneg on0
    have hwc : IntKind.i64.wrap (o.n % 400) = o.n % 400 := wrap_i64_in (by omega) (by omega)
    try simp -dsimp only [↓RE, ↓c_seq, RU, RL, if_true, if_false, forall_const, implies_true, Nat.reduceLeDiff, Nat.reduceLT, pureOp, binPure, intBin, strBin, eqPure, isConstO, unPure, sliceLo, sliceHi, slicePure, lenPure, minPure, maxPure, buildP, resK, endV, yieldE, ↓reduceIte, Nat.reduceEqDiff, reduceCtorEq, Nat.reduceAdd, Nat.reduceMul, Nat.reduceSub, Int.reduceLT, Int.reduceLE, Int.reduceToNat, Int.reduceAdd, Int.reduceSub, Int.reduceMul, ne_eq, decide_true, decide_false, tf18, he0, he1, hwa, hB.cell, hrm, hwc]
    refine ⟨by omega, ?_⟩
    try simp -dsimp only [↓RE, ↓c_seq, RU, RL, if_true, if_false, forall_const, implies_true, Nat.reduceLeDiff, Nat.reduceLT, pureOp, binPure, intBin, strBin, eqPure, isConstO, unPure, sliceLo, sliceHi, slicePure, lenPure, minPure, maxPure, buildP, resK, endV, yieldE, ↓reduceIte, Nat.reduceEqDiff, reduceCtorEq, Nat.reduceAdd, Nat.reduceMul, Nat.reduceSub, Int.reduceLT, Int.reduceLE, Int.reduceToNat, Int.reduceAdd, Int.reduceSub, Int.reduceMul, ne_eq, decide_true, decide_false, tf18, he0, he1, hwa, hB.cell, hrm, hwc]
    refine fatI_ok ?_
    try simp -dsimp only [↓RE, ↓c_seq, RU, RL, if_true, if_false, forall_const, implies_true, Nat.reduceLeDiff, Nat.reduceLT, pureOp, binPure, intBin, strBin, eqPure, isConstO, unPure, sliceLo, sliceHi, slicePure, lenPure, minPure, maxPure, buildP, resK, endV, yieldE, ↓reduceIte, Nat.reduceEqDiff, reduceCtorEq, Nat.reduceAdd, Nat.reduceMul, Nat.reduceSub, Int.reduceLT, Int.reduceLE, Int.reduceToNat, Int.reduceAdd, Int.reduceSub, Int.reduceMul, ne_eq, decide_true, decide_false, tf18, he0, he1, hwa]
    by_cases hz : o.n % 400 = 0
    · rw [if_pos hz] at e
      simp -dsimp only [hz, if_true]
      refine fail_ok hR1 (fun w1 hR2 k1 => ?_)
      rw [rFail_nil] at hR2
      have hzd : decide (o.n % 400 = 0) = true := decide_eq_true hz
      try simp -dsimp only [↓RE, ↓c_seq, RU, RL, if_true, if_false, forall_const, implies_true, Nat.reduceLeDiff, Nat.reduceLT, pureOp, binPure, intBin, strBin, eqPure, isConstO, unPure, sliceLo, sliceHi, slicePure, lenPure, minPure, maxPure, buildP, resK, endV, yieldE, ↓reduceIte, Nat.reduceEqDiff, reduceCtorEq, Nat.reduceAdd, Nat.reduceMul, Nat.reduceSub, Int.reduceLT, Int.reduceLE, Int.reduceToNat, Int.reduceAdd, Int.reduceSub, Int.reduceMul, ne_eq, decide_true, decide_false, tf18, he0, he1, hrm, hwc, hzd]
      exact fin e ga k1 (Keep.refl _ _) hR2 (mk hM1 k1)
    · rw [if_neg hz] at e
      simp -dsimp only [hz, if_false]
      refine fail_ok hR1 (fun w1 hR2 k1 => ?_)
      have hB2 := hB.keep k1 (by omega)
      have hzd : decide (o.n % 400 = 0) = false := decide_eq_false hz
      try simp -dsimp only [↓RE, ↓c_seq, RU, RL, if_true, if_false, forall_const, implies_true, Nat.reduceLeDiff, Nat.reduceLT, pureOp, binPure, intBin, strBin, eqPure, isConstO, unPure, sliceLo, sliceHi, slicePure, lenPure, minPure, maxPure, buildP, resK, endV, yieldE, ↓reduceIte, Nat.reduceEqDiff, reduceCtorEq, Nat.reduceAdd, Nat.reduceMul, Nat.reduceSub, Int.reduceLT, Int.reduceLE, Int.reduceToNat, Int.reduceAdd, Int.reduceSub, Int.reduceMul, ne_eq, decide_true, decide_false, tf18, he0, he1, hrm, hwc, hzd, hB2.cell]
      refine rat_ok hz (fun w2 g2 => ?_)
      try simp -dsimp only [↓RE, ↓c_seq, RU, RL, if_true, if_false, forall_const, implies_true, Nat.reduceLeDiff, Nat.reduceLT, pureOp, binPure, intBin, strBin, eqPure, isConstO, unPure, sliceLo, sliceHi, slicePure, lenPure, minPure, maxPure, buildP, resK, endV, yieldE, ↓reduceIte, Nat.reduceEqDiff, reduceCtorEq, Nat.reduceAdd, Nat.reduceMul, Nat.reduceSub, Int.reduceLT, Int.reduceLE, Int.reduceToNat, Int.reduceAdd, Int.reduceSub, Int.reduceMul, ne_eq, decide_true, decide_false, tf18, he0, he1]
      refine rrfail_ok (er := eAt o.b (o.n % 400)) ((mk hM1 k1).grow g2) fo (fun w3 hM3 k3 => ?_)
      try simp -dsimp only [↓RE, ↓c_seq, RU, RL, if_true, if_false, forall_const, implies_true, Nat.reduceLeDiff, Nat.reduceLT, pureOp, binPure, intBin, strBin, eqPure, isConstO, unPure, sliceLo, sliceHi, slicePure, lenPure, minPure, maxPure, buildP, resK, endV, yieldE, ↓reduceIte, Nat.reduceEqDiff, reduceCtorEq, Nat.reduceAdd, Nat.reduceMul, Nat.reduceSub, Int.reduceLT, Int.reduceLE, Int.reduceToNat, Int.reduceAdd, Int.reduceSub, Int.reduceMul, ne_eq, decide_true, decide_false, tf18, he0, he1]
      exact fin e ga k1 (g2.then k3) hR2 hM3
  · have e : rd o s = s := by unfold rd; rw [if_neg n0, if_neg n1, if_neg n2, if_neg n3, if_neg n4, if_neg n5, if_neg n6, if_neg hk]
    try simp -dsimp only [↓RE, ↓c_seq, RU, RL, if_true, if_false, forall_const, implies_true, Nat.reduceLeDiff, Nat.reduceLT, pureOp, binPure, intBin, strBin, eqPure, isConstO, unPure, sliceLo, sliceHi, slicePure, lenPure, minPure, maxPure, buildP, resK, endV, yieldE, ↓reduceIte, Nat.reduceEqDiff, reduceCtorEq, Nat.reduceAdd, Nat.reduceMul, Nat.reduceSub, Int.reduceLT, Int.reduceLE, Int.reduceToNat, Int.reduceAdd, Int.reduceSub, Int.reduceMul, ne_eq, decide_true, decide_false, tf18, he0, he1, hwa]
    exact fin e ga (Keep.refl _ _) (Keep.refl _ _) hR1 hM1

theorem reads_walk {w : World} (hL : Lay w) {A : Option Addr} {n c : Nat} {ops : List OpV} {B : Option Addr} {m d : Nat} {xs : List Int} (hB : Rd w B m 1 (xs.map (Value.int .u8))) (hx : ∀ z ∈ xs, 0 ≤ z ∧ z < 256) (hm : m ≤ 140737488355328)
    (hA : Rd w A n 4 (ops.flatMap OpV.cells)) (ho : ∀ o ∈ ops, o.Ok w) (hn : n ≤ 140737488355328) {R : VWK}
    (h : ∀ w', Grow w w' → R (.bool true) w') : CallsV Tryd.prog 5 [.slice B m d, .slice A n c] w R := by
  have hnl : n = ops.length := by
    have := hA.1.symm.trans (flat_len OpV.cells ops (cells4 ops)); omega
  have hml := hB.len1
  refine calls_of_wpC mixed Tryd.func5 rfl (by kernel_rfl) ?_
  intro e he
  have he0 := he 0
  have he1 := he 1
  simp only [List.getD_cons_zero, List.getD_cons_succ] at he0 he1
  clear he
  try simp -dsimp only [↓RE, ↓c_seq, RU, RL, if_true, if_false, forall_const, implies_true, Nat.reduceLeDiff, Nat.reduceLT, pureOp, binPure, intBin, strBin, eqPure, isConstO, unPure, sliceLo, sliceHi, slicePure, lenPure, minPure, maxPure, buildP, resK, endV, yieldE, ↓reduceIte, Nat.reduceEqDiff, reduceCtorEq, Nat.reduceAdd, Nat.reduceMul, Nat.reduceSub, Int.reduceLT, Int.reduceLE, Int.reduceToNat, Int.reduceAdd, Int.reduceSub, Int.reduceMul, ne_eq, decide_true, decide_false, tf5, he0, he1]
  refine hand_ok hB hm (fun w1 g hH1 g1 hge => ?_)
  try simp -dsimp only [↓RE, ↓c_seq, RU, RL, if_true, if_false, forall_const, implies_true, Nat.reduceLeDiff, Nat.reduceLT, pureOp, binPure, intBin, strBin, eqPure, isConstO, unPure, sliceLo, sliceHi, slicePure, lenPure, minPure, maxPure, buildP, resK, endV, yieldE, ↓reduceIte, Nat.reduceEqDiff, reduceCtorEq, Nat.reduceAdd, Nat.reduceMul, Nat.reduceSub, Int.reduceLT, Int.reduceLE, Int.reduceToNat, Int.reduceAdd, Int.reduceSub, Int.reduceMul, ne_eq, decide_true, decide_false, tf5, he0, he1]
  refine newReader_ok (handed_rd hH1 hml) (by omega) (fun w2 F1 p1 hR2 g2 hF1 => ?_)
  try simp -dsimp only [↓RE, ↓c_seq, RU, RL, if_true, if_false, forall_const, implies_true, Nat.reduceLeDiff, Nat.reduceLT, pureOp, binPure, intBin, strBin, eqPure, isConstO, unPure, sliceLo, sliceHi, slicePure, lenPure, minPure, maxPure, buildP, resK, endV, yieldE, ↓reduceIte, Nat.reduceEqDiff, reduceCtorEq, Nat.reduceAdd, Nat.reduceMul, Nat.reduceSub, Int.reduceLT, Int.reduceLE, Int.reduceToNat, Int.reduceAdd, Int.reduceSub, Int.reduceMul, ne_eq, decide_true, decide_false, tf5, he0, he1]
  refine rnewReader_ok ((hB.grow g1).grow g2) (by omega) (fun w3 F2 p2 hM3 g3 hF2 => ?_)
  have g03 := (g1.trans g2).trans g3
  have hs12 := g1.size
  have hgw : g < w1.heap.size := hH1.lt
  try simp -dsimp only [↓RE, ↓c_seq, RU, RL, if_true, if_false, forall_const, implies_true, Nat.reduceLeDiff, Nat.reduceLT, pureOp, binPure, intBin, strBin, eqPure, isConstO, unPure, sliceLo, sliceHi, slicePure, lenPure, minPure, maxPure, buildP, resK, endV, yieldE, ↓reduceIte, Nat.reduceEqDiff, reduceCtorEq, Nat.reduceAdd, Nat.reduceMul, Nat.reduceSub, Int.reduceLT, Int.reduceLE, Int.reduceToNat, Int.reduceAdd, Int.reduceSub, Int.reduceMul, ne_eq, decide_true, decide_false, tf5, he0, he1]
  refine wpLoop_intro (fun e' w' => e' 0 = .slice B m d ∧ e' 5 = .slice (some ⟨g, 0, none⟩) m (m + 9) ∧ e' 6 = .pointer (some ⟨p1, 0, none⟩) ∧ e' 7 = .pointer (some ⟨p2, 0, none⟩) ∧ e' 18 = .slice A n c ∧ e' 19 = .int .i64 n ∧
      ∃ (done rest : List OpV) (s : RS), ops = done ++ rest ∧ e' 20 = .int .i64 done.length ∧ RAt w' F1 p1 s ∧ RMAt w' F2 p2 s ∧ RSok s ∧ FOk s.fault ∧ Blk w' g 5 (handed xs) ∧ Grow w w')
    (fun e' _ => n - (envInt (e' 20)).toNat) ⟨?_, ?_, ?_, ?_, ?_, ?_, [], ops, ⟨xs, 0, 0, none⟩, rfl, ?_, hR2.grow g3, hM3, ⟨by simp, by simp, by simp, by simp only; omega, hx⟩, FOk.none, hH1.grow (g2.trans g3), g03⟩ ?_
  · simp -dsimp only [↓RE, ↓c_seq, RU, RL, if_true, if_false, forall_const, implies_true, Nat.reduceLeDiff, Nat.reduceLT, pureOp, binPure, intBin, strBin, eqPure, isConstO, unPure, sliceLo, sliceHi, slicePure, lenPure, minPure, maxPure, buildP, resK, endV, yieldE, ↓reduceIte, Nat.reduceEqDiff, reduceCtorEq, Nat.reduceAdd, Nat.reduceMul, Nat.reduceSub, Int.reduceLT, Int.reduceLE, Int.reduceToNat, Int.reduceAdd, Int.reduceSub, Int.reduceMul, ne_eq, decide_true, decide_false, tf5, he0]
  · simp -dsimp only [↓RE, ↓c_seq, RU, RL, if_true, if_false, forall_const, implies_true, Nat.reduceLeDiff, Nat.reduceLT, pureOp, binPure, intBin, strBin, eqPure, isConstO, unPure, sliceLo, sliceHi, slicePure, lenPure, minPure, maxPure, buildP, resK, endV, yieldE, ↓reduceIte, Nat.reduceEqDiff, reduceCtorEq, Nat.reduceAdd, Nat.reduceMul, Nat.reduceSub, Int.reduceLT, Int.reduceLE, Int.reduceToNat, Int.reduceAdd, Int.reduceSub, Int.reduceMul, ne_eq, decide_true, decide_false, tf5, he0]
  · simp -dsimp only [↓RE, ↓c_seq, RU, RL, if_true, if_false, forall_const, implies_true, Nat.reduceLeDiff, Nat.reduceLT, pureOp, binPure, intBin, strBin, eqPure, isConstO, unPure, sliceLo, sliceHi, slicePure, lenPure, minPure, maxPure, buildP, resK, endV, yieldE, ↓reduceIte, Nat.reduceEqDiff, reduceCtorEq, Nat.reduceAdd, Nat.reduceMul, Nat.reduceSub, Int.reduceLT, Int.reduceLE, Int.reduceToNat, Int.reduceAdd, Int.reduceSub, Int.reduceMul, ne_eq, decide_true, decide_false, tf5, he0]
  · simp -dsimp only [↓RE, ↓c_seq, RU, RL, if_true, if_false, forall_const, implies_true, Nat.reduceLeDiff, Nat.reduceLT, pureOp, binPure, intBin, strBin, eqPure, isConstO, unPure, sliceLo, sliceHi, slicePure, lenPure, minPure, maxPure, buildP, resK, endV, yieldE, ↓reduceIte, Nat.reduceEqDiff, reduceCtorEq, Nat.reduceAdd, Nat.reduceMul, Nat.reduceSub, Int.reduceLT, Int.reduceLE, Int.reduceToNat, Int.reduceAdd, Int.reduceSub, Int.reduceMul, ne_eq, decide_true, decide_false, tf5, he0]
  · simp -dsimp only [↓RE, ↓c_seq, RU, RL, if_true, if_false, forall_const, implies_true, Nat.reduceLeDiff, Nat.reduceLT, pureOp, binPure, intBin, strBin, eqPure, isConstO, unPure, sliceLo, sliceHi, slicePure, lenPure, minPure, maxPure, buildP, resK, endV, yieldE, ↓reduceIte, Nat.reduceEqDiff, reduceCtorEq, Nat.reduceAdd, Nat.reduceMul, Nat.reduceSub, Int.reduceLT, Int.reduceLE, Int.reduceToNat, Int.reduceAdd, Int.reduceSub, Int.reduceMul, ne_eq, decide_true, decide_false, tf5, he1]
  · simp -dsimp only [↓RE, ↓c_seq, RU, RL, if_true, if_false, forall_const, implies_true, Nat.reduceLeDiff, Nat.reduceLT, pureOp, binPure, intBin, strBin, eqPure, isConstO, unPure, sliceLo, sliceHi, slicePure, lenPure, minPure, maxPure, buildP, resK, endV, yieldE, ↓reduceIte, Nat.reduceEqDiff, reduceCtorEq, Nat.reduceAdd, Nat.reduceMul, Nat.reduceSub, Int.reduceLT, Int.reduceLE, Int.reduceToNat, Int.reduceAdd, Int.reduceSub, Int.reduceMul, ne_eq, decide_true, decide_false, tf5, he1]
  · simp -dsimp only [↓RE, ↓c_seq, RU, RL, if_true, if_false, forall_const, implies_true, Nat.reduceLeDiff, Nat.reduceLT, pureOp, binPure, intBin, strBin, eqPure, isConstO, unPure, sliceLo, sliceHi, slicePure, lenPure, minPure, maxPure, buildP, resK, endV, yieldE, ↓reduceIte, Nat.reduceEqDiff, reduceCtorEq, Nat.reduceAdd, Nat.reduceMul, Nat.reduceSub, Int.reduceLT, Int.reduceLE, Int.reduceToNat, Int.reduceAdd, Int.reduceSub, Int.reduceMul, ne_eq, decide_true, decide_false, tf5, he0, Int.cast_ofNat_Int]
  have hd : ∀ k, F1 k → ¬ F2 k := fun k h1 h2 => absurd (hR2.lt k h1) (by have := hF2 k h2; omega)
  have hp1 : w1.heap.size ≤ p1 := hF1 p1 hR2.at
  have hp2 : w2.heap.size ≤ p2 := hF2 p2 hM3.place
  have hs2 := g2.size
  rintro e' w' ⟨h0, h5, h6, h7, h18, h19, done, rest, s, hops, h20, hR, hM, ok, fo, hH, hg⟩
  have hnd : n = done.length + rest.length := by rw [hnl, hops, List.length_append]
  rw [c_seq]
  simp -dsimp only [↓RE, RU, RL, if_true, if_false, forall_const, implies_true, Nat.reduceLeDiff, Nat.reduceLT, pureOp, binPure, intBin, strBin, eqPure, isConstO, unPure, sliceLo, sliceHi, slicePure, lenPure, minPure, maxPure, buildP, resK, endV, yieldE, ↓reduceIte, Nat.reduceEqDiff, reduceCtorEq, Nat.reduceAdd, Nat.reduceMul, Nat.reduceSub, Int.reduceLT, Int.reduceLE, Int.reduceToNat, Int.reduceAdd, Int.reduceSub, Int.reduceMul, ne_eq, decide_true, decide_false, tf5, h0, h5, h6, h7, h18, h19, h20]
  rw [c_seq]
  simp -dsimp only [↓RE, RU, RL, if_true, if_false, forall_const, implies_true, Nat.reduceLeDiff, Nat.reduceLT, pureOp, binPure, intBin, strBin, eqPure, isConstO, unPure, sliceLo, sliceHi, slicePure, lenPure, minPure, maxPure, buildP, resK, endV, yieldE, ↓reduceIte, Nat.reduceEqDiff, reduceCtorEq, Nat.reduceAdd, Nat.reduceMul, Nat.reduceSub, Int.reduceLT, Int.reduceLE, Int.reduceToNat, Int.reduceAdd, Int.reduceSub, Int.reduceMul, ne_eq, decide_true, decide_false, tf5, h0, h5, h6, h7, h18, h19, h20]
  refine ⟨fun hlt => ?_, fun hge => ?_⟩
  · obtain ⟨o, rest, rfl⟩ : ∃ o r, rest = o :: r := by
      cases rest with
      | nil => simp at hnd; omega
      | cons o r => exact ⟨o, r, rfl⟩
    have hmem : o ∈ ops := by rw [hops]; simp
    have hget : ops[done.length]? = some o := by rw [hops]; simp
    obtain ⟨hkn, ad, rfl, hc⟩ := (hA.grow hg).flat (cells4 ops) hget (by omega)
    have hoo := (ho o hmem).keep hg (fun _ _ _ h => h)
    try simp -dsimp only [↓RE, ↓c_seq, RU, RL, if_true, if_false, forall_const, implies_true, Nat.reduceLeDiff, Nat.reduceLT, pureOp, binPure, intBin, strBin, eqPure, isConstO, unPure, sliceLo, sliceHi, slicePure, lenPure, minPure, maxPure, buildP, resK, endV, yieldE, ↓reduceIte, Nat.reduceEqDiff, reduceCtorEq, Nat.reduceAdd, Nat.reduceMul, Nat.reduceSub, Int.reduceLT, Int.reduceLE, Int.reduceToNat, Int.reduceAdd, Int.reduceSub, Int.reduceMul, ne_eq, decide_true, decide_false, tf5, h0, h5, h6, h7, h18, h19, h20]
    refine ⟨⟨by omega, by omega⟩, o.cells, rfl, hc, ?_⟩
    try simp -dsimp only [↓RE, ↓c_seq, RU, RL, if_true, if_false, forall_const, implies_true, Nat.reduceLeDiff, Nat.reduceLT, pureOp, binPure, intBin, strBin, eqPure, isConstO, unPure, sliceLo, sliceHi, slicePure, lenPure, minPure, maxPure, buildP, resK, endV, yieldE, ↓reduceIte, Nat.reduceEqDiff, reduceCtorEq, Nat.reduceAdd, Nat.reduceMul, Nat.reduceSub, Int.reduceLT, Int.reduceLE, Int.reduceToNat, Int.reduceAdd, Int.reduceSub, Int.reduceMul, ne_eq, decide_true, decide_false, tf5, h0, h5, h6, h7, h18, h19, h20]
    have hz0 := Blk.new' w' 49 #[.int .i64 0, .int .u64 0, .int .i64 0, .slice none 0 0]
    have ga := Grow.alloc w' (.cells #[.int .i64 0, .int .u64 0, .int .i64 0, .slice none 0 0] 49)
    refine ⟨rfl, hz0.stAgg (by simp [OpV.cells]) (by simp [OpV.cells, Value.oneCell']) (fun w4 hB4 hK4 => ?_)⟩
    have hB4 : Blk w4 w'.heap.size 49 o.cells := by simpa [OpV.cells] using hB4
    have g4 : Grow w' w4 := ga.above hK4 (fun i hi e => by omega)
    try simp -dsimp only [↓RE, ↓c_seq, RU, RL, if_true, if_false, forall_const, implies_true, Nat.reduceLeDiff, Nat.reduceLT, pureOp, binPure, intBin, strBin, eqPure, isConstO, unPure, sliceLo, sliceHi, slicePure, lenPure, minPure, maxPure, buildP, resK, endV, yieldE, ↓reduceIte, Nat.reduceEqDiff, reduceCtorEq, Nat.reduceAdd, Nat.reduceMul, Nat.reduceSub, Int.reduceLT, Int.reduceLE, Int.reduceToNat, Int.reduceAdd, Int.reduceSub, Int.reduceMul, ne_eq, decide_true, decide_false, tf5, h0, h5, h6, h7, h18, h19, h20]
    refine hB4.aggK (by simp [OpV.cells]) ?_
    try simp -dsimp only [↓RE, ↓c_seq, RU, RL, if_true, if_false, forall_const, implies_true, Nat.reduceLeDiff, Nat.reduceLT, pureOp, binPure, intBin, strBin, eqPure, isConstO, unPure, sliceLo, sliceHi, slicePure, lenPure, minPure, maxPure, buildP, resK, endV, yieldE, ↓reduceIte, Nat.reduceEqDiff, reduceCtorEq, Nat.reduceAdd, Nat.reduceMul, Nat.reduceSub, Int.reduceLT, Int.reduceLE, Int.reduceToNat, Int.reduceAdd, Int.reduceSub, Int.reduceMul, ne_eq, decide_true, decide_false, tf5, h0, h5, h6, h7, h18, h19, h20]
    rw [List.drop_zero, List.take_of_length_le (by simp [OpV.cells])]
    refine read_ok (hR.grow g4) (hM.grow g4) hd ok fo (hoo.keep g4 (fun _ _ _ h => h)) (fun w5 hR5 hM5 k5 => ?_)
    have ok5 := rd_ok (o := o) ok
    have fo5 := rd_fok (o := o) fo
    have g5 : Grow w w5 := (hg.trans g4).above k5 (fun i hi e => by omega)
    have hH5 := (hH.grow g4).keep k5 (by omega)
    generalize rd o s = s5 at hR5 hM5 ok5 fo5
    try simp -dsimp only [↓RE, ↓c_seq, RU, RL, if_true, if_false, forall_const, implies_true, Nat.reduceLeDiff, Nat.reduceLT, pureOp, binPure, intBin, strBin, eqPure, isConstO, unPure, sliceLo, sliceHi, slicePure, lenPure, minPure, maxPure, buildP, resK, endV, yieldE, ↓reduceIte, Nat.reduceEqDiff, reduceCtorEq, Nat.reduceAdd, Nat.reduceMul, Nat.reduceSub, Int.reduceLT, Int.reduceLE, Int.reduceToNat, Int.reduceAdd, Int.reduceSub, Int.reduceMul, ne_eq, decide_true, decide_false, tf5, h0, h5, h6, h7, h18, h19, h20]
    refine atR_ok hR5 ?_
    try simp -dsimp only [↓RE, ↓c_seq, RU, RL, if_true, if_false, forall_const, implies_true, Nat.reduceLeDiff, Nat.reduceLT, pureOp, binPure, intBin, strBin, eqPure, isConstO, unPure, sliceLo, sliceHi, slicePure, lenPure, minPure, maxPure, buildP, resK, endV, yieldE, ↓reduceIte, Nat.reduceEqDiff, reduceCtorEq, Nat.reduceAdd, Nat.reduceMul, Nat.reduceSub, Int.reduceLT, Int.reduceLE, Int.reduceToNat, Int.reduceAdd, Int.reduceSub, Int.reduceMul, ne_eq, decide_true, decide_false, tf5, h0, h5, h6, h7, h18, h19, h20]
    refine rrat_ok hM5 ?_
    try simp -dsimp only [↓RE, ↓c_seq, RU, RL, if_true, if_false, forall_const, implies_true, Nat.reduceLeDiff, Nat.reduceLT, pureOp, binPure, intBin, strBin, eqPure, isConstO, unPure, sliceLo, sliceHi, slicePure, lenPure, minPure, maxPure, buildP, resK, endV, yieldE, ↓reduceIte, Nat.reduceEqDiff, reduceCtorEq, Nat.reduceAdd, Nat.reduceMul, Nat.reduceSub, Int.reduceLT, Int.reduceLE, Int.reduceToNat, Int.reduceAdd, Int.reduceSub, Int.reduceMul, ne_eq, decide_true, decide_false, tf5, h0, h5, h6, h7, h18, h19, h20, eq_self]
    refine left_ok hR5 ok5 (fun w6 g6 => ?_)
    try simp -dsimp only [↓RE, ↓c_seq, RU, RL, if_true, if_false, forall_const, implies_true, Nat.reduceLeDiff, Nat.reduceLT, pureOp, binPure, intBin, strBin, eqPure, isConstO, unPure, sliceLo, sliceHi, slicePure, lenPure, minPure, maxPure, buildP, resK, endV, yieldE, ↓reduceIte, Nat.reduceEqDiff, reduceCtorEq, Nat.reduceAdd, Nat.reduceMul, Nat.reduceSub, Int.reduceLT, Int.reduceLE, Int.reduceToNat, Int.reduceAdd, Int.reduceSub, Int.reduceMul, ne_eq, decide_true, decide_false, tf5, h0, h5, h6, h7, h18, h19, h20]
    refine rrleft_ok (hM5.grow g6) ok5 (fun w7 g7 => ?_)
    try simp -dsimp only [↓RE, ↓c_seq, RU, RL, if_true, if_false, forall_const, implies_true, Nat.reduceLeDiff, Nat.reduceLT, pureOp, binPure, intBin, strBin, eqPure, isConstO, unPure, sliceLo, sliceHi, slicePure, lenPure, minPure, maxPure, buildP, resK, endV, yieldE, ↓reduceIte, Nat.reduceEqDiff, reduceCtorEq, Nat.reduceAdd, Nat.reduceMul, Nat.reduceSub, Int.reduceLT, Int.reduceLE, Int.reduceToNat, Int.reduceAdd, Int.reduceSub, Int.reduceMul, ne_eq, decide_true, decide_false, tf5, h0, h5, h6, h7, h18, h19, h20, eq_self]
    refine faultR_ok ((hR5.grow g6).grow g7) ?_
    try simp -dsimp only [↓RE, ↓c_seq, RU, RL, if_true, if_false, forall_const, implies_true, Nat.reduceLeDiff, Nat.reduceLT, pureOp, binPure, intBin, strBin, eqPure, isConstO, unPure, sliceLo, sliceHi, slicePure, lenPure, minPure, maxPure, buildP, resK, endV, yieldE, ↓reduceIte, Nat.reduceEqDiff, reduceCtorEq, Nat.reduceAdd, Nat.reduceMul, Nat.reduceSub, Int.reduceLT, Int.reduceLE, Int.reduceToNat, Int.reduceAdd, Int.reduceSub, Int.reduceMul, ne_eq, decide_true, decide_false, tf5, h0, h5, h6, h7, h18, h19, h20]
    refine rrfault_ok ((hM5.grow g6).grow g7) (fun w8 g8 => ?_)
    obtain ⟨er1, er2, er3⟩ := fo5.er
    rw [er1, er2]
    try simp -dsimp only [↓RE, ↓c_seq, RU, RL, if_true, if_false, forall_const, implies_true, Nat.reduceLeDiff, Nat.reduceLT, pureOp, binPure, intBin, strBin, eqPure, isConstO, unPure, sliceLo, sliceHi, slicePure, lenPure, minPure, maxPure, buildP, resK, endV, yieldE, ↓reduceIte, Nat.reduceEqDiff, reduceCtorEq, Nat.reduceAdd, Nat.reduceMul, Nat.reduceSub, Int.reduceLT, Int.reduceLE, Int.reduceToNat, Int.reduceAdd, Int.reduceSub, Int.reduceMul, ne_eq, decide_true, decide_false, tf5, h0, h5, h6, h7, h18, h19, h20]
    have g58 := (g6.trans g7).trans g8
    refine same_err (hL.grow (g5.trans g58)) er3 (fun w9 g9 => ?_)
    have g59 := g58.trans g9
    try simp -dsimp only [↓RE, ↓c_seq, RU, RL, if_true, if_false, forall_const, implies_true, Nat.reduceLeDiff, Nat.reduceLT, pureOp, binPure, intBin, strBin, eqPure, isConstO, unPure, sliceLo, sliceHi, slicePure, lenPure, minPure, maxPure, buildP, resK, endV, yieldE, ↓reduceIte, Nat.reduceEqDiff, reduceCtorEq, Nat.reduceAdd, Nat.reduceMul, Nat.reduceSub, Int.reduceLT, Int.reduceLE, Int.reduceToNat, Int.reduceAdd, Int.reduceSub, Int.reduceMul, ne_eq, decide_true, decide_false, tf5, h0, h5, h6, h7, h18, h19, h20]
    refine hold_intro ⟨⟨?_, ?_, ?_, ?_, ?_, ?_, done ++ [o], rest, s5, by rw [hops]; simp, ?_, hR5.grow g59, hM5.grow g59, ok5, fo5, hH5.grow g59, g5.trans g59⟩, ?_⟩
    · simp -dsimp only [↓RE, ↓c_seq, RU, RL, if_true, if_false, forall_const, implies_true, Nat.reduceLeDiff, Nat.reduceLT, pureOp, binPure, intBin, strBin, eqPure, isConstO, unPure, sliceLo, sliceHi, slicePure, lenPure, minPure, maxPure, buildP, resK, endV, yieldE, ↓reduceIte, Nat.reduceEqDiff, reduceCtorEq, Nat.reduceAdd, Nat.reduceMul, Nat.reduceSub, Int.reduceLT, Int.reduceLE, Int.reduceToNat, Int.reduceAdd, Int.reduceSub, Int.reduceMul, ne_eq, decide_true, decide_false, tf5, h0]
    · simp -dsimp only [↓RE, ↓c_seq, RU, RL, if_true, if_false, forall_const, implies_true, Nat.reduceLeDiff, Nat.reduceLT, pureOp, binPure, intBin, strBin, eqPure, isConstO, unPure, sliceLo, sliceHi, slicePure, lenPure, minPure, maxPure, buildP, resK, endV, yieldE, ↓reduceIte, Nat.reduceEqDiff, reduceCtorEq, Nat.reduceAdd, Nat.reduceMul, Nat.reduceSub, Int.reduceLT, Int.reduceLE, Int.reduceToNat, Int.reduceAdd, Int.reduceSub, Int.reduceMul, ne_eq, decide_true, decide_false, tf5, h5]
    · simp -dsimp only [↓RE, ↓c_seq, RU, RL, if_true, if_false, forall_const, implies_true, Nat.reduceLeDiff, Nat.reduceLT, pureOp, binPure, intBin, strBin, eqPure, isConstO, unPure, sliceLo, sliceHi, slicePure, lenPure, minPure, maxPure, buildP, resK, endV, yieldE, ↓reduceIte, Nat.reduceEqDiff, reduceCtorEq, Nat.reduceAdd, Nat.reduceMul, Nat.reduceSub, Int.reduceLT, Int.reduceLE, Int.reduceToNat, Int.reduceAdd, Int.reduceSub, Int.reduceMul, ne_eq, decide_true, decide_false, tf5, h6]
    · simp -dsimp only [↓RE, ↓c_seq, RU, RL, if_true, if_false, forall_const, implies_true, Nat.reduceLeDiff, Nat.reduceLT, pureOp, binPure, intBin, strBin, eqPure, isConstO, unPure, sliceLo, sliceHi, slicePure, lenPure, minPure, maxPure, buildP, resK, endV, yieldE, ↓reduceIte, Nat.reduceEqDiff, reduceCtorEq, Nat.reduceAdd, Nat.reduceMul, Nat.reduceSub, Int.reduceLT, Int.reduceLE, Int.reduceToNat, Int.reduceAdd, Int.reduceSub, Int.reduceMul, ne_eq, decide_true, decide_false, tf5, h7]
    · simp -dsimp only [↓RE, ↓c_seq, RU, RL, if_true, if_false, forall_const, implies_true, Nat.reduceLeDiff, Nat.reduceLT, pureOp, binPure, intBin, strBin, eqPure, isConstO, unPure, sliceLo, sliceHi, slicePure, lenPure, minPure, maxPure, buildP, resK, endV, yieldE, ↓reduceIte, Nat.reduceEqDiff, reduceCtorEq, Nat.reduceAdd, Nat.reduceMul, Nat.reduceSub, Int.reduceLT, Int.reduceLE, Int.reduceToNat, Int.reduceAdd, Int.reduceSub, Int.reduceMul, ne_eq, decide_true, decide_false, tf5, h18]
    · simp -dsimp only [↓RE, ↓c_seq, RU, RL, if_true, if_false, forall_const, implies_true, Nat.reduceLeDiff, Nat.reduceLT, pureOp, binPure, intBin, strBin, eqPure, isConstO, unPure, sliceLo, sliceHi, slicePure, lenPure, minPure, maxPure, buildP, resK, endV, yieldE, ↓reduceIte, Nat.reduceEqDiff, reduceCtorEq, Nat.reduceAdd, Nat.reduceMul, Nat.reduceSub, Int.reduceLT, Int.reduceLE, Int.reduceToNat, Int.reduceAdd, Int.reduceSub, Int.reduceMul, ne_eq, decide_true, decide_false, tf5, h19]
    · simp -dsimp only [↓RE, ↓c_seq, RU, RL, if_true, if_false, forall_const, implies_true, Nat.reduceLeDiff, Nat.reduceLT, pureOp, binPure, intBin, strBin, eqPure, isConstO, unPure, sliceLo, sliceHi, slicePure, lenPure, minPure, maxPure, buildP, resK, endV, yieldE, ↓reduceIte, Nat.reduceEqDiff, reduceCtorEq, Nat.reduceAdd, Nat.reduceMul, Nat.reduceSub, Int.reduceLT, Int.reduceLE, Int.reduceToNat, Int.reduceAdd, Int.reduceSub, Int.reduceMul, ne_eq, decide_true, decide_false, tf5, h20]
      rw [wrap_i64_in (by omega) (by omega)]; simp
    · simp -dsimp only [↓RE, ↓c_seq, RU, RL, if_true, if_false, forall_const, implies_true, Nat.reduceLeDiff, Nat.reduceLT, pureOp, binPure, intBin, strBin, eqPure, isConstO, unPure, sliceLo, sliceHi, slicePure, lenPure, minPure, maxPure, buildP, resK, endV, yieldE, ↓reduceIte, Nat.reduceEqDiff, reduceCtorEq, Nat.reduceAdd, Nat.reduceMul, Nat.reduceSub, Int.reduceLT, Int.reduceLE, Int.reduceToNat, Int.reduceAdd, Int.reduceSub, Int.reduceMul, ne_eq, decide_true, decide_false, tf5, h20]
      rw [wrap_i64_in (by omega) (by omega), envInt_int, envInt_int]; omega
  · try simp -dsimp only [↓RE, ↓c_seq, RU, RL, if_true, if_false, forall_const, implies_true, Nat.reduceLeDiff, Nat.reduceLT, pureOp, binPure, intBin, strBin, eqPure, isConstO, unPure, sliceLo, sliceHi, slicePure, lenPure, minPure, maxPure, buildP, resK, endV, yieldE, ↓reduceIte, Nat.reduceEqDiff, reduceCtorEq, Nat.reduceAdd, Nat.reduceMul, Nat.reduceSub, Int.reduceLT, Int.reduceLE, Int.reduceToNat, Int.reduceAdd, Int.reduceSub, Int.reduceMul, ne_eq, decide_true, decide_false, tf5, h0, h5, h6, h7, h18, h19, h20]
    refine live_ok (fun w5 g5 => ?_)
    try simp -dsimp only [↓RE, ↓c_seq, RU, RL, if_true, if_false, forall_const, implies_true, Nat.reduceLeDiff, Nat.reduceLT, pureOp, binPure, intBin, strBin, eqPure, isConstO, unPure, sliceLo, sliceHi, slicePure, lenPure, minPure, maxPure, buildP, resK, endV, yieldE, ↓reduceIte, Nat.reduceEqDiff, reduceCtorEq, Nat.reduceAdd, Nat.reduceMul, Nat.reduceSub, Int.reduceLT, Int.reduceLE, Int.reduceToNat, Int.reduceAdd, Int.reduceSub, Int.reduceMul, ne_eq, decide_true, decide_false, tf5, h0, h5, h6, h7, h18, h19, h20]
    refine doneR_ok (hR.grow g5) ok (fun w6 g6 => ?_)
    try simp -dsimp only [↓RE, ↓c_seq, RU, RL, if_true, if_false, forall_const, implies_true, Nat.reduceLeDiff, Nat.reduceLT, pureOp, binPure, intBin, strBin, eqPure, isConstO, unPure, sliceLo, sliceHi, slicePure, lenPure, minPure, maxPure, buildP, resK, endV, yieldE, ↓reduceIte, Nat.reduceEqDiff, reduceCtorEq, Nat.reduceAdd, Nat.reduceMul, Nat.reduceSub, Int.reduceLT, Int.reduceLE, Int.reduceToNat, Int.reduceAdd, Int.reduceSub, Int.reduceMul, ne_eq, decide_true, decide_false, tf5, h0, h5, h6, h7, h18, h19, h20]
    refine rrdone_ok ((hM.grow g5).grow g6) ok fo (fun w7 g7 => ?_)
    obtain ⟨er1, er2, er3⟩ := (rDone_fok fo).er
    rw [er1, er2]
    have g57 := (g5.trans g6).trans g7
    try simp -dsimp only [↓RE, ↓c_seq, RU, RL, if_true, if_false, forall_const, implies_true, Nat.reduceLeDiff, Nat.reduceLT, pureOp, binPure, intBin, strBin, eqPure, isConstO, unPure, sliceLo, sliceHi, slicePure, lenPure, minPure, maxPure, buildP, resK, endV, yieldE, ↓reduceIte, Nat.reduceEqDiff, reduceCtorEq, Nat.reduceAdd, Nat.reduceMul, Nat.reduceSub, Int.reduceLT, Int.reduceLE, Int.reduceToNat, Int.reduceAdd, Int.reduceSub, Int.reduceMul, ne_eq, decide_true, decide_false, tf5, h0, h5, h6, h7, h18, h19, h20]
    refine same_err (hL.grow (hg.trans g57)) er3 (fun w8 g8 => ?_)
    try simp -dsimp only [↓RE, ↓c_seq, RU, RL, if_true, if_false, forall_const, implies_true, Nat.reduceLeDiff, Nat.reduceLT, pureOp, binPure, intBin, strBin, eqPure, isConstO, unPure, sliceLo, sliceHi, slicePure, lenPure, minPure, maxPure, buildP, resK, endV, yieldE, ↓reduceIte, Nat.reduceEqDiff, reduceCtorEq, Nat.reduceAdd, Nat.reduceMul, Nat.reduceSub, Int.reduceLT, Int.reduceLE, Int.reduceToNat, Int.reduceAdd, Int.reduceSub, Int.reduceMul, ne_eq, decide_true, decide_false, tf5, h0, h5, h6, h7, h18, h19, h20]
    have gg := hg.trans (g57.trans g8)
    refine kept_ok (hH.grow (g57.trans g8)) (hB.grow gg) hm (fun w9 g9 => ?_)
    try simp -dsimp only [↓RE, ↓c_seq, RU, RL, if_true, if_false, forall_const, implies_true, Nat.reduceLeDiff, Nat.reduceLT, pureOp, binPure, intBin, strBin, eqPure, isConstO, unPure, sliceLo, sliceHi, slicePure, lenPure, minPure, maxPure, buildP, resK, endV, yieldE, ↓reduceIte, Nat.reduceEqDiff, reduceCtorEq, Nat.reduceAdd, Nat.reduceMul, Nat.reduceSub, Int.reduceLT, Int.reduceLE, Int.reduceToNat, Int.reduceAdd, Int.reduceSub, Int.reduceMul, ne_eq, decide_true, decide_false, tf5, h0, h5, h6, h7, h18, h19, h20]
    exact h w9 (gg.trans g9)

end Go.Proofs.YtcjlhfmjcioeeaaDoor
