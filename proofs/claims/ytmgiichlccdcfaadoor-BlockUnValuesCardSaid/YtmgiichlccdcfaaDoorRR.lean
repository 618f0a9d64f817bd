
/- The document's Reader: its contracts, in the same plain terms as the program's. -/
import Derived.Test.YtmgiichlccdcfaaDoorRseal
import Derived.Test.YtmgiichlccdcfaaDoorRload
import Derived.Test.YtmgiichlccdcfaaDoorBitsR
set_option linter.unusedVariables false
set_option linter.unusedSimpArgs false
set_option maxRecDepth 100000
namespace Go.Proofs.YtmgiichlccdcfaaDoor
open Go

def eAt (p e : Int) : Option (TypeId × Value) := some (80, .agg #[.int .i64 p, .iface 28 (.int .i64 e)])
theorem errAt_eAt (p : Nat) (e : Int) : errAt p e = eAt p e := rfl
def badF : Option (TypeId × Value) → BadV
  | some (_, .agg cs) => match cs.toList with
    | [.int _ p, .iface _ (.int _ e)] => ⟨e, p, 0, true, false⟩
    | _ => BadV.none
  | _ => BadV.none
theorem badF_at (p e : Int) : badF (eAt p e) = ⟨e, p, 0, true, false⟩ := rfl
theorem badF_none : badF none = BadV.none := rfl
def FOk (f : Option (TypeId × Value)) : Prop := f = none ∨ ∃ p e : Int, e ≠ 0 ∧ f = eAt p e
theorem FOk.none : FOk none := .inl rfl
theorem FOk.err {p : Nat} {e : Int} (h : e ≠ 0) : FOk (errAt p e) := .inr ⟨p, e, h, rfl⟩
theorem FOk.code {f : Option (TypeId × Value)} (h : FOk f) : (badF f).code = 0 ↔ f = Option.none := by
  rcases h with rfl | ⟨p, e, he, rfl⟩
  · exact ⟨fun _ => rfl, fun _ => rfl⟩
  · exact ⟨fun h => absurd h he, fun h => by cases h⟩
theorem FOk.fail {s : RS} {e : Option (TypeId × Value)} (h : FOk s.fault) (he : FOk e) : FOk (rFail s e).fault := by
  unfold rFail; split
  · exact he
  · exact h
def erF : Option (TypeId × Value) → Option Er
  | some (_, .agg cs) => match cs.toList with
    | [.int _ p, .iface _ (.int _ e)] => some (.pl p e)
    | _ => Option.none
  | _ => Option.none
theorem FOk.er {f : Option (TypeId × Value)} (h : FOk f) : errV f = errOf (erF f) ∧ badF f = badOf (erF f) ∧ ∀ y, erF f = some y → y.code ≠ 0 := by
  rcases h with rfl | ⟨p, e, he, rfl⟩
  · exact ⟨rfl, rfl, fun y h => by cases h⟩
  · exact ⟨rfl, rfl, fun y h => by injection h with h; subst h; exact he⟩

/-- a Reader of the document at block p. -/
def RMAt (w : World) (F : Nat → Prop) (p : Nat) (s : RS) : Prop :=
  ∃ A c, Blk w p 132 ([.slice A s.xs.length c, .int .i64 s.pos, .int .i64 s.bits] ++ (badF s.fault).cells) ∧ Rd w A s.xs.length 1 (s.xs.map (Value.int .u8)) ∧ (0 < s.xs.length → ¬ fpA A p) ∧
    s.xs.length ≤ c ∧ F = fun k => k = p ∨ (0 < s.xs.length ∧ fpA A k)
theorem RMAt.lt {w : World} {F : Nat → Prop} {p : Nat} {s : RS} (h : RMAt w F p s) : ∀ k, F k → k < w.heap.size := by
  obtain ⟨A, c, hB, hR, hp, hc, rfl⟩ := h
  rintro k (rfl | ⟨h0, hk⟩)
  · exact hB.lt
  · exact hR.lt h0 (by omega) k hk
theorem RMAt.place {w : World} {F : Nat → Prop} {p : Nat} {s : RS} (h : RMAt w F p s) : F p := by
  obtain ⟨A, c, hB, hR, hp, hc, rfl⟩ := h
  exact .inl rfl
theorem RMAt.keep {w w' : World} {F G : Nat → Prop} {p : Nat} {s : RS} (h : RMAt w F p s) (hk : Keep G w w') (hd : ∀ k, F k → ¬ G k) : RMAt w' F p s := by
  obtain ⟨A, c, hB, hR, hp, hc, rfl⟩ := h
  exact ⟨A, c, hB.keep hk (hd p (.inl rfl)), hR.keep0 hk (fun h0 k hf => hd k (.inr ⟨h0, hf⟩)), hp, hc, rfl⟩
theorem RMAt.grow {w w' : World} {F : Nat → Prop} {p : Nat} {s : RS} (h : RMAt w F p s) (hk : Grow w w') : RMAt w' F p s := h.keep hk (fun _ _ h => h)
theorem badV_one (b : BadV) : ∀ v ∈ b.cells, v.oneCell' = true := by simp [BadV.cells, Value.oneCell']

theorem rrfail_ok {w : World} {F : Nat → Prop} {p : Nat} {s : RS} (hR : RMAt w F p s) (fo : FOk s.fault) {er : Option (TypeId × Value)} {R : VWK}
    (h : ∀ w', RMAt w' F p (rFail s er) → Keep (fun k => k = p) w w' → R (.tuple #[]) w') :
    CallsV Tryd.prog 79 [.pointer (some ⟨p, 0, none⟩), (badF er).v] w R := by
  have hlt := hR.lt
  obtain ⟨A, c, hB, hRd, hp, hc, rfl⟩ := hR
  refine calls_of_wpC mixed Tryd.func79 rfl (by kernel_rfl) ?_
  intro e he
  have he0 := he 0
  have he1 := he 1
  simp only [List.getD_cons_zero, List.getD_cons_succ] at he0 he1
  clear he
  generalize hb : badF er = b at he1
  try simp -dsimp only [↓RE, ↓c_seq, RU, RL, if_true, if_false, forall_const, implies_true, Nat.reduceLeDiff, Nat.reduceLT, pureOp, binPure, intBin, strBin, eqPure, isConstO, unPure, sliceLo, sliceHi, slicePure, lenPure, minPure, maxPure, buildP, resK, endV, yieldE, ↓reduceIte, Nat.reduceEqDiff, reduceCtorEq, Nat.reduceAdd, Nat.reduceMul, Nat.reduceSub, Int.reduceLT, Int.reduceLE, Int.reduceToNat, Int.reduceAdd, Int.reduceSub, Int.reduceMul, ne_eq, decide_true, decide_false, tf79, he0, he1, BadV.v, BadV.cells]
  have hX := Blk.new' w 30 #[.int .i64 b.code, .int .i64 b.at_, .int .i64 b.ins, .bool b.placed, .bool b.numbered]
  have g1 := Grow.alloc w (.cells #[.int .i64 b.code, .int .i64 b.at_, .int .i64 b.ins, .bool b.placed, .bool b.numbered] 30)
  have hB1 := hB.grow g1
  have hc3 : (w.alloc (.cells #[.int .i64 b.code, .int .i64 b.at_, .int .i64 b.ins, .bool b.placed, .bool b.numbered] 30)).cell? ⟨p, 3, none⟩ = some (.int .i64 (badF s.fault).code) := hB1.cell 3
  have hpw : p < w.heap.size := hB.lt
  try simp -dsimp only [↓RE, ↓c_seq, RU, RL, if_true, if_false, forall_const, implies_true, Nat.reduceLeDiff, Nat.reduceLT, pureOp, binPure, intBin, strBin, eqPure, isConstO, unPure, sliceLo, sliceHi, slicePure, lenPure, minPure, maxPure, buildP, resK, endV, yieldE, ↓reduceIte, Nat.reduceEqDiff, reduceCtorEq, Nat.reduceAdd, Nat.reduceMul, Nat.reduceSub, Int.reduceLT, Int.reduceLE, Int.reduceToNat, Int.reduceAdd, Int.reduceSub, Int.reduceMul, ne_eq, decide_true, decide_false, tf79, he0, he1, hc3]
  refine ⟨fun h0 => ?_, fun h0 => ?_⟩
  · have hf : s.fault = none := fo.code.1 h0
    have hr : rFail s er = { s with fault := er } := by unfold rFail; rw [if_pos hf]
    rw [hr] at h
    try simp -dsimp only [↓RE, ↓c_seq, RU, RL, if_true, if_false, forall_const, implies_true, Nat.reduceLeDiff, Nat.reduceLT, pureOp, binPure, intBin, strBin, eqPure, isConstO, unPure, sliceLo, sliceHi, slicePure, lenPure, minPure, maxPure, buildP, resK, endV, yieldE, ↓reduceIte, Nat.reduceEqDiff, reduceCtorEq, Nat.reduceAdd, Nat.reduceMul, Nat.reduceSub, Int.reduceLT, Int.reduceLE, Int.reduceToNat, Int.reduceAdd, Int.reduceSub, Int.reduceMul, ne_eq, decide_true, decide_false, tf79, he0, he1]
    refine hX.aggK (by simp) ?_
    try simp -dsimp only [↓RE, ↓c_seq, RU, RL, if_true, if_false, forall_const, implies_true, Nat.reduceLeDiff, Nat.reduceLT, pureOp, binPure, intBin, strBin, eqPure, isConstO, unPure, sliceLo, sliceHi, slicePure, lenPure, minPure, maxPure, buildP, resK, endV, yieldE, ↓reduceIte, Nat.reduceEqDiff, reduceCtorEq, Nat.reduceAdd, Nat.reduceMul, Nat.reduceSub, Int.reduceLT, Int.reduceLE, Int.reduceToNat, Int.reduceAdd, Int.reduceSub, Int.reduceMul, ne_eq, decide_true, decide_false, tf79, he0, he1, List.drop_zero, List.take_succ_cons, List.take_zero]
    refine hB1.stAgg (by simp [BadV.cells]) (by simp [Value.oneCell']) (fun w2 hB2 hK2 => ?_)
    have hB2 : Blk w2 p 132 ([.slice A s.xs.length c, .int .i64 s.pos, .int .i64 s.bits] ++ (badF er).cells) := by rw [hb]; simpa [BadV.cells] using hB2
    try simp -dsimp only [↓RE, ↓c_seq, RU, RL, if_true, if_false, forall_const, implies_true, Nat.reduceLeDiff, Nat.reduceLT, pureOp, binPure, intBin, strBin, eqPure, isConstO, unPure, sliceLo, sliceHi, slicePure, lenPure, minPure, maxPure, buildP, resK, endV, yieldE, ↓reduceIte, Nat.reduceEqDiff, reduceCtorEq, Nat.reduceAdd, Nat.reduceMul, Nat.reduceSub, Int.reduceLT, Int.reduceLE, Int.reduceToNat, Int.reduceAdd, Int.reduceSub, Int.reduceMul, ne_eq, decide_true, decide_false, tf79, he0, he1]
    exact h w2 ⟨A, c, hB2, (hRd.grow g1).keep0 hK2 (fun h0 k hk e => hp h0 (e ▸ hk)), hp, hc, rfl⟩ (g1.then hK2)
  · have hr : rFail s er = s := by unfold rFail; rw [if_neg (fun h => h0 (fo.code.2 h))]
    rw [hr] at h
    try simp -dsimp only [↓RE, ↓c_seq, RU, RL, if_true, if_false, forall_const, implies_true, Nat.reduceLeDiff, Nat.reduceLT, pureOp, binPure, intBin, strBin, eqPure, isConstO, unPure, sliceLo, sliceHi, slicePure, lenPure, minPure, maxPure, buildP, resK, endV, yieldE, ↓reduceIte, Nat.reduceEqDiff, reduceCtorEq, Nat.reduceAdd, Nat.reduceMul, Nat.reduceSub, Int.reduceLT, Int.reduceLE, Int.reduceToNat, Int.reduceAdd, Int.reduceSub, Int.reduceMul, ne_eq, decide_true, decide_false, tf79, he0, he1]
    exact h _ ⟨A, c, hB1, hRd.grow g1, hp, hc, rfl⟩ (g1.then (Keep.refl _ _))

theorem rrest_ok {w : World} {F : Nat → Prop} {p : Nat} {s : RS} (hR : RMAt w F p s) (ok : RSok s) {R : VWK} (h : ∀ w', Grow w w' → R (.bool (!rRest s)) w') :
    CallsV Tryd.prog 81 [.pointer (some ⟨p, 0, none⟩)] w R := by
  have h8 := ok.b8
  have hle := ok.le
  have hl := ok.len
  obtain ⟨A, c, hB, hRd, hp, hc, rfl⟩ := hR
  have hcl : ∀ i, w.drew.cell? ⟨p, i, none⟩ = ([.slice A s.xs.length c, .int .i64 s.pos, .int .i64 s.bits] ++ (badF s.fault).cells)[i]? := fun i => hB.drew.cell i
  refine calls_of_wpC mixed Tryd.func81 rfl (by kernel_rfl) ?_
  intro e he
  have he0 := he 0
  simp only [List.getD_cons_zero, List.getD_cons_succ] at he0
  clear he
  try simp -dsimp only [↓RE, ↓c_seq, RU, RL, if_true, if_false, forall_const, implies_true, Nat.reduceLeDiff, Nat.reduceLT, pureOp, binPure, intBin, strBin, eqPure, isConstO, unPure, sliceLo, sliceHi, slicePure, lenPure, minPure, maxPure, buildP, resK, endV, yieldE, ↓reduceIte, Nat.reduceEqDiff, reduceCtorEq, Nat.reduceAdd, Nat.reduceMul, Nat.reduceSub, Int.reduceLT, Int.reduceLE, Int.reduceToNat, Int.reduceAdd, Int.reduceSub, Int.reduceMul, ne_eq, decide_true, decide_false, tf81, he0]
  refine wpDraw_still (by kernel_rfl) ?_
  try simp -dsimp only [↓RE, ↓c_seq, RU, RL, if_true, if_false, forall_const, implies_true, Nat.reduceLeDiff, Nat.reduceLT, pureOp, binPure, intBin, strBin, eqPure, isConstO, unPure, sliceLo, sliceHi, slicePure, lenPure, minPure, maxPure, buildP, resK, endV, yieldE, ↓reduceIte, Nat.reduceEqDiff, reduceCtorEq, Nat.reduceAdd, Nat.reduceMul, Nat.reduceSub, Int.reduceLT, Int.reduceLE, Int.reduceToNat, Int.reduceAdd, Int.reduceSub, Int.reduceMul, ne_eq, decide_true, decide_false, tf81, he0, hcl]
  refine ⟨fun h0 => ?_, fun h0 => ?_⟩
  · have hb1 : 0 < s.bits := by omega
    have hp1 := ok.b1 hb1
    have hw : IntKind.i64.wrap ((s.pos : Int) - 1) = ((s.pos - 1 : Nat) : Int) := by rw [wrap_i64_in (by omega) (by omega)]; omega
    obtain ⟨ad, rfl, hca⟩ := hRd.drew.int (k := s.pos - 1) (by omega)
    have hz := getD_mem_range ok.bytes (s.pos - 1)
    have hwx : IntKind.i64.wrap (s.xs.getD (s.pos - 1) 0) = s.xs.getD (s.pos - 1) 0 := wrap_i64_in (by omega) (by omega)
    have hsh : shrOp .i64 256 (s.bits : Int) = 2 ^ (8 - s.bits) := by
      rw [shr_eq .i64 256 s.bits (by simp [IntKind.bits]; omega) _ rfl]
      have hbs : s.bits = 1 ∨ s.bits = 2 ∨ s.bits = 3 ∨ s.bits = 4 ∨ s.bits = 5 ∨ s.bits = 6 ∨ s.bits = 7 := by omega
      rcases hbs with e | e | e | e | e | e | e <;> rw [e] <;> decide
    try simp -dsimp only [↓RE, ↓c_seq, RU, RL, if_true, if_false, forall_const, implies_true, Nat.reduceLeDiff, Nat.reduceLT, pureOp, binPure, intBin, strBin, eqPure, isConstO, unPure, sliceLo, sliceHi, slicePure, lenPure, minPure, maxPure, buildP, resK, endV, yieldE, ↓reduceIte, Nat.reduceEqDiff, reduceCtorEq, Nat.reduceAdd, Nat.reduceMul, Nat.reduceSub, Int.reduceLT, Int.reduceLE, Int.reduceToNat, Int.reduceAdd, Int.reduceSub, Int.reduceMul, ne_eq, decide_true, decide_false, tf81, he0, hcl, h0, hw, hca, hwx, hsh, Int.toNat_natCast]
    refine ⟨⟨by omega, by omega⟩, by omega, Int.ne_of_gt (pow_pos2 _), ?_⟩
    have : decide ((s.xs.getD (s.pos - 1) 0).tmod (2 ^ (8 - s.bits)) = 0) = !rRest s := by
      unfold rRest
      rw [decide_eq_true hb1, Bool.true_and, Bool.not_not, Int.tmod_eq_emod_of_nonneg hz.1]
      generalize s.xs.getD (s.pos - 1) 0 = z at hz
      have hbs : s.bits = 1 ∨ s.bits = 2 ∨ s.bits = 3 ∨ s.bits = 4 ∨ s.bits = 5 ∨ s.bits = 6 ∨ s.bits = 7 := by omega
      rcases hbs with e | e | e | e | e | e | e <;> rw [e] <;> simp <;> omega
    rw [this]
    exact h _ (Grow.drew w)
  · have hz : s.bits = 0 := by omega
    have : (!rRest s) = true := by unfold rRest; simp [hz]
    rw [this] at h
    try simp -dsimp only [↓RE, ↓c_seq, RU, RL, if_true, if_false, forall_const, implies_true, Nat.reduceLeDiff, Nat.reduceLT, pureOp, binPure, intBin, strBin, eqPure, isConstO, unPure, sliceLo, sliceHi, slicePure, lenPure, minPure, maxPure, buildP, resK, endV, yieldE, ↓reduceIte, Nat.reduceEqDiff, reduceCtorEq, Nat.reduceAdd, Nat.reduceMul, Nat.reduceSub, Int.reduceLT, Int.reduceLE, Int.reduceToNat, Int.reduceAdd, Int.reduceSub, Int.reduceMul, ne_eq, decide_true, decide_false, tf81, he0, hcl, h0, undef]
    exact h _ (Grow.drew w)

/-- what a read that begins with a whole byte and wants n makes first. -/
def rBeg (n : Nat) (s : RS) : RS := if s.fault ≠ none then s else if rRest s then rFail s (errAt (s.pos - 1) 31) else if s.xs.length - s.pos < n then rFail s (errAt s.xs.length 30) else s
theorem rBeg_take (n : Nat) (s : RS) : ((rBeg n s).fault = none → rBeg n s = s ∧ rTake n s = ({ s with pos := s.pos + n, bits := 0 }, (s.xs.drop s.pos).take n) ∧ n ≤ s.xs.length - s.pos) ∧ ((rBeg n s).fault ≠ none → rTake n s = (rBeg n s, [])) := by
  unfold rBeg rTake rBegin
  by_cases hf : s.fault = none <;> by_cases hr : rRest s = true <;> by_cases hl : s.xs.length - s.pos < n <;> simp [hf, hr, hl, rFail, errAt] <;> omega
theorem rBeg_begin (s : RS) : rBeg 0 s = (rBegin s).1 ∧ ((rBeg 0 s).fault = none ↔ (rBegin s).2 = true) := by
  unfold rBeg rBegin
  by_cases hf : s.fault = none <;> by_cases hr : rRest s = true <;> simp [hf, hr, rFail, errAt]
theorem rBeg_fok {n : Nat} {s : RS} (h : FOk s.fault) : FOk (rBeg n s).fault := by
  unfold rBeg
  split
  · exact h
  split
  · exact h.fail (FOk.err (by decide))
  split
  · exact h.fail (FOk.err (by decide))
  · exact h
theorem rBeg_ok {n : Nat} {s : RS} (h : RSok s) : RSok (rBeg n s) := by
  unfold rBeg
  split
  · exact h
  split
  · exact h.fail _
  split
  · exact h.fail _
  · exact h

theorem rbegin_ok {w : World} {F : Nat → Prop} {p : Nat} {s : RS} (hR : RMAt w F p s) (ok : RSok s) (fo : FOk s.fault) {n : Nat} (hn : n ≤ 140737488355328) {R : VWK}
    (h : ∀ w', RMAt w' F p (rBeg n s) → Keep (fun k => k = p) w w' → R (.bool (decide ((rBeg n s).fault = none))) w') :
    CallsV Tryd.prog 89 [.pointer (some ⟨p, 0, none⟩), .int .i64 n] w R := by
  have hle := ok.le
  have hl := ok.len
  refine calls_of_wpC mixed Tryd.func89 rfl (by kernel_rfl) ?_
  intro e he
  have he0 := he 0
  have he1 := he 1
  simp only [List.getD_cons_zero, List.getD_cons_succ] at he0 he1
  clear he
  rw [c_seq]
  simp -dsimp only [↓RE, RU, RL, if_true, if_false, forall_const, implies_true, Nat.reduceLeDiff, Nat.reduceLT, pureOp, binPure, intBin, strBin, eqPure, isConstO, unPure, sliceLo, sliceHi, slicePure, lenPure, minPure, maxPure, buildP, resK, endV, yieldE, ↓reduceIte, Nat.reduceEqDiff, reduceCtorEq, Nat.reduceAdd, Nat.reduceMul, Nat.reduceSub, Int.reduceLT, Int.reduceLE, Int.reduceToNat, Int.reduceAdd, Int.reduceSub, Int.reduceMul, ne_eq, decide_true, decide_false, tf89, he0, he1]
  refine c_seq_cut (fun e' w' => e' 0 = .pointer (some ⟨p, 0, none⟩) ∧ RMAt w' F p (rBeg n s) ∧ Keep (fun k => k = p) w w') ?_ ?_
  · have hR0 := hR
    obtain ⟨A, c, hB, hRd, hp, hc, hFF⟩ := hR
    have hc3 : w.cell? ⟨p, 3, none⟩ = some (.int .i64 (badF s.fault).code) := hB.cell 3
    have hc1 : w.cell? ⟨p, 1, none⟩ = some (.int .i64 s.pos) := hB.cell 1
    try simp -dsimp only [↓RE, ↓c_seq, RU, RL, if_true, if_false, forall_const, implies_true, Nat.reduceLeDiff, Nat.reduceLT, pureOp, binPure, intBin, strBin, eqPure, isConstO, unPure, sliceLo, sliceHi, slicePure, lenPure, minPure, maxPure, buildP, resK, endV, yieldE, ↓reduceIte, Nat.reduceEqDiff, reduceCtorEq, Nat.reduceAdd, Nat.reduceMul, Nat.reduceSub, Int.reduceLT, Int.reduceLE, Int.reduceToNat, Int.reduceAdd, Int.reduceSub, Int.reduceMul, ne_eq, decide_true, decide_false, tf89, he0, he1, hc3]
    refine ⟨fun h0 => ?_, fun h0 => ?_⟩
    · have hf : s.fault ≠ none := fun e => h0 (fo.code.2 e)
      have hb : rBeg n s = s := by unfold rBeg; rw [if_pos hf]
      rw [hb]
      try simp -dsimp only [↓RE, ↓c_seq, RU, RL, if_true, if_false, forall_const, implies_true, Nat.reduceLeDiff, Nat.reduceLT, pureOp, binPure, intBin, strBin, eqPure, isConstO, unPure, sliceLo, sliceHi, slicePure, lenPure, minPure, maxPure, buildP, resK, endV, yieldE, ↓reduceIte, Nat.reduceEqDiff, reduceCtorEq, Nat.reduceAdd, Nat.reduceMul, Nat.reduceSub, Int.reduceLT, Int.reduceLE, Int.reduceToNat, Int.reduceAdd, Int.reduceSub, Int.reduceMul, ne_eq, decide_true, decide_false, tf89, he0, he1]
      exact hold_intro ⟨by simp -dsimp only [↓RE, ↓c_seq, RU, RL, if_true, if_false, forall_const, implies_true, Nat.reduceLeDiff, Nat.reduceLT, pureOp, binPure, intBin, strBin, eqPure, isConstO, unPure, sliceLo, sliceHi, slicePure, lenPure, minPure, maxPure, buildP, resK, endV, yieldE, ↓reduceIte, Nat.reduceEqDiff, reduceCtorEq, Nat.reduceAdd, Nat.reduceMul, Nat.reduceSub, Int.reduceLT, Int.reduceLE, Int.reduceToNat, Int.reduceAdd, Int.reduceSub, Int.reduceMul, ne_eq, decide_true, decide_false, tf89, he0], hR0, Keep.refl _ _⟩
    · have hf : s.fault = none := fo.code.1 (by omega)
      try simp -dsimp only [↓RE, ↓c_seq, RU, RL, if_true, if_false, forall_const, implies_true, Nat.reduceLeDiff, Nat.reduceLT, pureOp, binPure, intBin, strBin, eqPure, isConstO, unPure, sliceLo, sliceHi, slicePure, lenPure, minPure, maxPure, buildP, resK, endV, yieldE, ↓reduceIte, Nat.reduceEqDiff, reduceCtorEq, Nat.reduceAdd, Nat.reduceMul, Nat.reduceSub, Int.reduceLT, Int.reduceLE, Int.reduceToNat, Int.reduceAdd, Int.reduceSub, Int.reduceMul, ne_eq, decide_true, decide_false, tf89, he0, he1]
      refine rrest_ok hR0 ok (fun w1 g1 => ?_)
      have hR1 := hR0.grow g1
      have hB1 := hB.grow g1
      have hc1 : w1.cell? ⟨p, 1, none⟩ = some (.int .i64 s.pos) := hB1.cell 1
      have hd0 : w1.drew.cell? ⟨p, 0, none⟩ = some (.slice A s.xs.length c) := hB1.drew.cell 0
      have hd1 : w1.drew.cell? ⟨p, 1, none⟩ = some (.int .i64 s.pos) := hB1.drew.cell 1
      cases hr : rRest s with
      | true =>
        have hb : rBeg n s = rFail s (errAt (s.pos - 1) 31) := by unfold rBeg; rw [if_neg (by simp [hf]), if_pos hr]
        have hp1 : 0 < s.pos := by
          unfold rRest at hr
          simp only [Bool.and_eq_true, decide_eq_true_eq] at hr
          exact ok.b1 hr.1
        have hw : IntKind.i64.wrap ((s.pos : Int) - 1) = ((s.pos - 1 : Nat) : Int) := by rw [wrap_i64_in (by omega) (by omega)]; omega
        try simp -dsimp only [↓RE, ↓c_seq, RU, RL, if_true, if_false, forall_const, implies_true, Nat.reduceLeDiff, Nat.reduceLT, pureOp, binPure, intBin, strBin, eqPure, isConstO, unPure, sliceLo, sliceHi, slicePure, lenPure, minPure, maxPure, buildP, resK, endV, yieldE, ↓reduceIte, Nat.reduceEqDiff, reduceCtorEq, Nat.reduceAdd, Nat.reduceMul, Nat.reduceSub, Int.reduceLT, Int.reduceLE, Int.reduceToNat, Int.reduceAdd, Int.reduceSub, Int.reduceMul, ne_eq, decide_true, decide_false, tf89, he0, he1, hc1, hw]
        refine rat_ok (by decide) (fun w2 g2 => ?_)
        try simp -dsimp only [↓RE, ↓c_seq, RU, RL, if_true, if_false, forall_const, implies_true, Nat.reduceLeDiff, Nat.reduceLT, pureOp, binPure, intBin, strBin, eqPure, isConstO, unPure, sliceLo, sliceHi, slicePure, lenPure, minPure, maxPure, buildP, resK, endV, yieldE, ↓reduceIte, Nat.reduceEqDiff, reduceCtorEq, Nat.reduceAdd, Nat.reduceMul, Nat.reduceSub, Int.reduceLT, Int.reduceLE, Int.reduceToNat, Int.reduceAdd, Int.reduceSub, Int.reduceMul, ne_eq, decide_true, decide_false, tf89, he0, he1]
        refine rrfail_ok (er := errAt (s.pos - 1) 31) (hR1.grow g2) fo (fun w3 hR3 k3 => ?_)
        rw [hb]
        try simp -dsimp only [↓RE, ↓c_seq, RU, RL, if_true, if_false, forall_const, implies_true, Nat.reduceLeDiff, Nat.reduceLT, pureOp, binPure, intBin, strBin, eqPure, isConstO, unPure, sliceLo, sliceHi, slicePure, lenPure, minPure, maxPure, buildP, resK, endV, yieldE, ↓reduceIte, Nat.reduceEqDiff, reduceCtorEq, Nat.reduceAdd, Nat.reduceMul, Nat.reduceSub, Int.reduceLT, Int.reduceLE, Int.reduceToNat, Int.reduceAdd, Int.reduceSub, Int.reduceMul, ne_eq, decide_true, decide_false, tf89, he0, he1]
        exact hold_intro ⟨by simp -dsimp only [↓RE, ↓c_seq, RU, RL, if_true, if_false, forall_const, implies_true, Nat.reduceLeDiff, Nat.reduceLT, pureOp, binPure, intBin, strBin, eqPure, isConstO, unPure, sliceLo, sliceHi, slicePure, lenPure, minPure, maxPure, buildP, resK, endV, yieldE, ↓reduceIte, Nat.reduceEqDiff, reduceCtorEq, Nat.reduceAdd, Nat.reduceMul, Nat.reduceSub, Int.reduceLT, Int.reduceLE, Int.reduceToNat, Int.reduceAdd, Int.reduceSub, Int.reduceMul, ne_eq, decide_true, decide_false, tf89, he0], hR3, (g1.trans g2).then k3⟩
      | false =>
        have hw : IntKind.i64.wrap ((s.xs.length : Int) - (s.pos : Int)) = ((s.xs.length - s.pos : Nat) : Int) := by rw [wrap_i64_in (by omega) (by omega)]; omega
        try simp -dsimp only [↓RE, ↓c_seq, RU, RL, if_true, if_false, forall_const, implies_true, Nat.reduceLeDiff, Nat.reduceLT, pureOp, binPure, intBin, strBin, eqPure, isConstO, unPure, sliceLo, sliceHi, slicePure, lenPure, minPure, maxPure, buildP, resK, endV, yieldE, ↓reduceIte, Nat.reduceEqDiff, reduceCtorEq, Nat.reduceAdd, Nat.reduceMul, Nat.reduceSub, Int.reduceLT, Int.reduceLE, Int.reduceToNat, Int.reduceAdd, Int.reduceSub, Int.reduceMul, ne_eq, decide_true, decide_false, tf89, he0, he1]
        refine wpDraw_still (by kernel_rfl) ?_
        try simp -dsimp only [↓RE, ↓c_seq, RU, RL, if_true, if_false, forall_const, implies_true, Nat.reduceLeDiff, Nat.reduceLT, pureOp, binPure, intBin, strBin, eqPure, isConstO, unPure, sliceLo, sliceHi, slicePure, lenPure, minPure, maxPure, buildP, resK, endV, yieldE, ↓reduceIte, Nat.reduceEqDiff, reduceCtorEq, Nat.reduceAdd, Nat.reduceMul, Nat.reduceSub, Int.reduceLT, Int.reduceLE, Int.reduceToNat, Int.reduceAdd, Int.reduceSub, Int.reduceMul, ne_eq, decide_true, decide_false, tf89, he0, he1, hd0, hd1, hw]
        refine ⟨fun hlt => ?_, fun hge => ?_⟩
        · have hb : rBeg n s = rFail s (errAt s.xs.length 30) := by unfold rBeg; rw [if_neg (by simp [hf]), if_neg (by simp [hr]), if_pos (by omega)]
          try simp -dsimp only [↓RE, ↓c_seq, RU, RL, if_true, if_false, forall_const, implies_true, Nat.reduceLeDiff, Nat.reduceLT, pureOp, binPure, intBin, strBin, eqPure, isConstO, unPure, sliceLo, sliceHi, slicePure, lenPure, minPure, maxPure, buildP, resK, endV, yieldE, ↓reduceIte, Nat.reduceEqDiff, reduceCtorEq, Nat.reduceAdd, Nat.reduceMul, Nat.reduceSub, Int.reduceLT, Int.reduceLE, Int.reduceToNat, Int.reduceAdd, Int.reduceSub, Int.reduceMul, ne_eq, decide_true, decide_false, tf89, he0, he1, hd0, hd1]
          refine rat_ok (by decide) (fun w2 g2 => ?_)
          try simp -dsimp only [↓RE, ↓c_seq, RU, RL, if_true, if_false, forall_const, implies_true, Nat.reduceLeDiff, Nat.reduceLT, pureOp, binPure, intBin, strBin, eqPure, isConstO, unPure, sliceLo, sliceHi, slicePure, lenPure, minPure, maxPure, buildP, resK, endV, yieldE, ↓reduceIte, Nat.reduceEqDiff, reduceCtorEq, Nat.reduceAdd, Nat.reduceMul, Nat.reduceSub, Int.reduceLT, Int.reduceLE, Int.reduceToNat, Int.reduceAdd, Int.reduceSub, Int.reduceMul, ne_eq, decide_true, decide_false, tf89, he0, he1]
          refine rrfail_ok (er := errAt s.xs.length 30) ((hR1.grow (Grow.drew w1)).grow g2) fo (fun w3 hR3 k3 => ?_)
          rw [hb]
          try simp -dsimp only [↓RE, ↓c_seq, RU, RL, if_true, if_false, forall_const, implies_true, Nat.reduceLeDiff, Nat.reduceLT, pureOp, binPure, intBin, strBin, eqPure, isConstO, unPure, sliceLo, sliceHi, slicePure, lenPure, minPure, maxPure, buildP, resK, endV, yieldE, ↓reduceIte, Nat.reduceEqDiff, reduceCtorEq, Nat.reduceAdd, Nat.reduceMul, Nat.reduceSub, Int.reduceLT, Int.reduceLE, Int.reduceToNat, Int.reduceAdd, Int.reduceSub, Int.reduceMul, ne_eq, decide_true, decide_false, tf89, he0, he1]
          exact hold_intro ⟨by simp -dsimp only [↓RE, ↓c_seq, RU, RL, if_true, if_false, forall_const, implies_true, Nat.reduceLeDiff, Nat.reduceLT, pureOp, binPure, intBin, strBin, eqPure, isConstO, unPure, sliceLo, sliceHi, slicePure, lenPure, minPure, maxPure, buildP, resK, endV, yieldE, ↓reduceIte, Nat.reduceEqDiff, reduceCtorEq, Nat.reduceAdd, Nat.reduceMul, Nat.reduceSub, Int.reduceLT, Int.reduceLE, Int.reduceToNat, Int.reduceAdd, Int.reduceSub, Int.reduceMul, ne_eq, decide_true, decide_false, tf89, he0], hR3, ((g1.trans (Grow.drew w1)).trans g2).then k3⟩
        · have hb : rBeg n s = s := by unfold rBeg; rw [if_neg (by simp [hf]), if_neg (by simp [hr]), if_neg (by omega)]
          rw [hb]
          try simp -dsimp only [↓RE, ↓c_seq, RU, RL, if_true, if_false, forall_const, implies_true, Nat.reduceLeDiff, Nat.reduceLT, pureOp, binPure, intBin, strBin, eqPure, isConstO, unPure, sliceLo, sliceHi, slicePure, lenPure, minPure, maxPure, buildP, resK, endV, yieldE, ↓reduceIte, Nat.reduceEqDiff, reduceCtorEq, Nat.reduceAdd, Nat.reduceMul, Nat.reduceSub, Int.reduceLT, Int.reduceLE, Int.reduceToNat, Int.reduceAdd, Int.reduceSub, Int.reduceMul, ne_eq, decide_true, decide_false, tf89, he0, he1]
          exact hold_intro ⟨by simp -dsimp only [↓RE, ↓c_seq, RU, RL, if_true, if_false, forall_const, implies_true, Nat.reduceLeDiff, Nat.reduceLT, pureOp, binPure, intBin, strBin, eqPure, isConstO, unPure, sliceLo, sliceHi, slicePure, lenPure, minPure, maxPure, buildP, resK, endV, yieldE, ↓reduceIte, Nat.reduceEqDiff, reduceCtorEq, Nat.reduceAdd, Nat.reduceMul, Nat.reduceSub, Int.reduceLT, Int.reduceLE, Int.reduceToNat, Int.reduceAdd, Int.reduceSub, Int.reduceMul, ne_eq, decide_true, decide_false, tf89, he0], hR1.grow (Grow.drew w1), (g1.trans (Grow.drew w1)).then (Keep.refl _ _)⟩
  · rintro e' w' ⟨h0, hR', hk⟩
    have hfo := (rBeg_fok (n := n) fo).code
    have hR'' := hR'
    obtain ⟨A, c, hB, hRd, hp, hc, hFF⟩ := hR'
    have hc3 : w'.cell? ⟨p, 3, none⟩ = some (.int .i64 (badF (rBeg n s).fault).code) := hB.cell 3
    have hd : decide ((badF (rBeg n s).fault).code = 0) = decide ((rBeg n s).fault = none) := by rw [decide_eq_decide]; exact hfo
    try simp -dsimp only [↓RE, ↓c_seq, RU, RL, if_true, if_false, forall_const, implies_true, Nat.reduceLeDiff, Nat.reduceLT, pureOp, binPure, intBin, strBin, eqPure, isConstO, unPure, sliceLo, sliceHi, slicePure, lenPure, minPure, maxPure, buildP, resK, endV, yieldE, ↓reduceIte, Nat.reduceEqDiff, reduceCtorEq, Nat.reduceAdd, Nat.reduceMul, Nat.reduceSub, Int.reduceLT, Int.reduceLE, Int.reduceToNat, Int.reduceAdd, Int.reduceSub, Int.reduceMul, ne_eq, decide_true, decide_false, tf89, h0, hc3, hd]
    exact h w' hR'' hk

end Go.Proofs.YtmgiichlccdcfaaDoor
