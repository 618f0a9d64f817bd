/- The document's Reader: its contracts, in the same plain terms as the program's. -/
/- The document's NewReader. -/
/- The document's Reader: numbers, bytes, texts. -/
/- The document's Reader: bytes, texts, where it stands, its fault. -/
/- The document's Reader: bits; where it stands; its fault; whether it is through. -/
/- What reading leaves as an error is one with a place. -/
import Derived.Test.YtmgiichlccdcfaaGreatDoorAsk
import Derived.Test.YtmgiichlccdcfaaGreatDoorRnums
set_option linter.unusedVariables false
set_option linter.unusedSimpArgs false
set_option maxRecDepth 100000
namespace Go.Proofs.YtmgiichlccdcfaaGreatDoor
open Go

def eAt (p e : Int) : Option (TypeId × Value) := some (66, .agg #[.int .i64 p, .iface 29 (.int .i64 e)])
theorem errAt_eAt (p : Nat) (e : Int) : errAt p e = eAt p e := rfl
def badF : Option (TypeId × Value) → BadV
  | some (_, .agg cs) => match cs.toList with
    | [.int _ p, .iface _ (.int _ e)] => ⟨e, p, 0, true, false⟩
    | _ => BadV.none
  | _ => BadV.none
theorem badF_at (p e : Int) : badF (eAt p e) = ⟨e, p, 0, true, false⟩ := rfl
theorem badF_none : badF none = BadV.none := rfl
def FOk (f : Option (TypeId × Value)) : Prop := f = none ∨ ∃ p e : Int, e ≠ 0 ∧ f = eAt p e
theorem FOk.none : FOk none := .inl rfl
theorem FOk.err {p : Nat} {e : Int} (h : e ≠ 0) : FOk (errAt p e) := .inr ⟨p, e, h, rfl⟩
theorem FOk.code {f : Option (TypeId × Value)} (h : FOk f) : (badF f).code = 0 ↔ f = Option.none := by
  rcases h with rfl | ⟨p, e, he, rfl⟩
  · exact ⟨fun _ => rfl, fun _ => rfl⟩
  · exact ⟨fun h => absurd h he, fun h => by cases h⟩
theorem FOk.fail {s : RS} {e : Option (TypeId × Value)} (h : FOk s.fault) (he : FOk e) : FOk (rFail s e).fault := by
  unfold rFail; split
  · exact he
  · exact h
def erF : Option (TypeId × Value) → Option Er
  | some (_, .agg cs) => match cs.toList with
    | [.int _ p, .iface _ (.int _ e)] => some (.pl p e)
    | _ => Option.none
  | _ => Option.none
theorem FOk.er {f : Option (TypeId × Value)} (h : FOk f) : errV f = errOf (erF f) ∧ badF f = badOf (erF f) ∧ ∀ y, erF f = some y → y.code ≠ 0 := by
  rcases h with rfl | ⟨p, e, he, rfl⟩
  · exact ⟨rfl, rfl, fun y h => by cases h⟩
  · exact ⟨rfl, rfl, fun y h => by injection h with h; subst h; exact he⟩

/-- a Reader of the document at block p. -/
def RMAt (w : World) (F : Nat → Prop) (p : Nat) (s : RS) : Prop :=
  ∃ A c, Blk w p 88 ([.slice A s.xs.length c, .int .i64 s.pos, .int .i64 s.bits] ++ (badF s.fault).cells) ∧ Rd w A s.xs.length 1 (s.xs.map (Value.int .u8)) ∧ (0 < s.xs.length → ¬ fpA A p) ∧
    s.xs.length ≤ c ∧ F = fun k => k = p ∨ (0 < s.xs.length ∧ fpA A k)
theorem RMAt.lt {w : World} {F : Nat → Prop} {p : Nat} {s : RS} (h : RMAt w F p s) : ∀ k, F k → k < w.heap.size := by
  obtain ⟨A, c, hB, hR, hp, hc, rfl⟩ := h
  rintro k (rfl | ⟨h0, hk⟩)
  · exact hB.lt
  · exact hR.lt h0 (by omega) k hk
theorem RMAt.place {w : World} {F : Nat → Prop} {p : Nat} {s : RS} (h : RMAt w F p s) : F p := by
  obtain ⟨A, c, hB, hR, hp, hc, rfl⟩ := h
  exact .inl rfl
theorem RMAt.keep {w w' : World} {F G : Nat → Prop} {p : Nat} {s : RS} (h : RMAt w F p s) (hk : Keep G w w') (hd : ∀ k, F k → ¬ G k) : RMAt w' F p s := by
  obtain ⟨A, c, hB, hR, hp, hc, rfl⟩ := h
  exact ⟨A, c, hB.keep hk (hd p (.inl rfl)), hR.keep0 hk (fun h0 k hf => hd k (.inr ⟨h0, hf⟩)), hp, hc, rfl⟩
theorem RMAt.grow {w w' : World} {F : Nat → Prop} {p : Nat} {s : RS} (h : RMAt w F p s) (hk : Grow w w') : RMAt w' F p s := h.keep hk (fun _ _ h => h)
theorem badV_one (b : BadV) : ∀ v ∈ b.cells, v.oneCell' = true := by simp [BadV.cells, Value.oneCell']

theorem rrfail_ok {w : World} {F : Nat → Prop} {p : Nat} {s : RS} (hR : RMAt w F p s) (fo : FOk s.fault) {er : Option (TypeId × Value)} {R : VWK}
    (h : ∀ w', RMAt w' F p (rFail s er) → Keep (fun k => k = p) w w' → R (.tuple #[]) w') :
    CallsV Tryz.prog 40 [.pointer (some ⟨p, 0, none⟩), (badF er).v] w R := by
  have hlt := hR.lt
  obtain ⟨A, c, hB, hRd, hp, hc, rfl⟩ := hR
  refine calls_of_wpC mixed Tryz.func40 rfl (by kernel_rfl) ?_
  intro e he
  have he0 := he 0
  have he1 := he 1
  simp only [List.getD_cons_zero, List.getD_cons_succ] at he0 he1
  clear he
  generalize hb : badF er = b at he1
  try simp -dsimp only [↓RE,↓c_seq,RU,RL,if_true,if_false,forall_const,implies_true,Nat.reduceLeDiff,Nat.reduceLT,pureOp,binPure,intBin,strBin,eqPure,isConstO,unPure,sliceLo,sliceHi,slicePure,lenPure,minPure,maxPure,buildP,resK,endV,yieldE,↓reduceIte,Nat.reduceEqDiff,reduceCtorEq,Nat.reduceAdd,Nat.reduceMul,Nat.reduceSub,Int.reduceLT,Int.reduceLE,Int.reduceToNat,Int.reduceAdd,Int.reduceSub,Int.reduceMul,ne_eq,decide_true,decide_false,tf40, he0, he1, BadV.v, BadV.cells]
  have hX := Blk.new' w 31 #[.int .i64 b.code, .int .i64 b.at_, .int .i64 b.ins, .bool b.placed, .bool b.numbered]
  have g1 := Grow.alloc w (.cells #[.int .i64 b.code, .int .i64 b.at_, .int .i64 b.ins, .bool b.placed, .bool b.numbered] 31)
  have hB1 := hB.grow g1
  have hc3 : (w.alloc (.cells #[.int .i64 b.code, .int .i64 b.at_, .int .i64 b.ins, .bool b.placed, .bool b.numbered] 31)).cell? ⟨p, 3, none⟩ = some (.int .i64 (badF s.fault).code) := hB1.cell 3
  have hpw : p < w.heap.size := hB.lt
  try simp -dsimp only [↓RE,↓c_seq,RU,RL,if_true,if_false,forall_const,implies_true,Nat.reduceLeDiff,Nat.reduceLT,pureOp,binPure,intBin,strBin,eqPure,isConstO,unPure,sliceLo,sliceHi,slicePure,lenPure,minPure,maxPure,buildP,resK,endV,yieldE,↓reduceIte,Nat.reduceEqDiff,reduceCtorEq,Nat.reduceAdd,Nat.reduceMul,Nat.reduceSub,Int.reduceLT,Int.reduceLE,Int.reduceToNat,Int.reduceAdd,Int.reduceSub,Int.reduceMul,ne_eq,decide_true,decide_false,tf40, he0, he1, hc3]
  refine ⟨fun h0 => ?_, fun h0 => ?_⟩
  · have hf : s.fault = none := fo.code.1 h0
    have hr : rFail s er = { s with fault := er } := by unfold rFail; rw [if_pos hf]
    rw [hr] at h
    try simp -dsimp only [↓RE,↓c_seq,RU,RL,if_true,if_false,forall_const,implies_true,Nat.reduceLeDiff,Nat.reduceLT,pureOp,binPure,intBin,strBin,eqPure,isConstO,unPure,sliceLo,sliceHi,slicePure,lenPure,minPure,maxPure,buildP,resK,endV,yieldE,↓reduceIte,Nat.reduceEqDiff,reduceCtorEq,Nat.reduceAdd,Nat.reduceMul,Nat.reduceSub,Int.reduceLT,Int.reduceLE,Int.reduceToNat,Int.reduceAdd,Int.reduceSub,Int.reduceMul,ne_eq,decide_true,decide_false,tf40, he0, he1]
    refine hX.aggK (by simp) ?_
    try simp -dsimp only [↓RE,↓c_seq,RU,RL,if_true,if_false,forall_const,implies_true,Nat.reduceLeDiff,Nat.reduceLT,pureOp,binPure,intBin,strBin,eqPure,isConstO,unPure,sliceLo,sliceHi,slicePure,lenPure,minPure,maxPure,buildP,resK,endV,yieldE,↓reduceIte,Nat.reduceEqDiff,reduceCtorEq,Nat.reduceAdd,Nat.reduceMul,Nat.reduceSub,Int.reduceLT,Int.reduceLE,Int.reduceToNat,Int.reduceAdd,Int.reduceSub,Int.reduceMul,ne_eq,decide_true,decide_false,tf40, he0, he1, List.drop_zero, List.take_succ_cons, List.take_zero]
    refine hB1.stAgg (by simp [BadV.cells]) (by simp [Value.oneCell']) (fun w2 hB2 hK2 => ?_)
    have hB2 : Blk w2 p 88 ([.slice A s.xs.length c, .int .i64 s.pos, .int .i64 s.bits] ++ (badF er).cells) := by rw [hb]; simpa [BadV.cells] using hB2
    try simp -dsimp only [↓RE,↓c_seq,RU,RL,if_true,if_false,forall_const,implies_true,Nat.reduceLeDiff,Nat.reduceLT,pureOp,binPure,intBin,strBin,eqPure,isConstO,unPure,sliceLo,sliceHi,slicePure,lenPure,minPure,maxPure,buildP,resK,endV,yieldE,↓reduceIte,Nat.reduceEqDiff,reduceCtorEq,Nat.reduceAdd,Nat.reduceMul,Nat.reduceSub,Int.reduceLT,Int.reduceLE,Int.reduceToNat,Int.reduceAdd,Int.reduceSub,Int.reduceMul,ne_eq,decide_true,decide_false,tf40, he0, he1]
    exact h w2 ⟨A, c, hB2, (hRd.grow g1).keep0 hK2 (fun h0 k hk e => hp h0 (e ▸ hk)), hp, hc, rfl⟩ (g1.then hK2)
  · have hr : rFail s er = s := by unfold rFail; rw [if_neg (fun h => h0 (fo.code.2 h))]
    rw [hr] at h
    try simp -dsimp only [↓RE,↓c_seq,RU,RL,if_true,if_false,forall_const,implies_true,Nat.reduceLeDiff,Nat.reduceLT,pureOp,binPure,intBin,strBin,eqPure,isConstO,unPure,sliceLo,sliceHi,slicePure,lenPure,minPure,maxPure,buildP,resK,endV,yieldE,↓reduceIte,Nat.reduceEqDiff,reduceCtorEq,Nat.reduceAdd,Nat.reduceMul,Nat.reduceSub,Int.reduceLT,Int.reduceLE,Int.reduceToNat,Int.reduceAdd,Int.reduceSub,Int.reduceMul,ne_eq,decide_true,decide_false,tf40, he0, he1]
    exact h _ ⟨A, c, hB1, hRd.grow g1, hp, hc, rfl⟩ (g1.then (Keep.refl _ _))

theorem rrest_ok {w : World} {F : Nat → Prop} {p : Nat} {s : RS} (hR : RMAt w F p s) (ok : RSok s) {R : VWK} (h : ∀ w', Grow w w' → R (.bool (!rRest s)) w') :
    CallsV Tryz.prog 42 [.pointer (some ⟨p, 0, none⟩)] w R := by
  have h8 := ok.b8
  have hle := ok.le
  have hl := ok.len
  obtain ⟨A, c, hB, hRd, hp, hc, rfl⟩ := hR
  have hcl : ∀ i, w.drew.cell? ⟨p, i, none⟩ = ([.slice A s.xs.length c, .int .i64 s.pos, .int .i64 s.bits] ++ (badF s.fault).cells)[i]? := fun i => hB.drew.cell i
  refine calls_of_wpC mixed Tryz.func42 rfl (by kernel_rfl) ?_
  intro e he
  have he0 := he 0
  simp only [List.getD_cons_zero, List.getD_cons_succ] at he0
  clear he
  try simp -dsimp only [↓RE,↓c_seq,RU,RL,if_true,if_false,forall_const,implies_true,Nat.reduceLeDiff,Nat.reduceLT,pureOp,binPure,intBin,strBin,eqPure,isConstO,unPure,sliceLo,sliceHi,slicePure,lenPure,minPure,maxPure,buildP,resK,endV,yieldE,↓reduceIte,Nat.reduceEqDiff,reduceCtorEq,Nat.reduceAdd,Nat.reduceMul,Nat.reduceSub,Int.reduceLT,Int.reduceLE,Int.reduceToNat,Int.reduceAdd,Int.reduceSub,Int.reduceMul,ne_eq,decide_true,decide_false,tf42, he0]
  refine wpDraw_still (by kernel_rfl) ?_
  try simp -dsimp only [↓RE,↓c_seq,RU,RL,if_true,if_false,forall_const,implies_true,Nat.reduceLeDiff,Nat.reduceLT,pureOp,binPure,intBin,strBin,eqPure,isConstO,unPure,sliceLo,sliceHi,slicePure,lenPure,minPure,maxPure,buildP,resK,endV,yieldE,↓reduceIte,Nat.reduceEqDiff,reduceCtorEq,Nat.reduceAdd,Nat.reduceMul,Nat.reduceSub,Int.reduceLT,Int.reduceLE,Int.reduceToNat,Int.reduceAdd,Int.reduceSub,Int.reduceMul,ne_eq,decide_true,decide_false,tf42, he0, hcl]
  refine ⟨fun h0 => ?_, fun h0 => ?_⟩
  · have hb1 : 0 < s.bits := by omega
    have hp1 := ok.b1 hb1
    have hw : IntKind.i64.wrap ((s.pos : Int) - 1) = ((s.pos - 1 : Nat) : Int) := by rw [wrap_i64_in (by omega) (by omega)]; omega
    obtain ⟨ad, rfl, hca⟩ := hRd.drew.int (k := s.pos - 1) (by omega)
    have hz := getD_mem_range ok.bytes (s.pos - 1)
    have hwx : IntKind.i64.wrap (s.xs.getD (s.pos - 1) 0) = s.xs.getD (s.pos - 1) 0 := wrap_i64_in (by omega) (by omega)
    have hsh : shrOp .i64 256 (s.bits : Int) = 2 ^ (8 - s.bits) := by
      rw [shr_eq .i64 256 s.bits (by simp [IntKind.bits]; omega) _ rfl]
      have hbs : s.bits = 1 ∨ s.bits = 2 ∨ s.bits = 3 ∨ s.bits = 4 ∨ s.bits = 5 ∨ s.bits = 6 ∨ s.bits = 7 := by omega
      rcases hbs with e | e | e | e | e | e | e <;> rw [e] <;> decide
    try simp -dsimp only [↓RE,↓c_seq,RU,RL,if_true,if_false,forall_const,implies_true,Nat.reduceLeDiff,Nat.reduceLT,pureOp,binPure,intBin,strBin,eqPure,isConstO,unPure,sliceLo,sliceHi,slicePure,lenPure,minPure,maxPure,buildP,resK,endV,yieldE,↓reduceIte,Nat.reduceEqDiff,reduceCtorEq,Nat.reduceAdd,Nat.reduceMul,Nat.reduceSub,Int.reduceLT,Int.reduceLE,Int.reduceToNat,Int.reduceAdd,Int.reduceSub,Int.reduceMul,ne_eq,decide_true,decide_false,tf42, he0, hcl, h0, hw, hca, hwx, hsh, Int.toNat_natCast]
    refine ⟨⟨by omega, by omega⟩, by omega, Int.ne_of_gt (pow_pos2 _), ?_⟩
    have : decide ((s.xs.getD (s.pos - 1) 0).tmod (2 ^ (8 - s.bits)) = 0) = !rRest s := by
      unfold rRest
      rw [decide_eq_true hb1, Bool.true_and, Bool.not_not, Int.tmod_eq_emod_of_nonneg hz.1]
      generalize s.xs.getD (s.pos - 1) 0 = z at hz
      have hbs : s.bits = 1 ∨ s.bits = 2 ∨ s.bits = 3 ∨ s.bits = 4 ∨ s.bits = 5 ∨ s.bits = 6 ∨ s.bits = 7 := by omega
      rcases hbs with e | e | e | e | e | e | e <;> rw [e] <;> simp <;> omega
    rw [this]
    exact h _ (Grow.drew w)
  · have hz : s.bits = 0 := by omega
    have : (!rRest s) = true := by unfold rRest; simp [hz]
    rw [this] at h
    try simp -dsimp only [↓RE,↓c_seq,RU,RL,if_true,if_false,forall_const,implies_true,Nat.reduceLeDiff,Nat.reduceLT,pureOp,binPure,intBin,strBin,eqPure,isConstO,unPure,sliceLo,sliceHi,slicePure,lenPure,minPure,maxPure,buildP,resK,endV,yieldE,↓reduceIte,Nat.reduceEqDiff,reduceCtorEq,Nat.reduceAdd,Nat.reduceMul,Nat.reduceSub,Int.reduceLT,Int.reduceLE,Int.reduceToNat,Int.reduceAdd,Int.reduceSub,Int.reduceMul,ne_eq,decide_true,decide_false,tf42, he0, hcl, h0, undef]
    exact h _ (Grow.drew w)

/-- what a read that begins with a whole byte and wants n makes first. -/
def rBeg (n : Nat) (s : RS) : RS := if s.fault ≠ none then s else if rRest s then rFail s (errAt (s.pos - 1) 31) else if s.xs.length - s.pos < n then rFail s (errAt s.xs.length 30) else s
theorem rBeg_take (n : Nat) (s : RS) : ((rBeg n s).fault = none → rBeg n s = s ∧ rTake n s = ({ s with pos := s.pos + n, bits := 0 }, (s.xs.drop s.pos).take n) ∧ n ≤ s.xs.length - s.pos) ∧ ((rBeg n s).fault ≠ none → rTake n s = (rBeg n s, [])) := by
  unfold rBeg rTake rBegin
  by_cases hf : s.fault = none <;> by_cases hr : rRest s = true <;> by_cases hl : s.xs.length - s.pos < n <;> simp [hf, hr, hl, rFail, errAt] <;> omega
theorem rBeg_begin (s : RS) : rBeg 0 s = (rBegin s).1 ∧ ((rBeg 0 s).fault = none ↔ (rBegin s).2 = true) := by
  unfold rBeg rBegin
  by_cases hf : s.fault = none <;> by_cases hr : rRest s = true <;> simp [hf, hr, rFail, errAt]
theorem rBeg_fok {n : Nat} {s : RS} (h : FOk s.fault) : FOk (rBeg n s).fault := by
  unfold rBeg
  split
  · exact h
  split
  · exact h.fail (FOk.err (by decide))
  split
  · exact h.fail (FOk.err (by decide))
  · exact h
theorem rBeg_ok {n : Nat} {s : RS} (h : RSok s) : RSok (rBeg n s) := by
  unfold rBeg
  split
  · exact h
  split
  · exact h.fail _
  split
  · exact h.fail _
  · exact h

theorem rbegin_ok {w : World} {F : Nat → Prop} {p : Nat} {s : RS} (hR : RMAt w F p s) (ok : RSok s) (fo : FOk s.fault) {n : Nat} (hn : n ≤ 140737488355328) {R : VWK}
    (h : ∀ w', RMAt w' F p (rBeg n s) → Keep (fun k => k = p) w w' → R (.bool (decide ((rBeg n s).fault = none))) w') :
    CallsV Tryz.prog 72 [.pointer (some ⟨p, 0, none⟩), .int .i64 n] w R := by
  have hle := ok.le
  have hl := ok.len
  refine calls_of_wpC mixed Tryz.func72 rfl (by kernel_rfl) ?_
  intro e he
  have he0 := he 0
  have he1 := he 1
  simp only [List.getD_cons_zero, List.getD_cons_succ] at he0 he1
  clear he
  rw [c_seq]
  simp -dsimp only [↓RE,RU,RL,if_true,if_false,forall_const,implies_true,Nat.reduceLeDiff,Nat.reduceLT,pureOp,binPure,intBin,strBin,eqPure,isConstO,unPure,sliceLo,sliceHi,slicePure,lenPure,minPure,maxPure,buildP,resK,endV,yieldE,↓reduceIte,Nat.reduceEqDiff,reduceCtorEq,Nat.reduceAdd,Nat.reduceMul,Nat.reduceSub,Int.reduceLT,Int.reduceLE,Int.reduceToNat,Int.reduceAdd,Int.reduceSub,Int.reduceMul,ne_eq,decide_true,decide_false,tf72, he0, he1]
  refine c_seq_cut (fun e' w' => e' 0 = .pointer (some ⟨p, 0, none⟩) ∧ RMAt w' F p (rBeg n s) ∧ Keep (fun k => k = p) w w') ?_ ?_
  · have hR0 := hR
    obtain ⟨A, c, hB, hRd, hp, hc, hFF⟩ := hR
    have hc3 : w.cell? ⟨p, 3, none⟩ = some (.int .i64 (badF s.fault).code) := hB.cell 3
    have hc1 : w.cell? ⟨p, 1, none⟩ = some (.int .i64 s.pos) := hB.cell 1
    try simp -dsimp only [↓RE,↓c_seq,RU,RL,if_true,if_false,forall_const,implies_true,Nat.reduceLeDiff,Nat.reduceLT,pureOp,binPure,intBin,strBin,eqPure,isConstO,unPure,sliceLo,sliceHi,slicePure,lenPure,minPure,maxPure,buildP,resK,endV,yieldE,↓reduceIte,Nat.reduceEqDiff,reduceCtorEq,Nat.reduceAdd,Nat.reduceMul,Nat.reduceSub,Int.reduceLT,Int.reduceLE,Int.reduceToNat,Int.reduceAdd,Int.reduceSub,Int.reduceMul,ne_eq,decide_true,decide_false,tf72, he0, he1, hc3]
    refine ⟨fun h0 => ?_, fun h0 => ?_⟩
    · have hf : s.fault ≠ none := fun e => h0 (fo.code.2 e)
      have hb : rBeg n s = s := by unfold rBeg; rw [if_pos hf]
      rw [hb]
      try simp -dsimp only [↓RE,↓c_seq,RU,RL,if_true,if_false,forall_const,implies_true,Nat.reduceLeDiff,Nat.reduceLT,pureOp,binPure,intBin,strBin,eqPure,isConstO,unPure,sliceLo,sliceHi,slicePure,lenPure,minPure,maxPure,buildP,resK,endV,yieldE,↓reduceIte,Nat.reduceEqDiff,reduceCtorEq,Nat.reduceAdd,Nat.reduceMul,Nat.reduceSub,Int.reduceLT,Int.reduceLE,Int.reduceToNat,Int.reduceAdd,Int.reduceSub,Int.reduceMul,ne_eq,decide_true,decide_false,tf72, he0, he1]
      exact hold_intro ⟨by simp -dsimp only [↓RE,↓c_seq,RU,RL,if_true,if_false,forall_const,implies_true,Nat.reduceLeDiff,Nat.reduceLT,pureOp,binPure,intBin,strBin,eqPure,isConstO,unPure,sliceLo,sliceHi,slicePure,lenPure,minPure,maxPure,buildP,resK,endV,yieldE,↓reduceIte,Nat.reduceEqDiff,reduceCtorEq,Nat.reduceAdd,Nat.reduceMul,Nat.reduceSub,Int.reduceLT,Int.reduceLE,Int.reduceToNat,Int.reduceAdd,Int.reduceSub,Int.reduceMul,ne_eq,decide_true,decide_false,tf72, he0], hR0, Keep.refl _ _⟩
    · have hf : s.fault = none := fo.code.1 (by omega)
      try simp -dsimp only [↓RE,↓c_seq,RU,RL,if_true,if_false,forall_const,implies_true,Nat.reduceLeDiff,Nat.reduceLT,pureOp,binPure,intBin,strBin,eqPure,isConstO,unPure,sliceLo,sliceHi,slicePure,lenPure,minPure,maxPure,buildP,resK,endV,yieldE,↓reduceIte,Nat.reduceEqDiff,reduceCtorEq,Nat.reduceAdd,Nat.reduceMul,Nat.reduceSub,Int.reduceLT,Int.reduceLE,Int.reduceToNat,Int.reduceAdd,Int.reduceSub,Int.reduceMul,ne_eq,decide_true,decide_false,tf72, he0, he1]
      refine rrest_ok hR0 ok (fun w1 g1 => ?_)
      have hR1 := hR0.grow g1
      have hB1 := hB.grow g1
      have hc1 : w1.cell? ⟨p, 1, none⟩ = some (.int .i64 s.pos) := hB1.cell 1
      have hd0 : w1.drew.cell? ⟨p, 0, none⟩ = some (.slice A s.xs.length c) := hB1.drew.cell 0
      have hd1 : w1.drew.cell? ⟨p, 1, none⟩ = some (.int .i64 s.pos) := hB1.drew.cell 1
      cases hr : rRest s with
      | true =>
        have hb : rBeg n s = rFail s (errAt (s.pos - 1) 31) := by unfold rBeg; rw [if_neg (by simp [hf]), if_pos hr]
        have hp1 : 0 < s.pos := by
          unfold rRest at hr
          simp only [Bool.and_eq_true, decide_eq_true_eq] at hr
          exact ok.b1 hr.1
        have hw : IntKind.i64.wrap ((s.pos : Int) - 1) = ((s.pos - 1 : Nat) : Int) := by rw [wrap_i64_in (by omega) (by omega)]; omega
        try simp -dsimp only [↓RE,↓c_seq,RU,RL,if_true,if_false,forall_const,implies_true,Nat.reduceLeDiff,Nat.reduceLT,pureOp,binPure,intBin,strBin,eqPure,isConstO,unPure,sliceLo,sliceHi,slicePure,lenPure,minPure,maxPure,buildP,resK,endV,yieldE,↓reduceIte,Nat.reduceEqDiff,reduceCtorEq,Nat.reduceAdd,Nat.reduceMul,Nat.reduceSub,Int.reduceLT,Int.reduceLE,Int.reduceToNat,Int.reduceAdd,Int.reduceSub,Int.reduceMul,ne_eq,decide_true,decide_false,tf72, he0, he1, hc1, hw]
        refine rat_ok (by decide) (fun w2 g2 => ?_)
        try simp -dsimp only [↓RE,↓c_seq,RU,RL,if_true,if_false,forall_const,implies_true,Nat.reduceLeDiff,Nat.reduceLT,pureOp,binPure,intBin,strBin,eqPure,isConstO,unPure,sliceLo,sliceHi,slicePure,lenPure,minPure,maxPure,buildP,resK,endV,yieldE,↓reduceIte,Nat.reduceEqDiff,reduceCtorEq,Nat.reduceAdd,Nat.reduceMul,Nat.reduceSub,Int.reduceLT,Int.reduceLE,Int.reduceToNat,Int.reduceAdd,Int.reduceSub,Int.reduceMul,ne_eq,decide_true,decide_false,tf72, he0, he1]
        refine rrfail_ok (er := errAt (s.pos - 1) 31) (hR1.grow g2) fo (fun w3 hR3 k3 => ?_)
        rw [hb]
        try simp -dsimp only [↓RE,↓c_seq,RU,RL,if_true,if_false,forall_const,implies_true,Nat.reduceLeDiff,Nat.reduceLT,pureOp,binPure,intBin,strBin,eqPure,isConstO,unPure,sliceLo,sliceHi,slicePure,lenPure,minPure,maxPure,buildP,resK,endV,yieldE,↓reduceIte,Nat.reduceEqDiff,reduceCtorEq,Nat.reduceAdd,Nat.reduceMul,Nat.reduceSub,Int.reduceLT,Int.reduceLE,Int.reduceToNat,Int.reduceAdd,Int.reduceSub,Int.reduceMul,ne_eq,decide_true,decide_false,tf72, he0, he1]
        exact hold_intro ⟨by simp -dsimp only [↓RE,↓c_seq,RU,RL,if_true,if_false,forall_const,implies_true,Nat.reduceLeDiff,Nat.reduceLT,pureOp,binPure,intBin,strBin,eqPure,isConstO,unPure,sliceLo,sliceHi,slicePure,lenPure,minPure,maxPure,buildP,resK,endV,yieldE,↓reduceIte,Nat.reduceEqDiff,reduceCtorEq,Nat.reduceAdd,Nat.reduceMul,Nat.reduceSub,Int.reduceLT,Int.reduceLE,Int.reduceToNat,Int.reduceAdd,Int.reduceSub,Int.reduceMul,ne_eq,decide_true,decide_false,tf72, he0], hR3, (g1.trans g2).then k3⟩
      | false =>
        have hw : IntKind.i64.wrap ((s.xs.length : Int) - (s.pos : Int)) = ((s.xs.length - s.pos : Nat) : Int) := by rw [wrap_i64_in (by omega) (by omega)]; omega
        try simp -dsimp only [↓RE,↓c_seq,RU,RL,if_true,if_false,forall_const,implies_true,Nat.reduceLeDiff,Nat.reduceLT,pureOp,binPure,intBin,strBin,eqPure,isConstO,unPure,sliceLo,sliceHi,slicePure,lenPure,minPure,maxPure,buildP,resK,endV,yieldE,↓reduceIte,Nat.reduceEqDiff,reduceCtorEq,Nat.reduceAdd,Nat.reduceMul,Nat.reduceSub,Int.reduceLT,Int.reduceLE,Int.reduceToNat,Int.reduceAdd,Int.reduceSub,Int.reduceMul,ne_eq,decide_true,decide_false,tf72, he0, he1]
        refine wpDraw_still (by kernel_rfl) ?_
        try simp -dsimp only [↓RE,↓c_seq,RU,RL,if_true,if_false,forall_const,implies_true,Nat.reduceLeDiff,Nat.reduceLT,pureOp,binPure,intBin,strBin,eqPure,isConstO,unPure,sliceLo,sliceHi,slicePure,lenPure,minPure,maxPure,buildP,resK,endV,yieldE,↓reduceIte,Nat.reduceEqDiff,reduceCtorEq,Nat.reduceAdd,Nat.reduceMul,Nat.reduceSub,Int.reduceLT,Int.reduceLE,Int.reduceToNat,Int.reduceAdd,Int.reduceSub,Int.reduceMul,ne_eq,decide_true,decide_false,tf72, he0, he1, hd0, hd1, hw]
        refine ⟨fun hlt => ?_, fun hge => ?_⟩
        · have hb : rBeg n s = rFail s (errAt s.xs.length 30) := by unfold rBeg; rw [if_neg (by simp [hf]), if_neg (by simp [hr]), if_pos (by omega)]
          try simp -dsimp only [↓RE,↓c_seq,RU,RL,if_true,if_false,forall_const,implies_true,Nat.reduceLeDiff,Nat.reduceLT,pureOp,binPure,intBin,strBin,eqPure,isConstO,unPure,sliceLo,sliceHi,slicePure,lenPure,minPure,maxPure,buildP,resK,endV,yieldE,↓reduceIte,Nat.reduceEqDiff,reduceCtorEq,Nat.reduceAdd,Nat.reduceMul,Nat.reduceSub,Int.reduceLT,Int.reduceLE,Int.reduceToNat,Int.reduceAdd,Int.reduceSub,Int.reduceMul,ne_eq,decide_true,decide_false,tf72, he0, he1, hd0, hd1]
          refine rat_ok (by decide) (fun w2 g2 => ?_)
          try simp -dsimp only [↓RE,↓c_seq,RU,RL,if_true,if_false,forall_const,implies_true,Nat.reduceLeDiff,Nat.reduceLT,pureOp,binPure,intBin,strBin,eqPure,isConstO,unPure,sliceLo,sliceHi,slicePure,lenPure,minPure,maxPure,buildP,resK,endV,yieldE,↓reduceIte,Nat.reduceEqDiff,reduceCtorEq,Nat.reduceAdd,Nat.reduceMul,Nat.reduceSub,Int.reduceLT,Int.reduceLE,Int.reduceToNat,Int.reduceAdd,Int.reduceSub,Int.reduceMul,ne_eq,decide_true,decide_false,tf72, he0, he1]
          refine rrfail_ok (er := errAt s.xs.length 30) ((hR1.grow (Grow.drew w1)).grow g2) fo (fun w3 hR3 k3 => ?_)
          rw [hb]
          try simp -dsimp only [↓RE,↓c_seq,RU,RL,if_true,if_false,forall_const,implies_true,Nat.reduceLeDiff,Nat.reduceLT,pureOp,binPure,intBin,strBin,eqPure,isConstO,unPure,sliceLo,sliceHi,slicePure,lenPure,minPure,maxPure,buildP,resK,endV,yieldE,↓reduceIte,Nat.reduceEqDiff,reduceCtorEq,Nat.reduceAdd,Nat.reduceMul,Nat.reduceSub,Int.reduceLT,Int.reduceLE,Int.reduceToNat,Int.reduceAdd,Int.reduceSub,Int.reduceMul,ne_eq,decide_true,decide_false,tf72, he0, he1]
          exact hold_intro ⟨by simp -dsimp only [↓RE,↓c_seq,RU,RL,if_true,if_false,forall_const,implies_true,Nat.reduceLeDiff,Nat.reduceLT,pureOp,binPure,intBin,strBin,eqPure,isConstO,unPure,sliceLo,sliceHi,slicePure,lenPure,minPure,maxPure,buildP,resK,endV,yieldE,↓reduceIte,Nat.reduceEqDiff,reduceCtorEq,Nat.reduceAdd,Nat.reduceMul,Nat.reduceSub,Int.reduceLT,Int.reduceLE,Int.reduceToNat,Int.reduceAdd,Int.reduceSub,Int.reduceMul,ne_eq,decide_true,decide_false,tf72, he0], hR3, ((g1.trans (Grow.drew w1)).trans g2).then k3⟩
        · have hb : rBeg n s = s := by unfold rBeg; rw [if_neg (by simp [hf]), if_neg (by simp [hr]), if_neg (by omega)]
          rw [hb]
          try simp -dsimp only [↓RE,↓c_seq,RU,RL,if_true,if_false,forall_const,implies_true,Nat.reduceLeDiff,Nat.reduceLT,pureOp,binPure,intBin,strBin,eqPure,isConstO,unPure,sliceLo,sliceHi,slicePure,lenPure,minPure,maxPure,buildP,resK,endV,yieldE,↓reduceIte,Nat.reduceEqDiff,reduceCtorEq,Nat.reduceAdd,Nat.reduceMul,Nat.reduceSub,Int.reduceLT,Int.reduceLE,Int.reduceToNat,Int.reduceAdd,Int.reduceSub,Int.reduceMul,ne_eq,decide_true,decide_false,tf72, he0, he1]
          exact hold_intro ⟨by simp -dsimp only [↓RE,↓c_seq,RU,RL,if_true,if_false,forall_const,implies_true,Nat.reduceLeDiff,Nat.reduceLT,pureOp,binPure,intBin,strBin,eqPure,isConstO,unPure,sliceLo,sliceHi,slicePure,lenPure,minPure,maxPure,buildP,resK,endV,yieldE,↓reduceIte,Nat.reduceEqDiff,reduceCtorEq,Nat.reduceAdd,Nat.reduceMul,Nat.reduceSub,Int.reduceLT,Int.reduceLE,Int.reduceToNat,Int.reduceAdd,Int.reduceSub,Int.reduceMul,ne_eq,decide_true,decide_false,tf72, he0], hR1.grow (Grow.drew w1), (g1.trans (Grow.drew w1)).then (Keep.refl _ _)⟩
  · rintro e' w' ⟨h0, hR', hk⟩
    have hfo := (rBeg_fok (n := n) fo).code
    have hR'' := hR'
    obtain ⟨A, c, hB, hRd, hp, hc, hFF⟩ := hR'
    have hc3 : w'.cell? ⟨p, 3, none⟩ = some (.int .i64 (badF (rBeg n s).fault).code) := hB.cell 3
    have hd : decide ((badF (rBeg n s).fault).code = 0) = decide ((rBeg n s).fault = none) := by rw [decide_eq_decide]; exact hfo
    try simp -dsimp only [↓RE,↓c_seq,RU,RL,if_true,if_false,forall_const,implies_true,Nat.reduceLeDiff,Nat.reduceLT,pureOp,binPure,intBin,strBin,eqPure,isConstO,unPure,sliceLo,sliceHi,slicePure,lenPure,minPure,maxPure,buildP,resK,endV,yieldE,↓reduceIte,Nat.reduceEqDiff,reduceCtorEq,Nat.reduceAdd,Nat.reduceMul,Nat.reduceSub,Int.reduceLT,Int.reduceLE,Int.reduceToNat,Int.reduceAdd,Int.reduceSub,Int.reduceMul,ne_eq,decide_true,decide_false,tf72, h0, hc3, hd]
    exact h w' hR'' hk

end Go.Proofs.YtmgiichlccdcfaaGreatDoor

namespace Go.Proofs.YtmgiichlccdcfaaGreatDoor
open Go

theorem rnewReader_ok {w : World} {A : Option Addr} {n c : Nat} {xs : List Int} (hR : Rd w A n 1 (xs.map (Value.int .u8))) (hb : n ≤ 140737488355328) {R : VWK}
    (h : ∀ w' F p, RMAt w' F p ⟨xs, 0, 0, none⟩ → Grow w w' → (∀ k, F k → w.heap.size ≤ k) → R (.pointer (some ⟨p, 0, none⟩)) w') :
    CallsV Tryz.prog 18 [.slice A n c] w R := by
  have hl := hR.len1
  refine calls_of_wpC mixed Tryz.func18 rfl (by kernel_rfl) ?_
  intro e he
  have he0 := he 0
  simp only [List.getD_cons_zero, List.getD_cons_succ] at he0
  clear he
  try simp -dsimp only [↓RE,↓c_seq,RU,RL,if_true,if_false,forall_const,implies_true,Nat.reduceLeDiff,Nat.reduceLT,pureOp,binPure,intBin,strBin,eqPure,isConstO,unPure,sliceLo,sliceHi,slicePure,lenPure,minPure,maxPure,buildP,resK,endV,yieldE,↓reduceIte,Nat.reduceEqDiff,reduceCtorEq,Nat.reduceAdd,Nat.reduceMul,Nat.reduceSub,Int.reduceLT,Int.reduceLE,Int.reduceToNat,Int.reduceAdd,Int.reduceSub,Int.reduceMul,ne_eq,decide_true,decide_false,tf18, he0]
  have hB1 := Blk.new' w 88 #[.slice none 0 0, .int .i64 0, .int .i64 0, .int .i64 0, .int .i64 0, .int .i64 0, .bool false, .bool false]
  have g1 := Grow.alloc w (.cells #[.slice none 0 0, .int .i64 0, .int .i64 0, .int .i64 0, .int .i64 0, .int .i64 0, .bool false, .bool false] 88)
  generalize hw1 : w.alloc (.cells #[.slice none 0 0, .int .i64 0, .int .i64 0, .int .i64 0, .int .i64 0, .int .i64 0, .bool false, .bool false] 88) = w1 at hB1 g1
  try simp -dsimp only [↓RE,↓c_seq,RU,RL,if_true,if_false,forall_const,implies_true,Nat.reduceLeDiff,Nat.reduceLT,pureOp,binPure,intBin,strBin,eqPure,isConstO,unPure,sliceLo,sliceHi,slicePure,lenPure,minPure,maxPure,buildP,resK,endV,yieldE,↓reduceIte,Nat.reduceEqDiff,reduceCtorEq,Nat.reduceAdd,Nat.reduceMul,Nat.reduceSub,Int.reduceLT,Int.reduceLE,Int.reduceToNat,Int.reduceAdd,Int.reduceSub,Int.reduceMul,ne_eq,decide_true,decide_false,tf18, he0, hB1.cell, hw1]
  refine appK_own (bytes := 1) (by kernel_rfl) (own_nil w1 5 1) (hR.grow g1) (ints_one _ _) (by simp only [maxLen]; omega) (by omega) (fun A' c' w2 hO2 hK2 hF2 => ?_)
  have hO2 : w2.ownsRow 0 5 1 (.slice A' n c') n (xs.map (Value.int .u8)) := by simpa using hO2
  rw [Nat.zero_add]
  have k2 : Grow w1 w2 := hK2.mono (fun i _ hf => absurd hf (fpV_none i))
  have hF2 : ∀ k, fpA A' k → k = w1.heap.size := fun k hk => (hF2 k (by rw [Nat.zero_add, fpV_fpA]; exact hk)).elim (fun h => absurd h (fpV_none k)) id
  have hp1 : w.heap.size < w1.heap.size := hB1.lt
  try simp -dsimp only [↓RE,↓c_seq,RU,RL,if_true,if_false,forall_const,implies_true,Nat.reduceLeDiff,Nat.reduceLT,pureOp,binPure,intBin,strBin,eqPure,isConstO,unPure,sliceLo,sliceHi,slicePure,lenPure,minPure,maxPure,buildP,resK,endV,yieldE,↓reduceIte,Nat.reduceEqDiff,reduceCtorEq,Nat.reduceAdd,Nat.reduceMul,Nat.reduceSub,Int.reduceLT,Int.reduceLE,Int.reduceToNat,Int.reduceAdd,Int.reduceSub,Int.reduceMul,ne_eq,decide_true,decide_false,tf18, he0]
  refine (hB1.grow k2).st (i := 0) (by simp) ?_
  have hB3 := (hB1.grow k2).set 0 (.slice A' n c')
  have hB3 : Blk (w2.setCell ⟨w.heap.size, 0, none⟩ (.slice A' n c')) w.heap.size 88 ([.slice A' xs.length c', .int .i64 (0 : Nat), .int .i64 (0 : Nat)] ++ (badF none).cells) := by rw [hl]; simpa [badF, BadV.none, BadV.cells] using hB3
  have k3 := Keep.set1 w2 w.heap.size 0 (.slice A' n c')
  have hO3 := own_keep hO2 k3 (fun k hk e => by rw [fpV_fpA] at hk; have := hF2 k hk; omega)
  obtain ⟨A2, c2, e2, hc2, _⟩ := own_form hO2
  injection e2 with e2a e2b e2c
  subst e2a; subst e2c
  try simp -dsimp only [↓RE,↓c_seq,RU,RL,if_true,if_false,forall_const,implies_true,Nat.reduceLeDiff,Nat.reduceLT,pureOp,binPure,intBin,strBin,eqPure,isConstO,unPure,sliceLo,sliceHi,slicePure,lenPure,minPure,maxPure,buildP,resK,endV,yieldE,↓reduceIte,Nat.reduceEqDiff,reduceCtorEq,Nat.reduceAdd,Nat.reduceMul,Nat.reduceSub,Int.reduceLT,Int.reduceLE,Int.reduceToNat,Int.reduceAdd,Int.reduceSub,Int.reduceMul,ne_eq,decide_true,decide_false,tf18, he0]
  refine h _ _ _ ⟨A', c', hB3, by rw [hl]; exact Rd.of_own hO3, fun _ hf => by have := hF2 _ hf; omega, by rw [hl]; exact hc2, rfl⟩ ((g1.trans k2).above k3 (fun i hi e => by omega)) ?_
  rintro k (rfl | ⟨_, hk⟩)
  · exact Nat.le_refl _
  · have := hF2 k hk; omega

end Go.Proofs.YtmgiichlccdcfaaGreatDoor

namespace Go.Proofs.YtmgiichlccdcfaaGreatDoor
open Go

/-- a number that is looked at, and how many bytes it has; nothing moves. -/
def rNum2 (most above : Int) (s : RS) : RS × Int × Nat :=
  if (rBegin s).2 then match scan (s.xs.drop s.pos) 0 0 s.pos with
    | .error (i, e) => (rFail s (errAt i e), 0, 0)
    | .ok (v, i) => if most < v then (rFail s (errAt s.pos above), 0, 0) else (s, v, i - s.pos)
  else ((rBegin s).1, 0, 0)
theorem rFail_pos (s : RS) (e : Option (TypeId × Value)) : (rFail s e).pos = s.pos ∧ (rFail s e).bits = s.bits := by unfold rFail; split <;> exact ⟨rfl, rfl⟩
theorem rBegin_pos (s : RS) : (rBegin s).1.pos = s.pos ∧ (rBegin s).1.bits = s.bits := by
  unfold rBegin; split
  · exact ⟨rfl, rfl⟩
  split
  · exact rFail_pos _ _
  · exact ⟨rfl, rfl⟩
theorem rFail_err' (s : RS) (p : Nat) (e : Int) : (rFail s (errAt p e)).fault ≠ none := by
  unfold rFail; split
  · simp [errAt]
  · assumption
theorem rBegin_bad {s : RS} (h : ¬ (rBegin s).2 = true) : (rBegin s).1.fault ≠ none := by
  unfold rBegin at h ⊢
  split
  · assumption
  · rename_i h0
    split
    · exact rFail_err' _ _ _
    · rename_i h1
      rw [if_neg h0, if_neg h1] at h
      exact absurd rfl h
theorem rNum2_spec (most above : Int) (s : RS) :
    (0 < (rNum2 most above s).2.2 → (rBegin s).2 = true ∧ (rNum2 most above s).1 = s ∧ s.fault = none ∧ rNumber most above s = ({ s with pos := s.pos + (rNum2 most above s).2.2, bits := 0 }, (rNum2 most above s).2.1) ∧ s.pos + (rNum2 most above s).2.2 ≤ max s.pos s.xs.length) ∧
    ((rNum2 most above s).2.2 = 0 → rNumber most above s = ((rNum2 most above s).1, 0) ∧ (rNum2 most above s).2.1 = 0 ∧ (rNum2 most above s).1.fault ≠ none ∧ (rNum2 most above s).1.pos = s.pos ∧ (rNum2 most above s).1.bits = s.bits) := by
  unfold rNum2 rNumber
  by_cases hb : (rBegin s).2 = true
  · obtain ⟨_, hf, _⟩ := rBegin_true hb
    rw [if_pos hb, if_pos hb]
    cases hsc : scan (s.xs.drop s.pos) 0 0 s.pos with
    | error x =>
      obtain ⟨i, e⟩ := x
      simp only
      exact ⟨fun h => absurd h (by omega), fun _ => ⟨trivial, trivial, rFail_err' _ _ _, rFail_pos _ _⟩⟩
    | ok x =>
      obtain ⟨v, i⟩ := x
      simp only
      have hp := scan_pos _ _ _ _ hsc
      rw [List.length_drop] at hp
      by_cases hm : most < v
      · rw [if_pos hm, if_pos hm]
        exact ⟨fun h => absurd h (by simp), fun _ => ⟨rfl, rfl, rFail_err' _ _ _, rFail_pos _ _⟩⟩
      · rw [if_neg hm, if_neg hm]
        refine ⟨fun _ => ⟨hb, rfl, hf, ?_, ?_⟩, fun h => absurd h (by simp only; omega)⟩
        · simp only; rw [show s.pos + (i - s.pos) = i by omega]
        · simp only; omega
  · rw [if_neg hb, if_neg hb]
    exact ⟨fun h => absurd h (by simp), fun _ => ⟨rfl, rfl, rBegin_bad hb, rBegin_pos s⟩⟩

set_option maxHeartbeats 400000 in
theorem rrnumber_ok {w : World} {F : Nat → Prop} {p : Nat} {s : RS} (hR : RMAt w F p s) (ok : RSok s) (fo : FOk s.fault) {most above : Int} (m0 : 0 ≤ most) (ha : above ≠ 0) {R : VWK}
    (h : ∀ w', RMAt w' F p (rNum2 most above s).1 → Keep (fun k => k = p) w w' → R (.tuple #[.int .u64 (rNum2 most above s).2.1, .int .i64 (rNum2 most above s).2.2]) w') :
    CallsV Tryz.prog 39 [.pointer (some ⟨p, 0, none⟩), .int .u64 most, .int .i64 above] w R := by
  have hle := ok.le
  have hln := ok.len
  obtain ⟨bb1, bb2⟩ := rBeg_begin s
  refine calls_of_wpC mixed Tryz.func39 rfl (by kernel_rfl) ?_
  intro e he
  have he0 := he 0
  have he1 := he 1
  have he2 := he 2
  simp only [List.getD_cons_zero, List.getD_cons_succ] at he0 he1 he2
  clear he
  try simp -dsimp only [↓RE,↓c_seq,RU,RL,if_true,if_false,forall_const,implies_true,Nat.reduceLeDiff,Nat.reduceLT,pureOp,binPure,intBin,strBin,eqPure,isConstO,unPure,sliceLo,sliceHi,slicePure,lenPure,minPure,maxPure,buildP,resK,endV,yieldE,↓reduceIte,Nat.reduceEqDiff,reduceCtorEq,Nat.reduceAdd,Nat.reduceMul,Nat.reduceSub,Int.reduceLT,Int.reduceLE,Int.reduceToNat,Int.reduceAdd,Int.reduceSub,Int.reduceMul,ne_eq,decide_true,decide_false,tf39, he0]
  unfold rNum2 at h
  refine rbegin_ok (n := 0) hR ok fo (by omega) (fun w1 hR1 k1 => ?_)
  by_cases hb : (rBegin s).2 = true
  case neg =>
    rw [if_neg hb] at h
    rw [bb1] at hR1
    have hd : decide ((rBeg 0 s).fault = none) = false := by rw [decide_eq_false_iff_not]; exact fun h => hb (bb2.1 h)
    try simp -dsimp only [↓RE,↓c_seq,RU,RL,if_true,if_false,forall_const,implies_true,Nat.reduceLeDiff,Nat.reduceLT,pureOp,binPure,intBin,strBin,eqPure,isConstO,unPure,sliceLo,sliceHi,slicePure,lenPure,minPure,maxPure,buildP,resK,endV,yieldE,↓reduceIte,Nat.reduceEqDiff,reduceCtorEq,Nat.reduceAdd,Nat.reduceMul,Nat.reduceSub,Int.reduceLT,Int.reduceLE,Int.reduceToNat,Int.reduceAdd,Int.reduceSub,Int.reduceMul,ne_eq,decide_true,decide_false,tf39, he0, hd]
    exact h w1 hR1 k1
  case pos =>
    rw [if_pos hb] at h
    obtain ⟨e1, hft, _⟩ := rBegin_true hb
    rw [bb1, e1] at hR1
    have hd : decide ((rBeg 0 s).fault = none) = true := decide_eq_true (bb2.2 hb)
    try simp -dsimp only [↓RE,↓c_seq,RU,RL,if_true,if_false,forall_const,implies_true,Nat.reduceLeDiff,Nat.reduceLT,pureOp,binPure,intBin,strBin,eqPure,isConstO,unPure,sliceLo,sliceHi,slicePure,lenPure,minPure,maxPure,buildP,resK,endV,yieldE,↓reduceIte,Nat.reduceEqDiff,reduceCtorEq,Nat.reduceAdd,Nat.reduceMul,Nat.reduceSub,Int.reduceLT,Int.reduceLE,Int.reduceToNat,Int.reduceAdd,Int.reduceSub,Int.reduceMul,ne_eq,decide_true,decide_false,tf39, he0, he1, he2, hd]
    refine wpLoop_intro (fun e' w' => Grow w1 w' ∧ e' 0 = .pointer (some ⟨p, 0, none⟩) ∧ e' 1 = .int .u64 most ∧ e' 2 = .int .i64 above ∧ ∃ (k : Nat) (v : Int), e' 9 = .int .i64 k ∧ e' 8 = .int .u64 v ∧ k ≤ 9 ∧ 0 ≤ v ∧ v < 2 ^ (7 * k) ∧ s.pos + k ≤ s.xs.length ∧
      scan (s.xs.drop (s.pos + k)) k v (s.pos + k) = scan (s.xs.drop s.pos) 0 0 s.pos) (fun e' _ => 10 - (envInt (e' 9)).toNat) ⟨Keep.refl _ _, ?_, ?_, ?_, 0, 0, ?_, ?_, by omega, by omega, by simp, by omega, rfl⟩ ?_
    · simp -dsimp only [↓RE,↓c_seq,RU,RL,if_true,if_false,forall_const,implies_true,Nat.reduceLeDiff,Nat.reduceLT,pureOp,binPure,intBin,strBin,eqPure,isConstO,unPure,sliceLo,sliceHi,slicePure,lenPure,minPure,maxPure,buildP,resK,endV,yieldE,↓reduceIte,Nat.reduceEqDiff,reduceCtorEq,Nat.reduceAdd,Nat.reduceMul,Nat.reduceSub,Int.reduceLT,Int.reduceLE,Int.reduceToNat,Int.reduceAdd,Int.reduceSub,Int.reduceMul,ne_eq,decide_true,decide_false,tf39, he0]
    · simp -dsimp only [↓RE,↓c_seq,RU,RL,if_true,if_false,forall_const,implies_true,Nat.reduceLeDiff,Nat.reduceLT,pureOp,binPure,intBin,strBin,eqPure,isConstO,unPure,sliceLo,sliceHi,slicePure,lenPure,minPure,maxPure,buildP,resK,endV,yieldE,↓reduceIte,Nat.reduceEqDiff,reduceCtorEq,Nat.reduceAdd,Nat.reduceMul,Nat.reduceSub,Int.reduceLT,Int.reduceLE,Int.reduceToNat,Int.reduceAdd,Int.reduceSub,Int.reduceMul,ne_eq,decide_true,decide_false,tf39, he1]
    · simp -dsimp only [↓RE,↓c_seq,RU,RL,if_true,if_false,forall_const,implies_true,Nat.reduceLeDiff,Nat.reduceLT,pureOp,binPure,intBin,strBin,eqPure,isConstO,unPure,sliceLo,sliceHi,slicePure,lenPure,minPure,maxPure,buildP,resK,endV,yieldE,↓reduceIte,Nat.reduceEqDiff,reduceCtorEq,Nat.reduceAdd,Nat.reduceMul,Nat.reduceSub,Int.reduceLT,Int.reduceLE,Int.reduceToNat,Int.reduceAdd,Int.reduceSub,Int.reduceMul,ne_eq,decide_true,decide_false,tf39, he2]
    · simp -dsimp only [↓RE,↓c_seq,RU,RL,if_true,if_false,forall_const,implies_true,Nat.reduceLeDiff,Nat.reduceLT,pureOp,binPure,intBin,strBin,eqPure,isConstO,unPure,sliceLo,sliceHi,slicePure,lenPure,minPure,maxPure,buildP,resK,endV,yieldE,↓reduceIte,Nat.reduceEqDiff,reduceCtorEq,Nat.reduceAdd,Nat.reduceMul,Nat.reduceSub,Int.reduceLT,Int.reduceLE,Int.reduceToNat,Int.reduceAdd,Int.reduceSub,Int.reduceMul,ne_eq,decide_true,decide_false,tf39, he0, Int.cast_ofNat_Int]
    · simp -dsimp only [↓RE,↓c_seq,RU,RL,if_true,if_false,forall_const,implies_true,Nat.reduceLeDiff,Nat.reduceLT,pureOp,binPure,intBin,strBin,eqPure,isConstO,unPure,sliceLo,sliceHi,slicePure,lenPure,minPure,maxPure,buildP,resK,endV,yieldE,↓reduceIte,Nat.reduceEqDiff,reduceCtorEq,Nat.reduceAdd,Nat.reduceMul,Nat.reduceSub,Int.reduceLT,Int.reduceLE,Int.reduceToNat,Int.reduceAdd,Int.reduceSub,Int.reduceMul,ne_eq,decide_true,decide_false,tf39, he0]
    rintro e' w' ⟨gw, h0, h1, h2, k, v, h9, h8, hk, v0, v1, hi, hsc⟩
    have hR2 := (hR1.grow gw).grow (Grow.drew w')
    have gd := gw.trans (Grow.drew w')
    generalize hwd : w'.drew = wd at hR2 gd
    have hR2' := hR2
    obtain ⟨A, c, hB, hRd, hp, hc, hF⟩ := hR2'
    have hc0 : wd.cell? ⟨p, 0, none⟩ = some (.slice A s.xs.length c) := hB.cell 0
    have hc1 : wd.cell? ⟨p, 1, none⟩ = some (.int .i64 s.pos) := hB.cell 1
    have hwk : IntKind.i64.wrap ((s.pos : Int) + (k : Int)) = ((s.pos + k : Nat) : Int) := by rw [wrap_i64_in (by omega) (by omega)]; omega
    have kk1 : ∀ {w2 : World}, Keep (fun k => k = p) wd w2 → Keep (fun k => k = p) w w2 := fun k2 => (k1.then_grow gd).trans k2 (H := fun k => k = p) (fun _ _ h => h) (fun _ _ h => h)
    try simp -dsimp only [↓RE,↓c_seq,RU,RL,if_true,if_false,forall_const,implies_true,Nat.reduceLeDiff,Nat.reduceLT,pureOp,binPure,intBin,strBin,eqPure,isConstO,unPure,sliceLo,sliceHi,slicePure,lenPure,minPure,maxPure,buildP,resK,endV,yieldE,↓reduceIte,Nat.reduceEqDiff,reduceCtorEq,Nat.reduceAdd,Nat.reduceMul,Nat.reduceSub,Int.reduceLT,Int.reduceLE,Int.reduceToNat,Int.reduceAdd,Int.reduceSub,Int.reduceMul,ne_eq,decide_true,decide_false,tf39, h0, h1, h2, h9, h8]
    refine wpDraw_still (by kernel_rfl) ?_
    try simp -dsimp only [↓RE,↓c_seq,RU,RL,if_true,if_false,forall_const,implies_true,Nat.reduceLeDiff,Nat.reduceLT,pureOp,binPure,intBin,strBin,eqPure,isConstO,unPure,sliceLo,sliceHi,slicePure,lenPure,minPure,maxPure,buildP,resK,endV,yieldE,↓reduceIte,Nat.reduceEqDiff,reduceCtorEq,Nat.reduceAdd,Nat.reduceMul,Nat.reduceSub,Int.reduceLT,Int.reduceLE,Int.reduceToNat,Int.reduceAdd,Int.reduceSub,Int.reduceMul,ne_eq,decide_true,decide_false,tf39, h0, h1, h2, h9, h8, hwd, hc0, hc1, hwk]
    refine ⟨fun heq => ?_, fun hne => ?_⟩
    · obtain hik : s.pos + k = s.xs.length := by omega
      rw [hik, List.drop_length] at hsc
      rw [← hsc] at h
      try simp -dsimp only [↓RE,↓c_seq,RU,RL,if_true,if_false,forall_const,implies_true,Nat.reduceLeDiff,Nat.reduceLT,pureOp,binPure,intBin,strBin,eqPure,isConstO,unPure,sliceLo,sliceHi,slicePure,lenPure,minPure,maxPure,buildP,resK,endV,yieldE,↓reduceIte,Nat.reduceEqDiff,reduceCtorEq,Nat.reduceAdd,Nat.reduceMul,Nat.reduceSub,Int.reduceLT,Int.reduceLE,Int.reduceToNat,Int.reduceAdd,Int.reduceSub,Int.reduceMul,ne_eq,decide_true,decide_false,tf39, h0, hc0]
      refine rat_ok (by decide) (fun w2 g2 => ?_)
      try simp -dsimp only [↓RE,↓c_seq,RU,RL,if_true,if_false,forall_const,implies_true,Nat.reduceLeDiff,Nat.reduceLT,pureOp,binPure,intBin,strBin,eqPure,isConstO,unPure,sliceLo,sliceHi,slicePure,lenPure,minPure,maxPure,buildP,resK,endV,yieldE,↓reduceIte,Nat.reduceEqDiff,reduceCtorEq,Nat.reduceAdd,Nat.reduceMul,Nat.reduceSub,Int.reduceLT,Int.reduceLE,Int.reduceToNat,Int.reduceAdd,Int.reduceSub,Int.reduceMul,ne_eq,decide_true,decide_false,tf39, h0]
      refine rrfail_ok (er := errAt s.xs.length 30) (hR2.grow g2) fo (fun w3 hR3 k3 => ?_)
      try simp -dsimp only [↓RE,↓c_seq,RU,RL,if_true,if_false,forall_const,implies_true,Nat.reduceLeDiff,Nat.reduceLT,pureOp,binPure,intBin,strBin,eqPure,isConstO,unPure,sliceLo,sliceHi,slicePure,lenPure,minPure,maxPure,buildP,resK,endV,yieldE,↓reduceIte,Nat.reduceEqDiff,reduceCtorEq,Nat.reduceAdd,Nat.reduceMul,Nat.reduceSub,Int.reduceLT,Int.reduceLE,Int.reduceToNat,Int.reduceAdd,Int.reduceSub,Int.reduceMul,ne_eq,decide_true,decide_false,tf39, h0]
      exact h w3 hR3 (kk1 (g2.then k3))
    have hil : s.pos + k < s.xs.length := by omega
    have hR3 := hR2.grow (Grow.drew wd)
    have gd3 := gd.trans (Grow.drew wd)
    try simp -dsimp only [↓RE,↓c_seq,RU,RL,if_true,if_false,forall_const,implies_true,Nat.reduceLeDiff,Nat.reduceLT,pureOp,binPure,intBin,strBin,eqPure,isConstO,unPure,sliceLo,sliceHi,slicePure,lenPure,minPure,maxPure,buildP,resK,endV,yieldE,↓reduceIte,Nat.reduceEqDiff,reduceCtorEq,Nat.reduceAdd,Nat.reduceMul,Nat.reduceSub,Int.reduceLT,Int.reduceLE,Int.reduceToNat,Int.reduceAdd,Int.reduceSub,Int.reduceMul,ne_eq,decide_true,decide_false,tf39, h0, h1, h2, h9, h8]
    refine wpDraw_still (by kernel_rfl) ?_
    generalize hwe : wd.drew = we at hR3 gd3
    have hR3' := hR3
    obtain ⟨A, c, hB, hRd, hp, hc, hF⟩ := hR3'
    have hc0 : we.cell? ⟨p, 0, none⟩ = some (.slice A s.xs.length c) := hB.cell 0
    have hc1 : we.cell? ⟨p, 1, none⟩ = some (.int .i64 s.pos) := hB.cell 1
    have kk1 : ∀ {w2 : World}, Keep (fun k => k = p) we w2 → Keep (fun k => k = p) w w2 := fun k2 => (k1.then_grow gd3).trans k2 (H := fun k => k = p) (fun _ _ h => h) (fun _ _ h => h)
    obtain ⟨ad, rfl, hcell⟩ := hRd.int (k := s.pos + k) hil
    have hcr := getD_mem_range ok.bytes (s.pos + k)
    have hdrop : s.xs.drop (s.pos + k) = s.xs.getD (s.pos + k) 0 :: s.xs.drop (s.pos + k + 1) := by
      rw [List.drop_eq_getElem_cons hil, List.getD_eq_getElem?_getD, List.getElem?_eq_getElem hil]; rfl
    rw [hdrop] at hsc
    generalize s.xs.getD (s.pos + k) 0 = b at hcell hcr hsc
    rw [scan_cons] at hsc
    simp -dsimp only [↓RE,RU,RL,if_true,if_false,forall_const,implies_true,Nat.reduceLeDiff,Nat.reduceLT,pureOp,binPure,intBin,strBin,eqPure,isConstO,unPure,sliceLo,sliceHi,slicePure,lenPure,minPure,maxPure,buildP,resK,endV,yieldE,↓reduceIte,Nat.reduceEqDiff,reduceCtorEq,Nat.reduceAdd,Nat.reduceMul,Nat.reduceSub,Int.reduceLT,Int.reduceLE,Int.reduceToNat,Int.reduceAdd,Int.reduceSub,Int.reduceMul,ne_eq,decide_true,decide_false,tf39, h0, h1, h2, h9, h8, hwd, hwe, hc0, hc1, hwk, Int.toNat_natCast]
    refine ⟨⟨by omega, by omega⟩, ?_⟩
    have bad : ((k = 9 ∧ 1 < b) ∨ (0 < k ∧ b = 0)) → ∀ w2, RMAt w2 F p (rFail s (errAt (s.pos + k) 31)) → Keep (fun k => k = p) we w2 → R (.tuple #[.int .u64 0, .int .i64 0]) w2 := fun hbd w2 hR2 k2 => by
      rw [if_pos hbd] at hsc
      rw [← hsc] at h
      exact h w2 hR2 (kk1 k2)
    have isbad : ((k = 9 ∧ 1 < b) ∨ (0 < k ∧ b = 0)) ∨ ¬ ((k = 9 ∧ 1 < b) ∨ (0 < k ∧ b = 0)) := Classical.em _
    have hks : k = 0 ∨ k = 1 ∨ k = 2 ∨ k = 3 ∨ k = 4 ∨ k = 5 ∨ k = 6 ∨ k = 7 ∨ k = 8 ∨ k = 9 := by omega
    -- what follows where it is good
    have hcv : b.tmod 128 = b % 128 := Int.tmod_eq_emod_of_nonneg hcr.1
    have hmul : IntKind.i64.wrap (7 * (k : Int)) = ((7 * k : Nat) : Int) := by rw [wrap_i64_in (by omega) (by omega)]; omega
    have hw2 : IntKind.i64.wrap ((k : Int) + 1) = ((k + 1 : Nat) : Int) := by rw [wrap_i64_in (by omega) (by omega)]; rfl
    have hconv : IntKind.u64.wrap (b % 128) = b % 128 := by rw [wrap_u64]; omega
    have hgd : ¬ ((k = 9 ∧ 1 < b) ∨ (0 < k ∧ b = 0)) → 0 ≤ b % 128 * 2 ^ (7 * k) ∧ b % 128 * 2 ^ (7 * k) < 18446744073709551616 ∧ v + b % 128 * 2 ^ (7 * k) < 18446744073709551616 ∧ (b < 128 ∨ k ≤ 8) ∧ v + b % 128 * 2 ^ (7 * k) < 2 ^ (7 * (k + 1)) := fun hgood => by
      rcases hks with rfl | rfl | rfl | rfl | rfl | rfl | rfl | rfl | rfl | rfl <;> simp at v1 hgood ⊢ <;> omega
    simp -dsimp only [↓RE,RU,RL,if_true,if_false,forall_const,implies_true,Nat.reduceLeDiff,Nat.reduceLT,pureOp,binPure,intBin,strBin,eqPure,isConstO,unPure,sliceLo,sliceHi,slicePure,lenPure,minPure,maxPure,buildP,resK,endV,yieldE,↓reduceIte,Nat.reduceEqDiff,reduceCtorEq,Nat.reduceAdd,Nat.reduceMul,Nat.reduceSub,Int.reduceLT,Int.reduceLE,Int.reduceToNat,Int.reduceAdd,Int.reduceSub,Int.reduceMul,ne_eq,decide_true,decide_false,tf39, h0, h1, h2, h9, h8, hwd, hwe, hc0, hc1, hwk, hcell, Int.toNat_natCast]
    refine c_seq_cut (fun e2 w2 => w2 = we ∧ e2 0 = .pointer (some ⟨p, 0, none⟩) ∧ e2 1 = .int .u64 most ∧ e2 2 = .int .i64 above ∧ e2 9 = .int .i64 k ∧ e2 8 = .int .u64 v ∧ e2 10 = .int .u8 b ∧ ¬ ((k = 9 ∧ 1 < b) ∨ (0 < k ∧ b = 0))) ?_ ?_
    · cases c9 : decide ((k : Int) = 9) <;> cases c1 : decide (1 < b) <;> cases c0 : decide (0 < (k : Int)) <;> cases cz : decide (b = 0)
      all_goals (have e9 := c9; have e1 := c1; have e0 := c0; have ez := cz; simp only [decide_eq_true_eq, decide_eq_false_iff_not] at e9 e1 e0 ez)
      all_goals try simp -dsimp only [↓RE,↓c_seq,RU,RL,if_true,if_false,forall_const,implies_true,Nat.reduceLeDiff,Nat.reduceLT,pureOp,binPure,intBin,strBin,eqPure,isConstO,unPure,sliceLo,sliceHi,slicePure,lenPure,minPure,maxPure,buildP,resK,endV,yieldE,↓reduceIte,Nat.reduceEqDiff,reduceCtorEq,Nat.reduceAdd,Nat.reduceMul,Nat.reduceSub,Int.reduceLT,Int.reduceLE,Int.reduceToNat,Int.reduceAdd,Int.reduceSub,Int.reduceMul,ne_eq,decide_true,decide_false,tf39, h0, h1, h2, h9, h8, c9, c1, c0, cz, Int.reduceEq, eq_self, undef, hc1, hwk]
      all_goals first
        | (refine hold_intro ⟨rfl, ?_, ?_, ?_, ?_, ?_, ?_, by omega⟩ <;> simp -dsimp only [↓RE,↓c_seq,RU,RL,if_true,if_false,forall_const,implies_true,Nat.reduceLeDiff,Nat.reduceLT,pureOp,binPure,intBin,strBin,eqPure,isConstO,unPure,sliceLo,sliceHi,slicePure,lenPure,minPure,maxPure,buildP,resK,endV,yieldE,↓reduceIte,Nat.reduceEqDiff,reduceCtorEq,Nat.reduceAdd,Nat.reduceMul,Nat.reduceSub,Int.reduceLT,Int.reduceLE,Int.reduceToNat,Int.reduceAdd,Int.reduceSub,Int.reduceMul,ne_eq,decide_true,decide_false,tf39, h0, h1, h2, h9, h8])
        | (refine rat_ok (by decide) (fun w2 g2 => ?_)
           try simp -dsimp only [↓RE,↓c_seq,RU,RL,if_true,if_false,forall_const,implies_true,Nat.reduceLeDiff,Nat.reduceLT,pureOp,binPure,intBin,strBin,eqPure,isConstO,unPure,sliceLo,sliceHi,slicePure,lenPure,minPure,maxPure,buildP,resK,endV,yieldE,↓reduceIte,Nat.reduceEqDiff,reduceCtorEq,Nat.reduceAdd,Nat.reduceMul,Nat.reduceSub,Int.reduceLT,Int.reduceLE,Int.reduceToNat,Int.reduceAdd,Int.reduceSub,Int.reduceMul,ne_eq,decide_true,decide_false,tf39, h0]
           refine rrfail_ok (er := errAt (s.pos + k) 31) (hR3.grow g2) fo (fun w3 hR4 k3 => ?_)
           try simp -dsimp only [↓RE,↓c_seq,RU,RL,if_true,if_false,forall_const,implies_true,Nat.reduceLeDiff,Nat.reduceLT,pureOp,binPure,intBin,strBin,eqPure,isConstO,unPure,sliceLo,sliceHi,slicePure,lenPure,minPure,maxPure,buildP,resK,endV,yieldE,↓reduceIte,Nat.reduceEqDiff,reduceCtorEq,Nat.reduceAdd,Nat.reduceMul,Nat.reduceSub,Int.reduceLT,Int.reduceLE,Int.reduceToNat,Int.reduceAdd,Int.reduceSub,Int.reduceMul,ne_eq,decide_true,decide_false,tf39, h0]
           exact bad (by omega) w3 hR4 (g2.then k3))
    · rintro e2 w2 ⟨rfl, g0, g1, g2, g9, g8, g10, hgood⟩
      rw [if_neg hgood] at hsc
      have hx := hgd hgood
      have hshl : shlOp .u64 (b % 128) ((7 * k : Nat) : Int) = b % 128 * 2 ^ (7 * k) := by
        rw [shl_eq .u64 _ (7 * k) (by simp [IntKind.bits]; omega) _ rfl, wrap_u64]; exact Int.emod_eq_of_lt hx.1 hx.2.1
      have hadd : IntKind.u64.wrap (v + b % 128 * 2 ^ (7 * k)) = v + b % 128 * 2 ^ (7 * k) := by
        rw [wrap_u64]; exact Int.emod_eq_of_lt (by omega) hx.2.2.1
      try simp -dsimp only [↓RE,↓c_seq,RU,RL,if_true,if_false,forall_const,implies_true,Nat.reduceLeDiff,Nat.reduceLT,pureOp,binPure,intBin,strBin,eqPure,isConstO,unPure,sliceLo,sliceHi,slicePure,lenPure,minPure,maxPure,buildP,resK,endV,yieldE,↓reduceIte,Nat.reduceEqDiff,reduceCtorEq,Nat.reduceAdd,Nat.reduceMul,Nat.reduceSub,Int.reduceLT,Int.reduceLE,Int.reduceToNat,Int.reduceAdd,Int.reduceSub,Int.reduceMul,ne_eq,decide_true,decide_false,tf39, g0, g1, g2, g9, g8, g10, hcv, hconv, hmul, hshl, hadd, hw2]
      refine ⟨by omega, ?_⟩
      try simp -dsimp only [↓RE,↓c_seq,RU,RL,if_true,if_false,forall_const,implies_true,Nat.reduceLeDiff,Nat.reduceLT,pureOp,binPure,intBin,strBin,eqPure,isConstO,unPure,sliceLo,sliceHi,slicePure,lenPure,minPure,maxPure,buildP,resK,endV,yieldE,↓reduceIte,Nat.reduceEqDiff,reduceCtorEq,Nat.reduceAdd,Nat.reduceMul,Nat.reduceSub,Int.reduceLT,Int.reduceLE,Int.reduceToNat,Int.reduceAdd,Int.reduceSub,Int.reduceMul,ne_eq,decide_true,decide_false,tf39, g0, g1, g2, g9, g8, g10, hcv, hconv, hmul, hshl, hadd, hw2]
      refine ⟨by omega, ?_⟩
      generalize hv' : v + b % 128 * 2 ^ (7 * k) = v' at hsc hx hadd
      try simp -dsimp only [↓RE,↓c_seq,RU,RL,if_true,if_false,forall_const,implies_true,Nat.reduceLeDiff,Nat.reduceLT,pureOp,binPure,intBin,strBin,eqPure,isConstO,unPure,sliceLo,sliceHi,slicePure,lenPure,minPure,maxPure,buildP,resK,endV,yieldE,↓reduceIte,Nat.reduceEqDiff,reduceCtorEq,Nat.reduceAdd,Nat.reduceMul,Nat.reduceSub,Int.reduceLT,Int.reduceLE,Int.reduceToNat,Int.reduceAdd,Int.reduceSub,Int.reduceMul,ne_eq,decide_true,decide_false,tf39, g0, g1, g2, g9, g8, g10, hcv, hconv, hmul, hshl, hadd, hw2, hv']
      refine ⟨fun hlt => ?_, fun hge => ?_⟩
      · rw [if_pos hlt] at hsc
        rw [← hsc] at h
        simp only at h
        try simp -dsimp only [↓RE,↓c_seq,RU,RL,if_true,if_false,forall_const,implies_true,Nat.reduceLeDiff,Nat.reduceLT,pureOp,binPure,intBin,strBin,eqPure,isConstO,unPure,sliceLo,sliceHi,slicePure,lenPure,minPure,maxPure,buildP,resK,endV,yieldE,↓reduceIte,Nat.reduceEqDiff,reduceCtorEq,Nat.reduceAdd,Nat.reduceMul,Nat.reduceSub,Int.reduceLT,Int.reduceLE,Int.reduceToNat,Int.reduceAdd,Int.reduceSub,Int.reduceMul,ne_eq,decide_true,decide_false,tf39, g0, g1, g2, g9, g8, g10, hcv, hconv, hmul, hshl, hadd, hw2, hv']
        refine ⟨fun hgt => ?_, fun hng => ?_⟩
        · rw [if_pos (by omega)] at h
          try simp -dsimp only [↓RE,↓c_seq,RU,RL,if_true,if_false,forall_const,implies_true,Nat.reduceLeDiff,Nat.reduceLT,pureOp,binPure,intBin,strBin,eqPure,isConstO,unPure,sliceLo,sliceHi,slicePure,lenPure,minPure,maxPure,buildP,resK,endV,yieldE,↓reduceIte,Nat.reduceEqDiff,reduceCtorEq,Nat.reduceAdd,Nat.reduceMul,Nat.reduceSub,Int.reduceLT,Int.reduceLE,Int.reduceToNat,Int.reduceAdd,Int.reduceSub,Int.reduceMul,ne_eq,decide_true,decide_false,tf39, g0, g1, g2, hc1]
          refine rat_ok ha (fun w3 g3 => ?_)
          try simp -dsimp only [↓RE,↓c_seq,RU,RL,if_true,if_false,forall_const,implies_true,Nat.reduceLeDiff,Nat.reduceLT,pureOp,binPure,intBin,strBin,eqPure,isConstO,unPure,sliceLo,sliceHi,slicePure,lenPure,minPure,maxPure,buildP,resK,endV,yieldE,↓reduceIte,Nat.reduceEqDiff,reduceCtorEq,Nat.reduceAdd,Nat.reduceMul,Nat.reduceSub,Int.reduceLT,Int.reduceLE,Int.reduceToNat,Int.reduceAdd,Int.reduceSub,Int.reduceMul,ne_eq,decide_true,decide_false,tf39, g0]
          refine rrfail_ok (er := errAt s.pos above) (hR3.grow g3) fo (fun w4 hR4 k4 => ?_)
          try simp -dsimp only [↓RE,↓c_seq,RU,RL,if_true,if_false,forall_const,implies_true,Nat.reduceLeDiff,Nat.reduceLT,pureOp,binPure,intBin,strBin,eqPure,isConstO,unPure,sliceLo,sliceHi,slicePure,lenPure,minPure,maxPure,buildP,resK,endV,yieldE,↓reduceIte,Nat.reduceEqDiff,reduceCtorEq,Nat.reduceAdd,Nat.reduceMul,Nat.reduceSub,Int.reduceLT,Int.reduceLE,Int.reduceToNat,Int.reduceAdd,Int.reduceSub,Int.reduceMul,ne_eq,decide_true,decide_false,tf39, g0]
          exact h w4 hR4 (kk1 (g3.then k4))
        · rw [if_neg (by omega)] at h
          try simp -dsimp only [↓RE,↓c_seq,RU,RL,if_true,if_false,forall_const,implies_true,Nat.reduceLeDiff,Nat.reduceLT,pureOp,binPure,intBin,strBin,eqPure,isConstO,unPure,sliceLo,sliceHi,slicePure,lenPure,minPure,maxPure,buildP,resK,endV,yieldE,↓reduceIte,Nat.reduceEqDiff,reduceCtorEq,Nat.reduceAdd,Nat.reduceMul,Nat.reduceSub,Int.reduceLT,Int.reduceLE,Int.reduceToNat,Int.reduceAdd,Int.reduceSub,Int.reduceMul,ne_eq,decide_true,decide_false,tf39, g0, g1, g2, g9, hw2, hv', hadd]
          have := h w2 hR3 (kk1 (Keep.refl _ _))
          rw [show s.pos + k + 1 - s.pos = k + 1 by omega] at this
          exact this
      · rw [if_neg hge] at hsc
        try simp -dsimp only [↓RE,↓c_seq,RU,RL,if_true,if_false,forall_const,implies_true,Nat.reduceLeDiff,Nat.reduceLT,pureOp,binPure,intBin,strBin,eqPure,isConstO,unPure,sliceLo,sliceHi,slicePure,lenPure,minPure,maxPure,buildP,resK,endV,yieldE,↓reduceIte,Nat.reduceEqDiff,reduceCtorEq,Nat.reduceAdd,Nat.reduceMul,Nat.reduceSub,Int.reduceLT,Int.reduceLE,Int.reduceToNat,Int.reduceAdd,Int.reduceSub,Int.reduceMul,ne_eq,decide_true,decide_false,tf39, g0, g1, g2, g9, g8, g10]
        refine hold_intro ⟨⟨gd3, ?_, ?_, ?_, k + 1, v', ?_, ?_, by omega, by omega, hx.2.2.2.2, by omega, by rw [← Nat.add_assoc]; exact hsc⟩, ?_⟩
        · simp -dsimp only [↓RE,↓c_seq,RU,RL,if_true,if_false,forall_const,implies_true,Nat.reduceLeDiff,Nat.reduceLT,pureOp,binPure,intBin,strBin,eqPure,isConstO,unPure,sliceLo,sliceHi,slicePure,lenPure,minPure,maxPure,buildP,resK,endV,yieldE,↓reduceIte,Nat.reduceEqDiff,reduceCtorEq,Nat.reduceAdd,Nat.reduceMul,Nat.reduceSub,Int.reduceLT,Int.reduceLE,Int.reduceToNat,Int.reduceAdd,Int.reduceSub,Int.reduceMul,ne_eq,decide_true,decide_false,tf39, g0]
        · simp -dsimp only [↓RE,↓c_seq,RU,RL,if_true,if_false,forall_const,implies_true,Nat.reduceLeDiff,Nat.reduceLT,pureOp,binPure,intBin,strBin,eqPure,isConstO,unPure,sliceLo,sliceHi,slicePure,lenPure,minPure,maxPure,buildP,resK,endV,yieldE,↓reduceIte,Nat.reduceEqDiff,reduceCtorEq,Nat.reduceAdd,Nat.reduceMul,Nat.reduceSub,Int.reduceLT,Int.reduceLE,Int.reduceToNat,Int.reduceAdd,Int.reduceSub,Int.reduceMul,ne_eq,decide_true,decide_false,tf39, g1]
        · simp -dsimp only [↓RE,↓c_seq,RU,RL,if_true,if_false,forall_const,implies_true,Nat.reduceLeDiff,Nat.reduceLT,pureOp,binPure,intBin,strBin,eqPure,isConstO,unPure,sliceLo,sliceHi,slicePure,lenPure,minPure,maxPure,buildP,resK,endV,yieldE,↓reduceIte,Nat.reduceEqDiff,reduceCtorEq,Nat.reduceAdd,Nat.reduceMul,Nat.reduceSub,Int.reduceLT,Int.reduceLE,Int.reduceToNat,Int.reduceAdd,Int.reduceSub,Int.reduceMul,ne_eq,decide_true,decide_false,tf39, g2]
        · simp -dsimp only [↓RE,↓c_seq,RU,RL,if_true,if_false,forall_const,implies_true,Nat.reduceLeDiff,Nat.reduceLT,pureOp,binPure,intBin,strBin,eqPure,isConstO,unPure,sliceLo,sliceHi,slicePure,lenPure,minPure,maxPure,buildP,resK,endV,yieldE,↓reduceIte,Nat.reduceEqDiff,reduceCtorEq,Nat.reduceAdd,Nat.reduceMul,Nat.reduceSub,Int.reduceLT,Int.reduceLE,Int.reduceToNat,Int.reduceAdd,Int.reduceSub,Int.reduceMul,ne_eq,decide_true,decide_false,tf39, g9, hw2]
        · simp -dsimp only [↓RE,↓c_seq,RU,RL,if_true,if_false,forall_const,implies_true,Nat.reduceLeDiff,Nat.reduceLT,pureOp,binPure,intBin,strBin,eqPure,isConstO,unPure,sliceLo,sliceHi,slicePure,lenPure,minPure,maxPure,buildP,resK,endV,yieldE,↓reduceIte,Nat.reduceEqDiff,reduceCtorEq,Nat.reduceAdd,Nat.reduceMul,Nat.reduceSub,Int.reduceLT,Int.reduceLE,Int.reduceToNat,Int.reduceAdd,Int.reduceSub,Int.reduceMul,ne_eq,decide_true,decide_false,tf39, g8, g9, g10, hcv, hconv, hmul, hshl, hadd, hv']
        · simp -dsimp only [↓RE,↓c_seq,RU,RL,if_true,if_false,forall_const,implies_true,Nat.reduceLeDiff,Nat.reduceLT,pureOp,binPure,intBin,strBin,eqPure,isConstO,unPure,sliceLo,sliceHi,slicePure,lenPure,minPure,maxPure,buildP,resK,endV,yieldE,↓reduceIte,Nat.reduceEqDiff,reduceCtorEq,Nat.reduceAdd,Nat.reduceMul,Nat.reduceSub,Int.reduceLT,Int.reduceLE,Int.reduceToNat,Int.reduceAdd,Int.reduceSub,Int.reduceMul,ne_eq,decide_true,decide_false,tf39, g9, h9, hw2]
          rw [envInt_int, envInt_int]; omega

theorem rruint_ok {w : World} {F : Nat → Prop} {p : Nat} {s : RS} (hR : RMAt w F p s) (ok : RSok s) (fo : FOk s.fault) {most : Int} (m0 : 0 ≤ most) {R : VWK}
    (h : ∀ w', RMAt w' F p (rNumber most 2 s).1 → Keep (fun k => k = p) w w' → R (.int .u64 (rNumber most 2 s).2) w') :
    CallsV Tryz.prog 44 [.pointer (some ⟨p, 0, none⟩), .int .u64 most] w R := by
  have hl := ok.len
  obtain ⟨sp, sz⟩ := rNum2_spec most 2 s
  refine calls_of_wpC mixed Tryz.func44 rfl (by kernel_rfl) ?_
  intro e he
  have he0 := he 0
  have he1 := he 1
  simp only [List.getD_cons_zero, List.getD_cons_succ] at he0 he1
  clear he
  try simp -dsimp only [↓RE,↓c_seq,RU,RL,if_true,if_false,forall_const,implies_true,Nat.reduceLeDiff,Nat.reduceLT,pureOp,binPure,intBin,strBin,eqPure,isConstO,unPure,sliceLo,sliceHi,slicePure,lenPure,minPure,maxPure,buildP,resK,endV,yieldE,↓reduceIte,Nat.reduceEqDiff,reduceCtorEq,Nat.reduceAdd,Nat.reduceMul,Nat.reduceSub,Int.reduceLT,Int.reduceLE,Int.reduceToNat,Int.reduceAdd,Int.reduceSub,Int.reduceMul,ne_eq,decide_true,decide_false,tf44, he0, he1]
  refine rrnumber_ok hR ok fo m0 (by decide) (fun w1 hR1 k1 => ?_)
  generalize hq : rNum2 most 2 s = q at hR1 sp sz
  obtain ⟨q1, v, n⟩ := q
  simp only at hR1 sp sz
  try simp -dsimp only [↓RE,↓c_seq,RU,RL,if_true,if_false,forall_const,implies_true,Nat.reduceLeDiff,Nat.reduceLT,pureOp,binPure,intBin,strBin,eqPure,isConstO,unPure,sliceLo,sliceHi,slicePure,lenPure,minPure,maxPure,buildP,resK,endV,yieldE,↓reduceIte,Nat.reduceEqDiff,reduceCtorEq,Nat.reduceAdd,Nat.reduceMul,Nat.reduceSub,Int.reduceLT,Int.reduceLE,Int.reduceToNat,Int.reduceAdd,Int.reduceSub,Int.reduceMul,ne_eq,decide_true,decide_false,tf44, he0, he1]
  refine ⟨fun hpos => ?_, fun hzero => ?_⟩
  · obtain ⟨_, rfl, hf, hN, hle⟩ := sp (by omega)
    rw [hN] at h
    obtain ⟨A, c, hB, hRd, hp, hc, hF⟩ := hR1
    have hle2 := ok.le
    have hc1 : w1.cell? ⟨p, 1, none⟩ = some (.int .i64 q1.pos) := hB.cell 1
    have hw : IntKind.i64.wrap ((q1.pos : Int) + (n : Int)) = ((q1.pos + n : Nat) : Int) := by rw [wrap_i64_in (by omega) (by omega)]; omega
    try simp -dsimp only [↓RE,↓c_seq,RU,RL,if_true,if_false,forall_const,implies_true,Nat.reduceLeDiff,Nat.reduceLT,pureOp,binPure,intBin,strBin,eqPure,isConstO,unPure,sliceLo,sliceHi,slicePure,lenPure,minPure,maxPure,buildP,resK,endV,yieldE,↓reduceIte,Nat.reduceEqDiff,reduceCtorEq,Nat.reduceAdd,Nat.reduceMul,Nat.reduceSub,Int.reduceLT,Int.reduceLE,Int.reduceToNat,Int.reduceAdd,Int.reduceSub,Int.reduceMul,ne_eq,decide_true,decide_false,tf44, he0, he1, hc1, hw]
    refine hB.st (i := 1) (by simp [BadV.cells]) ?_
    have hB1 := hB.set 1 (.int .i64 (q1.pos + n : Nat))
    have k2 := Keep.set1 w1 p 1 (.int .i64 (q1.pos + n : Nat))
    try simp -dsimp only [↓RE,↓c_seq,RU,RL,if_true,if_false,forall_const,implies_true,Nat.reduceLeDiff,Nat.reduceLT,pureOp,binPure,intBin,strBin,eqPure,isConstO,unPure,sliceLo,sliceHi,slicePure,lenPure,minPure,maxPure,buildP,resK,endV,yieldE,↓reduceIte,Nat.reduceEqDiff,reduceCtorEq,Nat.reduceAdd,Nat.reduceMul,Nat.reduceSub,Int.reduceLT,Int.reduceLE,Int.reduceToNat,Int.reduceAdd,Int.reduceSub,Int.reduceMul,ne_eq,decide_true,decide_false,tf44, he0, he1]
    refine hB1.st (i := 2) (by simp [BadV.cells]) ?_
    have hB2 := hB1.set 2 (.int .i64 0)
    have k3 := k2.trans (Keep.set1 _ p 2 (.int .i64 0)) (H := fun k => k = p) (fun _ _ h => h) (fun _ _ h => h)
    have hRd2 := hRd.keep0 k3 (fun h0 k hk e => hp h0 (e ▸ hk))
    try simp -dsimp only [↓RE,↓c_seq,RU,RL,if_true,if_false,forall_const,implies_true,Nat.reduceLeDiff,Nat.reduceLT,pureOp,binPure,intBin,strBin,eqPure,isConstO,unPure,sliceLo,sliceHi,slicePure,lenPure,minPure,maxPure,buildP,resK,endV,yieldE,↓reduceIte,Nat.reduceEqDiff,reduceCtorEq,Nat.reduceAdd,Nat.reduceMul,Nat.reduceSub,Int.reduceLT,Int.reduceLE,Int.reduceToNat,Int.reduceAdd,Int.reduceSub,Int.reduceMul,ne_eq,decide_true,decide_false,tf44, he0, he1]
    exact h _ ⟨A, c, by simpa using hB2, hRd2, hp, hc, hF⟩ (k1.trans k3 (H := fun k => k = p) (fun _ _ h => h) (fun _ _ h => h))
  · obtain ⟨hN, rfl, hf, _, _⟩ := sz (by omega)
    rw [hN] at h
    try simp -dsimp only [↓RE,↓c_seq,RU,RL,if_true,if_false,forall_const,implies_true,Nat.reduceLeDiff,Nat.reduceLT,pureOp,binPure,intBin,strBin,eqPure,isConstO,unPure,sliceLo,sliceHi,slicePure,lenPure,minPure,maxPure,buildP,resK,endV,yieldE,↓reduceIte,Nat.reduceEqDiff,reduceCtorEq,Nat.reduceAdd,Nat.reduceMul,Nat.reduceSub,Int.reduceLT,Int.reduceLE,Int.reduceToNat,Int.reduceAdd,Int.reduceSub,Int.reduceMul,ne_eq,decide_true,decide_false,tf44, he0, he1]
    exact h w1 hR1 k1

theorem unfold_ok {w : World} {v : Int} (h0 : 0 ≤ v) (h1 : v < 18446744073709551616) {R : VWK} (h : R (.int .i64 (unfoldI v)) w) : CallsV Tryz.prog 51 [.int .u64 v] w R := by
  have hm : v.tmod 2 = v % 2 := Int.tmod_eq_emod_of_nonneg h0
  have hd : v.tdiv 2 = v / 2 := Int.tdiv_eq_ediv_of_nonneg h0
  have hwu : IntKind.u64.wrap (v / 2) = v / 2 := by rw [wrap_u64]; omega
  have hw : IntKind.i64.wrap (v / 2) = v / 2 := wrap_i64_in (by omega) (by omega)
  have hn : IntKind.i64.wrap (0 - v / 2) = -(v / 2) := by rw [wrap_i64_in (by omega) (by omega)]; omega
  have hs : IntKind.i64.wrap (-(v / 2) - 1) = -(v / 2) - 1 := wrap_i64_in (by omega) (by omega)
  refine calls_of_wpC mixed Tryz.func51 rfl (by kernel_rfl) ?_
  intro e he
  have he0 := he 0
  simp only [List.getD_cons_zero, List.getD_cons_succ] at he0
  clear he
  try simp -dsimp only [↓RE,↓c_seq,RU,RL,if_true,if_false,forall_const,implies_true,Nat.reduceLeDiff,Nat.reduceLT,pureOp,binPure,intBin,strBin,eqPure,isConstO,unPure,sliceLo,sliceHi,slicePure,lenPure,minPure,maxPure,buildP,resK,endV,yieldE,↓reduceIte,Nat.reduceEqDiff,reduceCtorEq,Nat.reduceAdd,Nat.reduceMul,Nat.reduceSub,Int.reduceLT,Int.reduceLE,Int.reduceToNat,Int.reduceAdd,Int.reduceSub,Int.reduceMul,ne_eq,decide_true,decide_false,tf51, he0, hm, hd]
  refine ⟨by omega, ?_⟩
  try simp -dsimp only [↓RE,↓c_seq,RU,RL,if_true,if_false,forall_const,implies_true,Nat.reduceLeDiff,Nat.reduceLT,pureOp,binPure,intBin,strBin,eqPure,isConstO,unPure,sliceLo,sliceHi,slicePure,lenPure,minPure,maxPure,buildP,resK,endV,yieldE,↓reduceIte,Nat.reduceEqDiff,reduceCtorEq,Nat.reduceAdd,Nat.reduceMul,Nat.reduceSub,Int.reduceLT,Int.reduceLE,Int.reduceToNat,Int.reduceAdd,Int.reduceSub,Int.reduceMul,ne_eq,decide_true,decide_false,tf51, he0, hm, hd]
  refine ⟨fun hz => ?_, fun hz => ?_⟩
  · have e : unfoldI v = v / 2 := by unfold unfoldI; rw [if_pos hz]
    rw [e] at h
    try simp -dsimp only [↓RE,↓c_seq,RU,RL,if_true,if_false,forall_const,implies_true,Nat.reduceLeDiff,Nat.reduceLT,pureOp,binPure,intBin,strBin,eqPure,isConstO,unPure,sliceLo,sliceHi,slicePure,lenPure,minPure,maxPure,buildP,resK,endV,yieldE,↓reduceIte,Nat.reduceEqDiff,reduceCtorEq,Nat.reduceAdd,Nat.reduceMul,Nat.reduceSub,Int.reduceLT,Int.reduceLE,Int.reduceToNat,Int.reduceAdd,Int.reduceSub,Int.reduceMul,ne_eq,decide_true,decide_false,tf51, he0, hm, hd]
    refine ⟨by omega, ?_⟩
    try simp -dsimp only [↓RE,↓c_seq,RU,RL,if_true,if_false,forall_const,implies_true,Nat.reduceLeDiff,Nat.reduceLT,pureOp,binPure,intBin,strBin,eqPure,isConstO,unPure,sliceLo,sliceHi,slicePure,lenPure,minPure,maxPure,buildP,resK,endV,yieldE,↓reduceIte,Nat.reduceEqDiff,reduceCtorEq,Nat.reduceAdd,Nat.reduceMul,Nat.reduceSub,Int.reduceLT,Int.reduceLE,Int.reduceToNat,Int.reduceAdd,Int.reduceSub,Int.reduceMul,ne_eq,decide_true,decide_false,tf51, he0, hm, hd, hwu, hw]
    exact h
  · have e : unfoldI v = -(v / 2) - 1 := by unfold unfoldI; rw [if_neg hz]
    rw [e] at h
    try simp -dsimp only [↓RE,↓c_seq,RU,RL,if_true,if_false,forall_const,implies_true,Nat.reduceLeDiff,Nat.reduceLT,pureOp,binPure,intBin,strBin,eqPure,isConstO,unPure,sliceLo,sliceHi,slicePure,lenPure,minPure,maxPure,buildP,resK,endV,yieldE,↓reduceIte,Nat.reduceEqDiff,reduceCtorEq,Nat.reduceAdd,Nat.reduceMul,Nat.reduceSub,Int.reduceLT,Int.reduceLE,Int.reduceToNat,Int.reduceAdd,Int.reduceSub,Int.reduceMul,ne_eq,decide_true,decide_false,tf51, he0, hm, hd]
    refine ⟨by omega, ?_⟩
    try simp -dsimp only [↓RE,↓c_seq,RU,RL,if_true,if_false,forall_const,implies_true,Nat.reduceLeDiff,Nat.reduceLT,pureOp,binPure,intBin,strBin,eqPure,isConstO,unPure,sliceLo,sliceHi,slicePure,lenPure,minPure,maxPure,buildP,resK,endV,yieldE,↓reduceIte,Nat.reduceEqDiff,reduceCtorEq,Nat.reduceAdd,Nat.reduceMul,Nat.reduceSub,Int.reduceLT,Int.reduceLE,Int.reduceToNat,Int.reduceAdd,Int.reduceSub,Int.reduceMul,ne_eq,decide_true,decide_false,tf51, he0, hm, hd, hwu, hw, hn, hs]
    exact h

theorem rrint_ok {w : World} {F : Nat → Prop} {p : Nat} {s : RS} (hR : RMAt w F p s) (ok : RSok s) (fo : FOk s.fault) {R : VWK}
    (h : ∀ w', RMAt w' F p (rNumber 18446744073709551615 2 s).1 → Keep (fun k => k = p) w w' → R (.int .i64 (unfoldI (rNumber 18446744073709551615 2 s).2)) w') :
    CallsV Tryz.prog 46 [.pointer (some ⟨p, 0, none⟩)] w R := by
  have hr := rNumber_range ok 18446744073709551615 2
  refine calls_of_wpC mixed Tryz.func46 rfl (by kernel_rfl) ?_
  intro e he
  have he0 := he 0
  simp only [List.getD_cons_zero, List.getD_cons_succ] at he0
  clear he
  try simp -dsimp only [↓RE,↓c_seq,RU,RL,if_true,if_false,forall_const,implies_true,Nat.reduceLeDiff,Nat.reduceLT,pureOp,binPure,intBin,strBin,eqPure,isConstO,unPure,sliceLo,sliceHi,slicePure,lenPure,minPure,maxPure,buildP,resK,endV,yieldE,↓reduceIte,Nat.reduceEqDiff,reduceCtorEq,Nat.reduceAdd,Nat.reduceMul,Nat.reduceSub,Int.reduceLT,Int.reduceLE,Int.reduceToNat,Int.reduceAdd,Int.reduceSub,Int.reduceMul,ne_eq,decide_true,decide_false,tf46, he0]
  refine rruint_ok hR ok fo (by omega) (fun w1 hR1 k1 => ?_)
  try simp -dsimp only [↓RE,↓c_seq,RU,RL,if_true,if_false,forall_const,implies_true,Nat.reduceLeDiff,Nat.reduceLT,pureOp,binPure,intBin,strBin,eqPure,isConstO,unPure,sliceLo,sliceHi,slicePure,lenPure,minPure,maxPure,buildP,resK,endV,yieldE,↓reduceIte,Nat.reduceEqDiff,reduceCtorEq,Nat.reduceAdd,Nat.reduceMul,Nat.reduceSub,Int.reduceLT,Int.reduceLE,Int.reduceToNat,Int.reduceAdd,Int.reduceSub,Int.reduceMul,ne_eq,decide_true,decide_false,tf46, he0]
  refine unfold_ok hr.1 hr.2 ?_
  try simp -dsimp only [↓RE,↓c_seq,RU,RL,if_true,if_false,forall_const,implies_true,Nat.reduceLeDiff,Nat.reduceLT,pureOp,binPure,intBin,strBin,eqPure,isConstO,unPure,sliceLo,sliceHi,slicePure,lenPure,minPure,maxPure,buildP,resK,endV,yieldE,↓reduceIte,Nat.reduceEqDiff,reduceCtorEq,Nat.reduceAdd,Nat.reduceMul,Nat.reduceSub,Int.reduceLT,Int.reduceLE,Int.reduceToNat,Int.reduceAdd,Int.reduceSub,Int.reduceMul,ne_eq,decide_true,decide_false,tf46, he0]
  exact h w1 hR1 k1

end Go.Proofs.YtmgiichlccdcfaaGreatDoor

namespace Go.Proofs.YtmgiichlccdcfaaGreatDoor
open Go

theorem scan_err : ∀ {l : List Int} {k : Nat} {v : Int} {i j : Nat} {e : Int}, scan l k v i = .error (j, e) → e ≠ 0
  | [], k, v, i, j, e, h => by
    simp only [scan, Except.error.injEq, Prod.mk.injEq] at h
    omega
  | c :: r, k, v, i, j, e, h => by
    rw [scan_cons] at h
    split at h
    · simp only [Except.error.injEq, Prod.mk.injEq] at h
      omega
    split at h
    · cases h
    · exact scan_err h
theorem rBegin_fok {s : RS} (h : FOk s.fault) : FOk (rBegin s).1.fault := by
  unfold rBegin; split
  · exact h
  split
  · exact h.fail (FOk.err (by decide))
  · exact h
theorem rFail_set {s : RS} {e : Option (TypeId × Value)} (h : s.fault = none) : rFail s e = { s with fault := e } := by unfold rFail; rw [if_pos h]

/-- what a row of bytes that is read comes to, by the number ahead of it. -/
theorem rLoad_none {most : Int} {s : RS} (h : (rNum2 (rLim most) 6 s).2.2 = 0) : rLoad most s = ((rNum2 (rLim most) 6 s).1, []) := by
  obtain ⟨_, sz⟩ := rNum2_spec (rLim most) 6 s
  obtain ⟨hN, _, hf, hp, hb⟩ := sz h
  have hS : rLoadS most s = (rNum2 (rLim most) 6 s).1 := by
    unfold rLoadS rLong
    rw [hN]
    simp only
    rw [if_neg (fun h => hf h.1)]
    unfold rShort
    rw [if_neg (fun h => hf h.1)]
  unfold rLoad
  by_cases hbg : (rBegin s).2 = true
  · rw [if_pos hbg, hS, if_pos hf]
    unfold rBack
    rw [← hp, ← hb]
  · rw [if_neg hbg]
    unfold rNum2
    rw [if_neg hbg]
theorem rLoad_some {most : Int} {s : RS} {n : Nat} {v : Int} (hq : rNum2 (rLim most) 6 s = (s, v, n)) (hn : 0 < n) :
    rLoad most s = if most < 0 then (rFail s (errAt s.pos 6), []) else if ((s.xs.length - (s.pos + n) : Nat) : Int) < v then (rFail s (errAt s.xs.length 30), []) else
      ({ s with pos := s.pos + n + v.toNat, bits := 0 }, (s.xs.drop (s.pos + n)).take v.toNat) := by
  obtain ⟨sp, _⟩ := rNum2_spec (rLim most) 6 s
  rw [hq] at sp
  obtain ⟨hb, _, hf, hN, hle⟩ := sp hn
  simp only at hN hle
  have hnn : rLoadN most s = v := by unfold rLoadN; rw [hN]
  have hS : rLoadS most s = rShort v (rLong most s { s with pos := s.pos + n, bits := 0 }) := by unfold rLoadS; rw [hN, hnn]
  unfold rLoad
  rw [if_pos hb, hS, hnn]
  by_cases hm : most < 0
  · rw [if_pos hm]
    have hL : rLong most s { s with pos := s.pos + n, bits := 0 } = { s with pos := s.pos + n, bits := 0, fault := errAt s.pos 6 } := by
      unfold rLong rFail
      simp [hf, hm]
    have hSh : rShort v { s with pos := s.pos + n, bits := 0, fault := errAt s.pos 6 } = { s with pos := s.pos + n, bits := 0, fault := errAt s.pos 6 } := by
      unfold rShort; rw [if_neg (by simp [errAt])]
    rw [hL, hSh, if_pos (by simp [errAt])]
    unfold rBack rFail
    simp [hf]
  · rw [if_neg hm]
    have hL : rLong most s { s with pos := s.pos + n, bits := 0 } = { s with pos := s.pos + n, bits := 0 } := by
      unfold rLong; rw [if_neg (fun h => hm h.2)]
    rw [hL]
    by_cases hv : ((s.xs.length - (s.pos + n) : Nat) : Int) < v
    · rw [if_pos hv]
      have hSh : rShort v { s with pos := s.pos + n, bits := 0 } = { s with pos := s.pos + n, bits := 0, fault := errAt s.xs.length 30 } := by
        unfold rShort rFail
        simp only
        rw [if_pos ⟨hf, hv⟩, if_pos hf]
      rw [hSh, if_pos (by simp [errAt])]
      unfold rBack rFail
      simp [hf]
    · rw [if_neg hv]
      have hSh : rShort v { s with pos := s.pos + n, bits := 0 } = { s with pos := s.pos + n, bits := 0 } := by
        unfold rShort; rw [if_neg (fun h => hv h.2)]
      rw [hSh, if_neg (by simp [hf])]
      unfold rTake
      rw [rBegin_ok (s := { s with pos := s.pos + n, bits := 0 }) hf rfl, if_pos rfl, if_neg (by simp only; omega)]

set_option maxHeartbeats 800000 in
theorem rraw_ok' {w : World} {F : Nat → Prop} {p : Nat} {s : RS} (hR : RMAt w F p s) (ok : RSok s) (fo : FOk s.fault) {most : Int} (m0 : -9223372036854775808 ≤ most) (m1 : most < 9223372036854775808) {R : VWK}
    (h : ∀ w' A' c', RMAt w' F p (rLoad most s).1 → Rd w' A' (rLoad most s).2.length 1 ((rLoad most s).2.map (Value.int .u8)) → (∀ k, fpA A' k → w.heap.size ≤ k) → Keep (fun k => k = p) w w' →
      R (.slice A' (rLoad most s).2.length c') w') :
    CallsV Tryz.prog 19 [.pointer (some ⟨p, 0, none⟩), .int .i64 most] w R := by
  have hl := ok.len
  have hle := ok.le
  have hlim0 : 0 ≤ rLim most := by unfold rLim; split <;> omega
  have hlim1 : rLim most < 18446744073709551616 := by unfold rLim; split <;> omega
  obtain ⟨sp, sz⟩ := rNum2_spec (rLim most) 6 s
  have hp0 : p < w.heap.size := hR.lt p hR.place
  refine calls_of_wpC mixed Tryz.func19 rfl (by kernel_rfl) ?_
  intro e he
  have he0 := he 0
  have he1 := he 1
  simp only [List.getD_cons_zero, List.getD_cons_succ] at he0 he1
  clear he
  rw [c_seq]
  simp -dsimp only [↓RE,RU,RL,if_true,if_false,forall_const,implies_true,Nat.reduceLeDiff,Nat.reduceLT,pureOp,binPure,intBin,strBin,eqPure,isConstO,unPure,sliceLo,sliceHi,slicePure,lenPure,minPure,maxPure,buildP,resK,endV,yieldE,↓reduceIte,Nat.reduceEqDiff,reduceCtorEq,Nat.reduceAdd,Nat.reduceMul,Nat.reduceSub,Int.reduceLT,Int.reduceLE,Int.reduceToNat,Int.reduceAdd,Int.reduceSub,Int.reduceMul,ne_eq,decide_true,decide_false,tf19, he0, he1]
  rw [c_seq]
  simp -dsimp only [↓RE,RU,RL,if_true,if_false,forall_const,implies_true,Nat.reduceLeDiff,Nat.reduceLT,pureOp,binPure,intBin,strBin,eqPure,isConstO,unPure,sliceLo,sliceHi,slicePure,lenPure,minPure,maxPure,buildP,resK,endV,yieldE,↓reduceIte,Nat.reduceEqDiff,reduceCtorEq,Nat.reduceAdd,Nat.reduceMul,Nat.reduceSub,Int.reduceLT,Int.reduceLE,Int.reduceToNat,Int.reduceAdd,Int.reduceSub,Int.reduceMul,ne_eq,decide_true,decide_false,tf19, he0, he1]
  refine c_seq_cut (fun e' w' => w' = w ∧ e' 0 = .pointer (some ⟨p, 0, none⟩) ∧ e' 1 = .int .i64 most ∧ e' 5 = .int .u64 (rLim most)) ?_ ?_
  · try simp -dsimp only [↓RE,↓c_seq,RU,RL,if_true,if_false,forall_const,implies_true,Nat.reduceLeDiff,Nat.reduceLT,pureOp,binPure,intBin,strBin,eqPure,isConstO,unPure,sliceLo,sliceHi,slicePure,lenPure,minPure,maxPure,buildP,resK,endV,yieldE,↓reduceIte,Nat.reduceEqDiff,reduceCtorEq,Nat.reduceAdd,Nat.reduceMul,Nat.reduceSub,Int.reduceLT,Int.reduceLE,Int.reduceToNat,Int.reduceAdd,Int.reduceSub,Int.reduceMul,ne_eq,decide_true,decide_false,tf19, he0, he1]
    refine ⟨fun hpos => ?_, fun hneg => ?_⟩
    · have e : rLim most = most := by unfold rLim; rw [if_pos hpos]
      have hwu : IntKind.u64.wrap most = most := by rw [wrap_u64]; omega
      try simp -dsimp only [↓RE,↓c_seq,RU,RL,if_true,if_false,forall_const,implies_true,Nat.reduceLeDiff,Nat.reduceLT,pureOp,binPure,intBin,strBin,eqPure,isConstO,unPure,sliceLo,sliceHi,slicePure,lenPure,minPure,maxPure,buildP,resK,endV,yieldE,↓reduceIte,Nat.reduceEqDiff,reduceCtorEq,Nat.reduceAdd,Nat.reduceMul,Nat.reduceSub,Int.reduceLT,Int.reduceLE,Int.reduceToNat,Int.reduceAdd,Int.reduceSub,Int.reduceMul,ne_eq,decide_true,decide_false,tf19, he0, he1]
      refine hold_intro ⟨rfl, ?_, ?_, ?_⟩
      · simp -dsimp only [↓RE,↓c_seq,RU,RL,if_true,if_false,forall_const,implies_true,Nat.reduceLeDiff,Nat.reduceLT,pureOp,binPure,intBin,strBin,eqPure,isConstO,unPure,sliceLo,sliceHi,slicePure,lenPure,minPure,maxPure,buildP,resK,endV,yieldE,↓reduceIte,Nat.reduceEqDiff,reduceCtorEq,Nat.reduceAdd,Nat.reduceMul,Nat.reduceSub,Int.reduceLT,Int.reduceLE,Int.reduceToNat,Int.reduceAdd,Int.reduceSub,Int.reduceMul,ne_eq,decide_true,decide_false,tf19, he0]
      · simp -dsimp only [↓RE,↓c_seq,RU,RL,if_true,if_false,forall_const,implies_true,Nat.reduceLeDiff,Nat.reduceLT,pureOp,binPure,intBin,strBin,eqPure,isConstO,unPure,sliceLo,sliceHi,slicePure,lenPure,minPure,maxPure,buildP,resK,endV,yieldE,↓reduceIte,Nat.reduceEqDiff,reduceCtorEq,Nat.reduceAdd,Nat.reduceMul,Nat.reduceSub,Int.reduceLT,Int.reduceLE,Int.reduceToNat,Int.reduceAdd,Int.reduceSub,Int.reduceMul,ne_eq,decide_true,decide_false,tf19, he1]
      · simp -dsimp only [↓RE,↓c_seq,RU,RL,if_true,if_false,forall_const,implies_true,Nat.reduceLeDiff,Nat.reduceLT,pureOp,binPure,intBin,strBin,eqPure,isConstO,unPure,sliceLo,sliceHi,slicePure,lenPure,minPure,maxPure,buildP,resK,endV,yieldE,↓reduceIte,Nat.reduceEqDiff,reduceCtorEq,Nat.reduceAdd,Nat.reduceMul,Nat.reduceSub,Int.reduceLT,Int.reduceLE,Int.reduceToNat,Int.reduceAdd,Int.reduceSub,Int.reduceMul,ne_eq,decide_true,decide_false,tf19, he1, hwu, e]
    · have e : rLim most = 0 := by unfold rLim; rw [if_neg hneg]
      try simp -dsimp only [↓RE,↓c_seq,RU,RL,if_true,if_false,forall_const,implies_true,Nat.reduceLeDiff,Nat.reduceLT,pureOp,binPure,intBin,strBin,eqPure,isConstO,unPure,sliceLo,sliceHi,slicePure,lenPure,minPure,maxPure,buildP,resK,endV,yieldE,↓reduceIte,Nat.reduceEqDiff,reduceCtorEq,Nat.reduceAdd,Nat.reduceMul,Nat.reduceSub,Int.reduceLT,Int.reduceLE,Int.reduceToNat,Int.reduceAdd,Int.reduceSub,Int.reduceMul,ne_eq,decide_true,decide_false,tf19, he0, he1]
      refine hold_intro ⟨rfl, ?_, ?_, ?_⟩
      · simp -dsimp only [↓RE,↓c_seq,RU,RL,if_true,if_false,forall_const,implies_true,Nat.reduceLeDiff,Nat.reduceLT,pureOp,binPure,intBin,strBin,eqPure,isConstO,unPure,sliceLo,sliceHi,slicePure,lenPure,minPure,maxPure,buildP,resK,endV,yieldE,↓reduceIte,Nat.reduceEqDiff,reduceCtorEq,Nat.reduceAdd,Nat.reduceMul,Nat.reduceSub,Int.reduceLT,Int.reduceLE,Int.reduceToNat,Int.reduceAdd,Int.reduceSub,Int.reduceMul,ne_eq,decide_true,decide_false,tf19, he0]
      · simp -dsimp only [↓RE,↓c_seq,RU,RL,if_true,if_false,forall_const,implies_true,Nat.reduceLeDiff,Nat.reduceLT,pureOp,binPure,intBin,strBin,eqPure,isConstO,unPure,sliceLo,sliceHi,slicePure,lenPure,minPure,maxPure,buildP,resK,endV,yieldE,↓reduceIte,Nat.reduceEqDiff,reduceCtorEq,Nat.reduceAdd,Nat.reduceMul,Nat.reduceSub,Int.reduceLT,Int.reduceLE,Int.reduceToNat,Int.reduceAdd,Int.reduceSub,Int.reduceMul,ne_eq,decide_true,decide_false,tf19, he1]
      · simp -dsimp only [↓RE,↓c_seq,RU,RL,if_true,if_false,forall_const,implies_true,Nat.reduceLeDiff,Nat.reduceLT,pureOp,binPure,intBin,strBin,eqPure,isConstO,unPure,sliceLo,sliceHi,slicePure,lenPure,minPure,maxPure,buildP,resK,endV,yieldE,↓reduceIte,Nat.reduceEqDiff,reduceCtorEq,Nat.reduceAdd,Nat.reduceMul,Nat.reduceSub,Int.reduceLT,Int.reduceLE,Int.reduceToNat,Int.reduceAdd,Int.reduceSub,Int.reduceMul,ne_eq,decide_true,decide_false,tf19, he1, e]
  rintro e w' ⟨rfl, he0, he1, he5⟩
  try simp -dsimp only [↓RE,↓c_seq,RU,RL,if_true,if_false,forall_const,implies_true,Nat.reduceLeDiff,Nat.reduceLT,pureOp,binPure,intBin,strBin,eqPure,isConstO,unPure,sliceLo,sliceHi,slicePure,lenPure,minPure,maxPure,buildP,resK,endV,yieldE,↓reduceIte,Nat.reduceEqDiff,reduceCtorEq,Nat.reduceAdd,Nat.reduceMul,Nat.reduceSub,Int.reduceLT,Int.reduceLE,Int.reduceToNat,Int.reduceAdd,Int.reduceSub,Int.reduceMul,ne_eq,decide_true,decide_false,tf19, he0, he1, he5]
  refine rrnumber_ok hR ok fo hlim0 (by decide) (fun w1 hR1 k1 => ?_)
  cases hn : (rNum2 (rLim most) 6 s).2.2 with
  | zero =>
    have hld := rLoad_none hn
    obtain ⟨_, hv0, hf, _, _⟩ := sz hn
    rw [hld] at h
    have fo1 : FOk (rNum2 (rLim most) 6 s).1.fault := by
      unfold rNum2
      split
      · split
        · rename_i i er hsc
          exact fo.fail (FOk.err (scan_err hsc))
        · split
          · exact fo.fail (FOk.err (by decide))
          · exact fo
      · exact (rBegin_fok fo)
    have hc3 : ∀ {w2 : World}, Grow w1 w2 → w2.cell? ⟨p, 3, none⟩ = some (.int .i64 (badF (rNum2 (rLim most) 6 s).1.fault).code) := fun g => by
      obtain ⟨A, c, hB, _⟩ := hR1.grow g
      exact hB.cell 3
    have hcd : decide ((badF (rNum2 (rLim most) 6 s).1.fault).code = 0) = false := by rw [decide_eq_false_iff_not]; exact fun h => hf (fo1.code.1 h)
    try simp -dsimp only [↓RE,↓c_seq,RU,RL,if_true,if_false,forall_const,implies_true,Nat.reduceLeDiff,Nat.reduceLT,pureOp,binPure,intBin,strBin,eqPure,isConstO,unPure,sliceLo,sliceHi,slicePure,lenPure,minPure,maxPure,buildP,resK,endV,yieldE,↓reduceIte,Nat.reduceEqDiff,reduceCtorEq,Nat.reduceAdd,Nat.reduceMul,Nat.reduceSub,Int.reduceLT,Int.reduceLE,Int.reduceToNat,Int.reduceAdd,Int.reduceSub,Int.reduceMul,ne_eq,decide_true,decide_false,tf19, he0, he1, he5, undef, Int.cast_ofNat_Int]
    refine wpDraw_still (by kernel_rfl) ?_
    have hc3d := hc3 (Grow.drew w1)
    try simp -dsimp only [↓RE,↓c_seq,RU,RL,if_true,if_false,forall_const,implies_true,Nat.reduceLeDiff,Nat.reduceLT,pureOp,binPure,intBin,strBin,eqPure,isConstO,unPure,sliceLo,sliceHi,slicePure,lenPure,minPure,maxPure,buildP,resK,endV,yieldE,↓reduceIte,Nat.reduceEqDiff,reduceCtorEq,Nat.reduceAdd,Nat.reduceMul,Nat.reduceSub,Int.reduceLT,Int.reduceLE,Int.reduceToNat,Int.reduceAdd,Int.reduceSub,Int.reduceMul,ne_eq,decide_true,decide_false,tf19, he0, he1, he5, undef, hc3d, hcd]
    exact h w1.drew none 0 (hR1.grow (Grow.drew w1)) (Rd.nil _ _ _) (fun k hk => absurd hk (by rintro ⟨ad, e, _⟩; cases e)) (k1.then_grow (Grow.drew w1))
  | succ m =>
    obtain ⟨hbg, hs1, hf, hN, hposle⟩ := sp (by omega)
    generalize hv : (rNum2 (rLim most) 6 s).2.1 = v at *
    have hq : rNum2 (rLim most) 6 s = (s, v, m + 1) := Prod.ext hs1 (Prod.ext hv hn)
    rw [hs1] at hR1
    have hld := rLoad_some hq (by omega)
    have hvr := rNumber_range ok (rLim most) 6
    rw [hN] at hvr
    simp only at hvr
    rw [hn] at hposle
    have hmx : s.pos + (m + 1) ≤ s.xs.length := by omega
    rw [hld] at h
    have hfn : (badF s.fault).code = 0 := fo.code.2 hf
    have hR1' := hR1
    obtain ⟨A, c, hB, hRd, hp, hc, hF⟩ := hR1'
    have hc1 : w1.cell? ⟨p, 1, none⟩ = some (.int .i64 s.pos) := hB.cell 1
    have hnd : decide (0 < ((m + 1 : Nat) : Int)) = true := by rw [decide_eq_true_iff]; omega
    by_cases hm : most < 0
    · rw [if_pos hm] at h
      have hmd : decide (most < 0) = true := decide_eq_true hm
      try simp -dsimp only [↓RE,↓c_seq,RU,RL,if_true,if_false,forall_const,implies_true,Nat.reduceLeDiff,Nat.reduceLT,pureOp,binPure,intBin,strBin,eqPure,isConstO,unPure,sliceLo,sliceHi,slicePure,lenPure,minPure,maxPure,buildP,resK,endV,yieldE,↓reduceIte,Nat.reduceEqDiff,reduceCtorEq,Nat.reduceAdd,Nat.reduceMul,Nat.reduceSub,Int.reduceLT,Int.reduceLE,Int.reduceToNat,Int.reduceAdd,Int.reduceSub,Int.reduceMul,ne_eq,decide_true,decide_false,tf19, he0, he1, he5, hmd, hnd, hc1]
      refine rat_ok (c := 6) (by decide) (fun w2 g2 => ?_)
      try simp -dsimp only [↓RE,↓c_seq,RU,RL,if_true,if_false,forall_const,implies_true,Nat.reduceLeDiff,Nat.reduceLT,pureOp,binPure,intBin,strBin,eqPure,isConstO,unPure,sliceLo,sliceHi,slicePure,lenPure,minPure,maxPure,buildP,resK,endV,yieldE,↓reduceIte,Nat.reduceEqDiff,reduceCtorEq,Nat.reduceAdd,Nat.reduceMul,Nat.reduceSub,Int.reduceLT,Int.reduceLE,Int.reduceToNat,Int.reduceAdd,Int.reduceSub,Int.reduceMul,ne_eq,decide_true,decide_false,tf19, he0, he1, he5, hmd, hnd]
      refine rrfail_ok (er := errAt s.pos 6) (hR1.grow g2) fo (fun w3 hR3 k3 => ?_)
      have hc3 : w3.drew.cell? ⟨p, 3, none⟩ = some (.int .i64 6) := by
        obtain ⟨A, c, hB, _⟩ := hR3.grow (Grow.drew w3)
        rw [rFail_set hf] at hB
        exact hB.cell 3
      try simp -dsimp only [↓RE,↓c_seq,RU,RL,if_true,if_false,forall_const,implies_true,Nat.reduceLeDiff,Nat.reduceLT,pureOp,binPure,intBin,strBin,eqPure,isConstO,unPure,sliceLo,sliceHi,slicePure,lenPure,minPure,maxPure,buildP,resK,endV,yieldE,↓reduceIte,Nat.reduceEqDiff,reduceCtorEq,Nat.reduceAdd,Nat.reduceMul,Nat.reduceSub,Int.reduceLT,Int.reduceLE,Int.reduceToNat,Int.reduceAdd,Int.reduceSub,Int.reduceMul,ne_eq,decide_true,decide_false,tf19, he0, he1, he5, hmd, hnd]
      refine wpDraw_still (by kernel_rfl) ?_
      try simp -dsimp only [↓RE,↓c_seq,RU,RL,if_true,if_false,forall_const,implies_true,Nat.reduceLeDiff,Nat.reduceLT,pureOp,binPure,intBin,strBin,eqPure,isConstO,unPure,sliceLo,sliceHi,slicePure,lenPure,minPure,maxPure,buildP,resK,endV,yieldE,↓reduceIte,Nat.reduceEqDiff,reduceCtorEq,Nat.reduceAdd,Nat.reduceMul,Nat.reduceSub,Int.reduceLT,Int.reduceLE,Int.reduceToNat,Int.reduceAdd,Int.reduceSub,Int.reduceMul,ne_eq,decide_true,decide_false,tf19, he0, he1, he5, hmd, hnd, hc3, undef, Int.reduceEq]
      exact h w3.drew none 0 (hR3.grow (Grow.drew w3)) (Rd.nil _ _ _) (fun k hk => absurd hk (by rintro ⟨ad, e, _⟩; cases e)) (((k1.then_grow g2).trans k3 (H := fun k => k = p) (fun _ _ h => h) (fun _ _ h => h)).then_grow (Grow.drew w3))
    · rw [if_neg hm] at h
      have hmd : decide (most < 0) = false := decide_eq_false hm
      obtain ⟨V, rfl⟩ : ∃ V : Nat, v = (V : Int) := ⟨v.toNat, by omega⟩
      rw [Int.toNat_natCast] at h
      have hR2 := hR1.grow (Grow.drew w1)
      have hB2 := hB.drew
      have hd0 : w1.drew.cell? ⟨p, 0, none⟩ = some (.slice A s.xs.length c) := hB2.cell 0
      have hd1 : w1.drew.cell? ⟨p, 1, none⟩ = some (.int .i64 s.pos) := hB2.cell 1
      have hd3 : w1.drew.cell? ⟨p, 3, none⟩ = some (.int .i64 (badF s.fault).code) := hB2.cell 3
      have w1a : IntKind.i64.wrap ((s.xs.length : Int) - (s.pos : Int)) = ((s.xs.length - s.pos : Nat) : Int) := by rw [wrap_i64_in (by omega) (by omega)]; omega
      have w1b : IntKind.i64.wrap (((s.xs.length - s.pos : Nat) : Int) - ((m + 1 : Nat) : Int)) = ((s.xs.length - (s.pos + (m + 1)) : Nat) : Int) := by rw [wrap_i64_in (by omega) (by omega)]; omega
      have w1c : IntKind.u64.wrap ((s.xs.length - (s.pos + (m + 1)) : Nat) : Int) = ((s.xs.length - (s.pos + (m + 1)) : Nat) : Int) := by rw [wrap_u64]; omega
      try simp -dsimp only [↓RE,↓c_seq,RU,RL,if_true,if_false,forall_const,implies_true,Nat.reduceLeDiff,Nat.reduceLT,pureOp,binPure,intBin,strBin,eqPure,isConstO,unPure,sliceLo,sliceHi,slicePure,lenPure,minPure,maxPure,buildP,resK,endV,yieldE,↓reduceIte,Nat.reduceEqDiff,reduceCtorEq,Nat.reduceAdd,Nat.reduceMul,Nat.reduceSub,Int.reduceLT,Int.reduceLE,Int.reduceToNat,Int.reduceAdd,Int.reduceSub,Int.reduceMul,ne_eq,decide_true,decide_false,tf19, he0, he1, he5, hmd, hnd]
      refine wpDraw_still (by kernel_rfl) ?_
      try simp -dsimp only [↓RE,↓c_seq,RU,RL,if_true,if_false,forall_const,implies_true,Nat.reduceLeDiff,Nat.reduceLT,pureOp,binPure,intBin,strBin,eqPure,isConstO,unPure,sliceLo,sliceHi,slicePure,lenPure,minPure,maxPure,buildP,resK,endV,yieldE,↓reduceIte,Nat.reduceEqDiff,reduceCtorEq,Nat.reduceAdd,Nat.reduceMul,Nat.reduceSub,Int.reduceLT,Int.reduceLE,Int.reduceToNat,Int.reduceAdd,Int.reduceSub,Int.reduceMul,ne_eq,decide_true,decide_false,tf19, he0, he1, he5, hmd, hnd, hd0, hd1, hd3, hfn, w1a, w1b, w1c, undef]
      refine ⟨fun hgt => ?_, fun hng => ?_⟩
      · rw [if_pos hgt] at h
        try simp -dsimp only [↓RE,↓c_seq,RU,RL,if_true,if_false,forall_const,implies_true,Nat.reduceLeDiff,Nat.reduceLT,pureOp,binPure,intBin,strBin,eqPure,isConstO,unPure,sliceLo,sliceHi,slicePure,lenPure,minPure,maxPure,buildP,resK,endV,yieldE,↓reduceIte,Nat.reduceEqDiff,reduceCtorEq,Nat.reduceAdd,Nat.reduceMul,Nat.reduceSub,Int.reduceLT,Int.reduceLE,Int.reduceToNat,Int.reduceAdd,Int.reduceSub,Int.reduceMul,ne_eq,decide_true,decide_false,tf19, he0, he1, he5, hd0]
        refine rat_ok (c := 30) (by decide) (fun w2 g2 => ?_)
        try simp -dsimp only [↓RE,↓c_seq,RU,RL,if_true,if_false,forall_const,implies_true,Nat.reduceLeDiff,Nat.reduceLT,pureOp,binPure,intBin,strBin,eqPure,isConstO,unPure,sliceLo,sliceHi,slicePure,lenPure,minPure,maxPure,buildP,resK,endV,yieldE,↓reduceIte,Nat.reduceEqDiff,reduceCtorEq,Nat.reduceAdd,Nat.reduceMul,Nat.reduceSub,Int.reduceLT,Int.reduceLE,Int.reduceToNat,Int.reduceAdd,Int.reduceSub,Int.reduceMul,ne_eq,decide_true,decide_false,tf19, he0, he1, he5]
        refine rrfail_ok (er := errAt s.xs.length 30) (hR2.grow g2) fo (fun w3 hR3 k3 => ?_)
        have hc3 : w3.cell? ⟨p, 3, none⟩ = some (.int .i64 30) := by
          obtain ⟨A, c, hB, _⟩ := hR3
          rw [rFail_set hf] at hB
          exact hB.cell 3
        try simp -dsimp only [↓RE,↓c_seq,RU,RL,if_true,if_false,forall_const,implies_true,Nat.reduceLeDiff,Nat.reduceLT,pureOp,binPure,intBin,strBin,eqPure,isConstO,unPure,sliceLo,sliceHi,slicePure,lenPure,minPure,maxPure,buildP,resK,endV,yieldE,↓reduceIte,Nat.reduceEqDiff,reduceCtorEq,Nat.reduceAdd,Nat.reduceMul,Nat.reduceSub,Int.reduceLT,Int.reduceLE,Int.reduceToNat,Int.reduceAdd,Int.reduceSub,Int.reduceMul,ne_eq,decide_true,decide_false,tf19, he0, he1, he5, hc3, Int.reduceEq]
        exact h w3 none 0 hR3 (Rd.nil _ _ _) (fun k hk => absurd hk (by rintro ⟨ad, e, _⟩; cases e)) ((((k1.then_grow (Grow.drew w1))).then_grow g2).trans k3 (H := fun k => k = p) (fun _ _ h => h) (fun _ _ h => h))
      · rw [if_neg hng] at h
        have hB3 := hB2.drew
        have hx0 : w1.drew.drew.cell? ⟨p, 0, none⟩ = some (.slice A s.xs.length c) := hB3.cell 0
        have hx1 : w1.drew.drew.cell? ⟨p, 1, none⟩ = some (.int .i64 s.pos) := hB3.cell 1
        have q1 : IntKind.i64.wrap ((s.pos : Int) + ((m + 1 : Nat) : Int)) = ((s.pos + (m + 1) : Nat) : Int) := by rw [wrap_i64_in (by omega) (by omega)]; omega
        have q2 : IntKind.i64.wrap (V : Int) = (V : Int) := wrap_i64_in (by omega) (by omega)
        have q3 : IntKind.i64.wrap (((s.pos + (m + 1) : Nat) : Int) + (V : Int)) = ((s.pos + (m + 1) + V : Nat) : Int) := by rw [wrap_i64_in (by omega) (by omega)]; omega
        have q4 : IntKind.i64.wrap (((m + 1 : Nat) : Int) + (V : Int)) = ((m + 1 + V : Nat) : Int) := by rw [wrap_i64_in (by omega) (by omega)]; omega
        have q5 : IntKind.i64.wrap ((s.pos : Int) + ((m + 1 + V : Nat) : Int)) = ((s.pos + (m + 1) + V : Nat) : Int) := by rw [wrap_i64_in (by omega) (by omega)]; omega
        have q6 : s.pos + (m + 1) + V - (s.pos + (m + 1)) = V := by omega
        have hRd3 : Rd w1.drew.drew A s.xs.length 1 (s.xs.map (Value.int .u8)) := hRd.drew.drew
        have hcut := hRd3.cut (k := s.pos + (m + 1)) (m := s.pos + (m + 1) + V) (cap := c) (by omega) (by omega) hc
        have hdc : ((s.xs.map (Value.int .u8)).drop ((s.pos + (m + 1)) * 1)).take ((s.pos + (m + 1) + V - (s.pos + (m + 1))) * 1) = ((s.xs.drop (s.pos + (m + 1))).take V).map (Value.int .u8) := by
          rw [Nat.mul_one, Nat.mul_one, ← List.map_drop, ← List.map_take, q6]
        rw [hdc] at hcut
        simp only [Nat.mul_one, q6] at hcut
        have hZl : ((s.xs.drop (s.pos + (m + 1))).take V).length = V := by rw [List.length_take, List.length_drop]; omega
        rw [hZl] at h
        have hfd : decide ((badF s.fault).code = 0) = true := decide_eq_true hfn
        try simp -dsimp only [↓RE,↓c_seq,RU,RL,if_true,if_false,forall_const,implies_true,Nat.reduceLeDiff,Nat.reduceLT,pureOp,binPure,intBin,strBin,eqPure,isConstO,unPure,sliceLo,sliceHi,slicePure,lenPure,minPure,maxPure,buildP,resK,endV,yieldE,↓reduceIte,Nat.reduceEqDiff,reduceCtorEq,Nat.reduceAdd,Nat.reduceMul,Nat.reduceSub,Int.reduceLT,Int.reduceLE,Int.reduceToNat,Int.reduceAdd,Int.reduceSub,Int.reduceMul,ne_eq,decide_true,decide_false,tf19, he0, he1, he5, hd3, hfn]
        refine wpDraw_by (fun w => w.cell? ⟨p, 0, none⟩ = some (.slice A s.xs.length c) ∧ w.cell? ⟨p, 1, none⟩ = some (.int .i64 s.pos)) [(0, true), (1, true), (2, true), (3, true), (4, true), (5, true), (6, true), (7, true), (8, true), (9, true), (10, true), (11, true), (12, true), (13, true), (14, true), (15, true), (16, true), (17, true), (18, true), (19, true), (20, true), (21, false), (22, true)] (by kernel_rfl) ⟨hx0, hx1⟩ ?_
        simp only [planL, List.getElem?_toArray, List.getElem?_cons_zero, List.getElem?_cons_succ, Option.toList_some, List.map_cons, List.map_nil, List.cons_append, List.nil_append]
        try simp -dsimp only [↓RE,↓c_seq,RU,RL,if_true,if_false,forall_const,implies_true,Nat.reduceLeDiff,Nat.reduceLT,pureOp,binPure,intBin,strBin,eqPure,isConstO,unPure,sliceLo,sliceHi,slicePure,lenPure,minPure,maxPure,buildP,resK,endV,yieldE,↓reduceIte,Nat.reduceEqDiff,reduceCtorEq,Nat.reduceAdd,Nat.reduceMul,Nat.reduceSub,Int.reduceLT,Int.reduceLE,Int.reduceToNat,Int.reduceAdd,Int.reduceSub,Int.reduceMul,ne_eq,decide_true,decide_false,tf19, he0, he1, he5]
        refine ⟨_, fun w' hS => hS.1, ?_⟩
        try simp -dsimp only [↓RE,↓c_seq,RU,RL,if_true,if_false,forall_const,implies_true,Nat.reduceLeDiff,Nat.reduceLT,pureOp,binPure,intBin,strBin,eqPure,isConstO,unPure,sliceLo,sliceHi,slicePure,lenPure,minPure,maxPure,buildP,resK,endV,yieldE,↓reduceIte,Nat.reduceEqDiff,reduceCtorEq,Nat.reduceAdd,Nat.reduceMul,Nat.reduceSub,Int.reduceLT,Int.reduceLE,Int.reduceToNat,Int.reduceAdd,Int.reduceSub,Int.reduceMul,ne_eq,decide_true,decide_false,tf19, he0, he1, he5]
        refine ⟨_, fun w' hS => hS.2, ?_⟩
        try simp -dsimp only [↓RE,↓c_seq,RU,RL,if_true,if_false,forall_const,implies_true,Nat.reduceLeDiff,Nat.reduceLT,pureOp,binPure,intBin,strBin,eqPure,isConstO,unPure,sliceLo,sliceHi,slicePure,lenPure,minPure,maxPure,buildP,resK,endV,yieldE,↓reduceIte,Nat.reduceEqDiff,reduceCtorEq,Nat.reduceAdd,Nat.reduceMul,Nat.reduceSub,Int.reduceLT,Int.reduceLE,Int.reduceToNat,Int.reduceAdd,Int.reduceSub,Int.reduceMul,ne_eq,decide_true,decide_false,tf19, he0, he1, he5, q1]
        refine ⟨_, fun w' hS => hS.2, ?_⟩
        try simp -dsimp only [↓RE,↓c_seq,RU,RL,if_true,if_false,forall_const,implies_true,Nat.reduceLeDiff,Nat.reduceLT,pureOp,binPure,intBin,strBin,eqPure,isConstO,unPure,sliceLo,sliceHi,slicePure,lenPure,minPure,maxPure,buildP,resK,endV,yieldE,↓reduceIte,Nat.reduceEqDiff,reduceCtorEq,Nat.reduceAdd,Nat.reduceMul,Nat.reduceSub,Int.reduceLT,Int.reduceLE,Int.reduceToNat,Int.reduceAdd,Int.reduceSub,Int.reduceMul,ne_eq,decide_true,decide_false,tf19, he0, he1, he5, q1, q2, q3, Int.toNat_natCast, q6]
        refine ⟨⟨by omega, by omega, by omega⟩, ?_⟩
        try simp -dsimp only [↓RE,↓c_seq,RU,RL,if_true,if_false,forall_const,implies_true,Nat.reduceLeDiff,Nat.reduceLT,pureOp,binPure,intBin,strBin,eqPure,isConstO,unPure,sliceLo,sliceHi,slicePure,lenPure,minPure,maxPure,buildP,resK,endV,yieldE,↓reduceIte,Nat.reduceEqDiff,reduceCtorEq,Nat.reduceAdd,Nat.reduceMul,Nat.reduceSub,Int.reduceLT,Int.reduceLE,Int.reduceToNat,Int.reduceAdd,Int.reduceSub,Int.reduceMul,ne_eq,decide_true,decide_false,tf19, he0, he1, he5, q1, q2, q3, Int.toNat_natCast, q6]
        refine appK_own (bytes := 1) (by kernel_rfl) (own_nil w1.drew.drew 5 1) hcut (ints_one _ _) (by simp only [maxLen]; omega) (by omega) (fun A' c' w4 hO4 hK4 hF4 => ?_)
        have hO4 : w4.ownsRow 0 5 1 (.slice A' V c') V (((s.xs.drop (s.pos + (m + 1))).take V).map (Value.int .u8)) := by simpa only [Nat.zero_add, List.nil_append] using hO4
        have k4 : Grow w1.drew.drew w4 := hK4.mono (fun i _ hf => absurd hf (fpV_none i))
        have hF4 : ∀ k, fpA A' k → k = w1.heap.size := fun k hk => (hF4 k (by rw [Nat.zero_add, fpV_fpA]; exact hk)).elim (fun h => absurd h (fpV_none k)) id
        have hB4 := hB3.grow k4
        have hy1 : w4.cell? ⟨p, 1, none⟩ = some (.int .i64 s.pos) := hB4.cell 1
        try simp -dsimp only [↓RE,↓c_seq,RU,RL,if_true,if_false,forall_const,implies_true,Nat.reduceLeDiff,Nat.reduceLT,pureOp,binPure,intBin,strBin,eqPure,isConstO,unPure,sliceLo,sliceHi,slicePure,lenPure,minPure,maxPure,buildP,resK,endV,yieldE,↓reduceIte,Nat.reduceEqDiff,reduceCtorEq,Nat.reduceAdd,Nat.reduceMul,Nat.reduceSub,Int.reduceLT,Int.reduceLE,Int.reduceToNat,Int.reduceAdd,Int.reduceSub,Int.reduceMul,ne_eq,decide_true,decide_false,tf19, he0, he1, he5, q1, q2, q3]
        refine ⟨⟨hB4.cell 0, hy1⟩, ?_⟩
        try simp -dsimp only [↓RE,↓c_seq,RU,RL,if_true,if_false,forall_const,implies_true,Nat.reduceLeDiff,Nat.reduceLT,pureOp,binPure,intBin,strBin,eqPure,isConstO,unPure,sliceLo,sliceHi,slicePure,lenPure,minPure,maxPure,buildP,resK,endV,yieldE,↓reduceIte,Nat.reduceEqDiff,reduceCtorEq,Nat.reduceAdd,Nat.reduceMul,Nat.reduceSub,Int.reduceLT,Int.reduceLE,Int.reduceToNat,Int.reduceAdd,Int.reduceSub,Int.reduceMul,ne_eq,decide_true,decide_false,tf19, he0, he1, he5, q1, q2, q3, q4, q5, hy1]
        refine hB4.st (i := 1) (by simp [BadV.cells]) ?_
        have hB5 := hB4.set 1 (.int .i64 (s.pos + (m + 1) + V : Nat))
        have k5 := Keep.set1 w4 p 1 (.int .i64 (s.pos + (m + 1) + V : Nat))
        try simp -dsimp only [↓RE,↓c_seq,RU,RL,if_true,if_false,forall_const,implies_true,Nat.reduceLeDiff,Nat.reduceLT,pureOp,binPure,intBin,strBin,eqPure,isConstO,unPure,sliceLo,sliceHi,slicePure,lenPure,minPure,maxPure,buildP,resK,endV,yieldE,↓reduceIte,Nat.reduceEqDiff,reduceCtorEq,Nat.reduceAdd,Nat.reduceMul,Nat.reduceSub,Int.reduceLT,Int.reduceLE,Int.reduceToNat,Int.reduceAdd,Int.reduceSub,Int.reduceMul,ne_eq,decide_true,decide_false,tf19, he0, he1, he5]
        refine hB5.st (i := 2) (by simp [BadV.cells]) ?_
        have hB6 := hB5.set 2 (.int .i64 0)
        have k6 := k5.trans (Keep.set1 _ p 2 (.int .i64 0)) (H := fun k => k = p) (fun _ _ h => h) (fun _ _ h => h)
        have hpw1 : p < w1.heap.size := hB.lt
        have hO6 := own_keep hO4 k6 (fun k hk e => by rw [fpV_fpA] at hk; have := hF4 k hk; omega)
        have hRd6 := ((hRd3.grow k4).keep0 k6 (fun h0 k hk e => hp h0 (e ▸ hk)))
        try simp -dsimp only [↓RE,↓c_seq,RU,RL,if_true,if_false,forall_const,implies_true,Nat.reduceLeDiff,Nat.reduceLT,pureOp,binPure,intBin,strBin,eqPure,isConstO,unPure,sliceLo,sliceHi,slicePure,lenPure,minPure,maxPure,buildP,resK,endV,yieldE,↓reduceIte,Nat.reduceEqDiff,reduceCtorEq,Nat.reduceAdd,Nat.reduceMul,Nat.reduceSub,Int.reduceLT,Int.reduceLE,Int.reduceToNat,Int.reduceAdd,Int.reduceSub,Int.reduceMul,ne_eq,decide_true,decide_false,tf19, he0, he1, he5, Nat.zero_add]
        exact h _ A' c' ⟨A, c, by simpa using hB6, hRd6, hp, hc, hF⟩ (Rd.of_own hO6) (fun k hk => by have := hF4 k hk; have := k1.size; omega) ((((k1.then_grow (Grow.drew w1)).then_grow (Grow.drew _)).then_grow k4).trans k6 (H := fun k => k = p) (fun _ _ h => h) (fun _ _ h => h))

theorem rLoad_len' {m : Int} {s : RS} (ok : RSok s) : (rLoad m s).2.length ≤ s.xs.length := by
  have t : ∀ (n : Nat) (q : RS), (rTake n q).2.length ≤ q.xs.length := fun n q => by
    unfold rTake
    split
    · split
      · simp
      · rw [List.length_take, List.length_drop]; omega
    · simp
  unfold rLoad
  split
  · split
    · simp
    · have := t (rLoadN m s).toNat (rLoadS m s)
      rw [rLoadS_xs] at this
      exact this
  · simp
end Go.Proofs.YtmgiichlccdcfaaGreatDoor

namespace Go.Proofs.YtmgiichlccdcfaaGreatDoor
open Go

theorem Keep.drew (F : Nat → Prop) (w : World) : Keep F w w.drew := (Keep.refl F w).then_grow (Grow.drew w)
theorem rrbits_ok {w : World} {F : Nat → Prop} {p : Nat} {s : RS} (hR : RMAt w F p s) (ok : RSok s) (fo : FOk s.fault) {n : Int} {R : VWK}
    (h : ∀ w', RMAt w' F p (rBits n s).1 → Keep (fun k => k = p) w w' → R (.int .u64 (rBits n s).2) w') :
    CallsV Tryz.prog 50 [.pointer (some ⟨p, 0, none⟩), .int .i64 n] w R := by
  have hl := ok.len
  have hle := ok.le
  have h8 := ok.b8
  have hbr := brought_le n
  have hp0 : p < w.heap.size := hR.lt p hR.place
  have hR0 := hR
  obtain ⟨A, c, hB, hRd, hp, hc, hF⟩ := hR0
  have hd0 : w.drew.cell? ⟨p, 0, none⟩ = some (.slice A s.xs.length c) := hB.drew.cell 0
  have hd1 : w.drew.cell? ⟨p, 1, none⟩ = some (.int .i64 s.pos) := hB.drew.cell 1
  have hd2 : w.drew.cell? ⟨p, 2, none⟩ = some (.int .i64 s.bits) := hB.drew.cell 2
  have hd3 : w.drew.cell? ⟨p, 3, none⟩ = some (.int .i64 (badF s.fault).code) := hB.drew.cell 3
  have w1a : IntKind.i64.wrap ((s.xs.length : Int) - (s.pos : Int)) = ((s.xs.length - s.pos : Nat) : Int) := by rw [wrap_i64_in (by omega) (by omega)]; omega
  have w1b : IntKind.i64.wrap (8 * ((s.xs.length - s.pos : Nat) : Int)) = ((8 * (s.xs.length - s.pos) : Nat) : Int) := by rw [wrap_i64_in (by omega) (by omega)]; omega
  generalize hN : brought n = N at hbr
  unfold rBits at h
  rw [hN] at h
  refine calls_of_wpC mixed Tryz.func50 rfl (by kernel_rfl) ?_
  intro e he
  have he0 := he 0
  have he1 := he 1
  simp only [List.getD_cons_zero, List.getD_cons_succ] at he0 he1
  clear he
  try simp -dsimp only [↓RE,↓c_seq,RU,RL,if_true,if_false,forall_const,implies_true,Nat.reduceLeDiff,Nat.reduceLT,pureOp,binPure,intBin,strBin,eqPure,isConstO,unPure,sliceLo,sliceHi,slicePure,lenPure,minPure,maxPure,buildP,resK,endV,yieldE,↓reduceIte,Nat.reduceEqDiff,reduceCtorEq,Nat.reduceAdd,Nat.reduceMul,Nat.reduceSub,Int.reduceLT,Int.reduceLE,Int.reduceToNat,Int.reduceAdd,Int.reduceSub,Int.reduceMul,ne_eq,decide_true,decide_false,tf50, he0, he1]
  refine brought_ok ?_
  rw [hN]
  simp -dsimp only [↓RE,RU,RL,if_true,if_false,forall_const,implies_true,Nat.reduceLeDiff,Nat.reduceLT,pureOp,binPure,intBin,strBin,eqPure,isConstO,unPure,sliceLo,sliceHi,slicePure,lenPure,minPure,maxPure,buildP,resK,endV,yieldE,↓reduceIte,Nat.reduceEqDiff,reduceCtorEq,Nat.reduceAdd,Nat.reduceMul,Nat.reduceSub,Int.reduceLT,Int.reduceLE,Int.reduceToNat,Int.reduceAdd,Int.reduceSub,Int.reduceMul,ne_eq,decide_true,decide_false,tf50, he0, he1]
  rw [c_seq]
  simp -dsimp only [↓RE,RU,RL,if_true,if_false,forall_const,implies_true,Nat.reduceLeDiff,Nat.reduceLT,pureOp,binPure,intBin,strBin,eqPure,isConstO,unPure,sliceLo,sliceHi,slicePure,lenPure,minPure,maxPure,buildP,resK,endV,yieldE,↓reduceIte,Nat.reduceEqDiff,reduceCtorEq,Nat.reduceAdd,Nat.reduceMul,Nat.reduceSub,Int.reduceLT,Int.reduceLE,Int.reduceToNat,Int.reduceAdd,Int.reduceSub,Int.reduceMul,ne_eq,decide_true,decide_false,tf50, he0, he1]
  refine wpDraw_still (by kernel_rfl) ?_
  simp -dsimp only [↓RE,RU,RL,if_true,if_false,forall_const,implies_true,Nat.reduceLeDiff,Nat.reduceLT,pureOp,binPure,intBin,strBin,eqPure,isConstO,unPure,sliceLo,sliceHi,slicePure,lenPure,minPure,maxPure,buildP,resK,endV,yieldE,↓reduceIte,Nat.reduceEqDiff,reduceCtorEq,Nat.reduceAdd,Nat.reduceMul,Nat.reduceSub,Int.reduceLT,Int.reduceLE,Int.reduceToNat,Int.reduceAdd,Int.reduceSub,Int.reduceMul,ne_eq,decide_true,decide_false,tf50, he0, he1, hd0, hd1, w1a, w1b]
  refine c_seq_cut (fun e' w' => w' = w.drew ∧ e' 0 = .pointer (some ⟨p, 0, none⟩) ∧ e' 1 = .int .i64 N ∧ e' 4 = .int .u64 0 ∧ e' 5 = .int .i64 (bitsOpen s + 8 * (s.xs.length - s.pos) : Nat)) ?_ ?_
  · try simp -dsimp only [↓RE,↓c_seq,RU,RL,if_true,if_false,forall_const,implies_true,Nat.reduceLeDiff,Nat.reduceLT,pureOp,binPure,intBin,strBin,eqPure,isConstO,unPure,sliceLo,sliceHi,slicePure,lenPure,minPure,maxPure,buildP,resK,endV,yieldE,↓reduceIte,Nat.reduceEqDiff,reduceCtorEq,Nat.reduceAdd,Nat.reduceMul,Nat.reduceSub,Int.reduceLT,Int.reduceLE,Int.reduceToNat,Int.reduceAdd,Int.reduceSub,Int.reduceMul,ne_eq,decide_true,decide_false,tf50, he0, he1, hd2]
    refine ⟨fun hpos => ?_, fun hneg => ?_⟩
    · have e : bitsOpen s = 8 - s.bits := by unfold bitsOpen; rw [if_pos (by omega)]
      have w2a : IntKind.i64.wrap (8 - (s.bits : Int)) = ((8 - s.bits : Nat) : Int) := by rw [wrap_i64_in (by omega) (by omega)]; omega
      have w2b : IntKind.i64.wrap (((8 * (s.xs.length - s.pos) : Nat) : Int) + ((8 - s.bits : Nat) : Int)) = ((8 - s.bits + 8 * (s.xs.length - s.pos) : Nat) : Int) := by rw [wrap_i64_in (by omega) (by omega)]; omega
      try simp -dsimp only [↓RE,↓c_seq,RU,RL,if_true,if_false,forall_const,implies_true,Nat.reduceLeDiff,Nat.reduceLT,pureOp,binPure,intBin,strBin,eqPure,isConstO,unPure,sliceLo,sliceHi,slicePure,lenPure,minPure,maxPure,buildP,resK,endV,yieldE,↓reduceIte,Nat.reduceEqDiff,reduceCtorEq,Nat.reduceAdd,Nat.reduceMul,Nat.reduceSub,Int.reduceLT,Int.reduceLE,Int.reduceToNat,Int.reduceAdd,Int.reduceSub,Int.reduceMul,ne_eq,decide_true,decide_false,tf50, he0, he1, hd2, w2a, w2b]
      refine hold_intro ⟨rfl, ?_, ?_, ?_, ?_⟩
      · simp -dsimp only [↓RE,↓c_seq,RU,RL,if_true,if_false,forall_const,implies_true,Nat.reduceLeDiff,Nat.reduceLT,pureOp,binPure,intBin,strBin,eqPure,isConstO,unPure,sliceLo,sliceHi,slicePure,lenPure,minPure,maxPure,buildP,resK,endV,yieldE,↓reduceIte,Nat.reduceEqDiff,reduceCtorEq,Nat.reduceAdd,Nat.reduceMul,Nat.reduceSub,Int.reduceLT,Int.reduceLE,Int.reduceToNat,Int.reduceAdd,Int.reduceSub,Int.reduceMul,ne_eq,decide_true,decide_false,tf50, he0]
      · simp -dsimp only [↓RE,↓c_seq,RU,RL,if_true,if_false,forall_const,implies_true,Nat.reduceLeDiff,Nat.reduceLT,pureOp,binPure,intBin,strBin,eqPure,isConstO,unPure,sliceLo,sliceHi,slicePure,lenPure,minPure,maxPure,buildP,resK,endV,yieldE,↓reduceIte,Nat.reduceEqDiff,reduceCtorEq,Nat.reduceAdd,Nat.reduceMul,Nat.reduceSub,Int.reduceLT,Int.reduceLE,Int.reduceToNat,Int.reduceAdd,Int.reduceSub,Int.reduceMul,ne_eq,decide_true,decide_false,tf50, he0]
      · simp -dsimp only [↓RE,↓c_seq,RU,RL,if_true,if_false,forall_const,implies_true,Nat.reduceLeDiff,Nat.reduceLT,pureOp,binPure,intBin,strBin,eqPure,isConstO,unPure,sliceLo,sliceHi,slicePure,lenPure,minPure,maxPure,buildP,resK,endV,yieldE,↓reduceIte,Nat.reduceEqDiff,reduceCtorEq,Nat.reduceAdd,Nat.reduceMul,Nat.reduceSub,Int.reduceLT,Int.reduceLE,Int.reduceToNat,Int.reduceAdd,Int.reduceSub,Int.reduceMul,ne_eq,decide_true,decide_false,tf50, he0]
      · simp -dsimp only [↓RE,↓c_seq,RU,RL,if_true,if_false,forall_const,implies_true,Nat.reduceLeDiff,Nat.reduceLT,pureOp,binPure,intBin,strBin,eqPure,isConstO,unPure,sliceLo,sliceHi,slicePure,lenPure,minPure,maxPure,buildP,resK,endV,yieldE,↓reduceIte,Nat.reduceEqDiff,reduceCtorEq,Nat.reduceAdd,Nat.reduceMul,Nat.reduceSub,Int.reduceLT,Int.reduceLE,Int.reduceToNat,Int.reduceAdd,Int.reduceSub,Int.reduceMul,ne_eq,decide_true,decide_false,tf50, he0, e, w2a, w2b]
    · have e : bitsOpen s = 0 := by unfold bitsOpen; rw [if_neg (by omega)]
      try simp -dsimp only [↓RE,↓c_seq,RU,RL,if_true,if_false,forall_const,implies_true,Nat.reduceLeDiff,Nat.reduceLT,pureOp,binPure,intBin,strBin,eqPure,isConstO,unPure,sliceLo,sliceHi,slicePure,lenPure,minPure,maxPure,buildP,resK,endV,yieldE,↓reduceIte,Nat.reduceEqDiff,reduceCtorEq,Nat.reduceAdd,Nat.reduceMul,Nat.reduceSub,Int.reduceLT,Int.reduceLE,Int.reduceToNat,Int.reduceAdd,Int.reduceSub,Int.reduceMul,ne_eq,decide_true,decide_false,tf50, he0, he1, hd2]
      refine hold_intro ⟨rfl, ?_, ?_, ?_, ?_⟩
      · simp -dsimp only [↓RE,↓c_seq,RU,RL,if_true,if_false,forall_const,implies_true,Nat.reduceLeDiff,Nat.reduceLT,pureOp,binPure,intBin,strBin,eqPure,isConstO,unPure,sliceLo,sliceHi,slicePure,lenPure,minPure,maxPure,buildP,resK,endV,yieldE,↓reduceIte,Nat.reduceEqDiff,reduceCtorEq,Nat.reduceAdd,Nat.reduceMul,Nat.reduceSub,Int.reduceLT,Int.reduceLE,Int.reduceToNat,Int.reduceAdd,Int.reduceSub,Int.reduceMul,ne_eq,decide_true,decide_false,tf50, he0]
      · simp -dsimp only [↓RE,↓c_seq,RU,RL,if_true,if_false,forall_const,implies_true,Nat.reduceLeDiff,Nat.reduceLT,pureOp,binPure,intBin,strBin,eqPure,isConstO,unPure,sliceLo,sliceHi,slicePure,lenPure,minPure,maxPure,buildP,resK,endV,yieldE,↓reduceIte,Nat.reduceEqDiff,reduceCtorEq,Nat.reduceAdd,Nat.reduceMul,Nat.reduceSub,Int.reduceLT,Int.reduceLE,Int.reduceToNat,Int.reduceAdd,Int.reduceSub,Int.reduceMul,ne_eq,decide_true,decide_false,tf50, he0]
      · simp -dsimp only [↓RE,↓c_seq,RU,RL,if_true,if_false,forall_const,implies_true,Nat.reduceLeDiff,Nat.reduceLT,pureOp,binPure,intBin,strBin,eqPure,isConstO,unPure,sliceLo,sliceHi,slicePure,lenPure,minPure,maxPure,buildP,resK,endV,yieldE,↓reduceIte,Nat.reduceEqDiff,reduceCtorEq,Nat.reduceAdd,Nat.reduceMul,Nat.reduceSub,Int.reduceLT,Int.reduceLE,Int.reduceToNat,Int.reduceAdd,Int.reduceSub,Int.reduceMul,ne_eq,decide_true,decide_false,tf50, he0]
      · simp -dsimp only [↓RE,↓c_seq,RU,RL,if_true,if_false,forall_const,implies_true,Nat.reduceLeDiff,Nat.reduceLT,pureOp,binPure,intBin,strBin,eqPure,isConstO,unPure,sliceLo,sliceHi,slicePure,lenPure,minPure,maxPure,buildP,resK,endV,yieldE,↓reduceIte,Nat.reduceEqDiff,reduceCtorEq,Nat.reduceAdd,Nat.reduceMul,Nat.reduceSub,Int.reduceLT,Int.reduceLE,Int.reduceToNat,Int.reduceAdd,Int.reduceSub,Int.reduceMul,ne_eq,decide_true,decide_false,tf50, he0, e, w1a, w1b]
  rintro e w' ⟨rfl, he0, he1, he4, he5⟩
  have hR1 := hR.grow (Grow.drew w)
  by_cases hf : s.fault = none
  case neg =>
    rw [if_pos hf] at h
    have hcd : (badF s.fault).code ≠ 0 := fun h => hf (fo.code.1 h)
    have hcd1 : decide ((badF s.fault).code = 0) = false := decide_eq_false hcd
    try simp -dsimp only [↓RE,↓c_seq,RU,RL,if_true,if_false,forall_const,implies_true,Nat.reduceLeDiff,Nat.reduceLT,pureOp,binPure,intBin,strBin,eqPure,isConstO,unPure,sliceLo,sliceHi,slicePure,lenPure,minPure,maxPure,buildP,resK,endV,yieldE,↓reduceIte,Nat.reduceEqDiff,reduceCtorEq,Nat.reduceAdd,Nat.reduceMul,Nat.reduceSub,Int.reduceLT,Int.reduceLE,Int.reduceToNat,Int.reduceAdd,Int.reduceSub,Int.reduceMul,ne_eq,decide_true,decide_false,tf50, he0, he1, he4, he5, hd3, hcd1, undef]
    exact h _ hR1 (Keep.drew _ _)
  case pos =>
    rw [if_neg (by simp [hf])] at h
    have hcd : (badF s.fault).code = 0 := fo.code.2 hf
    try simp -dsimp only [↓RE,↓c_seq,RU,RL,if_true,if_false,forall_const,implies_true,Nat.reduceLeDiff,Nat.reduceLT,pureOp,binPure,intBin,strBin,eqPure,isConstO,unPure,sliceLo,sliceHi,slicePure,lenPure,minPure,maxPure,buildP,resK,endV,yieldE,↓reduceIte,Nat.reduceEqDiff,reduceCtorEq,Nat.reduceAdd,Nat.reduceMul,Nat.reduceSub,Int.reduceLT,Int.reduceLE,Int.reduceToNat,Int.reduceAdd,Int.reduceSub,Int.reduceMul,ne_eq,decide_true,decide_false,tf50, he0, he1, he4, he5, hd3, hcd, undef]
    refine ⟨fun hlt => ?_, fun hge => ?_⟩
    · rw [if_pos (by omega)] at h
      try simp -dsimp only [↓RE,↓c_seq,RU,RL,if_true,if_false,forall_const,implies_true,Nat.reduceLeDiff,Nat.reduceLT,pureOp,binPure,intBin,strBin,eqPure,isConstO,unPure,sliceLo,sliceHi,slicePure,lenPure,minPure,maxPure,buildP,resK,endV,yieldE,↓reduceIte,Nat.reduceEqDiff,reduceCtorEq,Nat.reduceAdd,Nat.reduceMul,Nat.reduceSub,Int.reduceLT,Int.reduceLE,Int.reduceToNat,Int.reduceAdd,Int.reduceSub,Int.reduceMul,ne_eq,decide_true,decide_false,tf50, he0, he1, he4, he5, hd0]
      refine rat_ok (by decide) (fun w2 g2 => ?_)
      try simp -dsimp only [↓RE,↓c_seq,RU,RL,if_true,if_false,forall_const,implies_true,Nat.reduceLeDiff,Nat.reduceLT,pureOp,binPure,intBin,strBin,eqPure,isConstO,unPure,sliceLo,sliceHi,slicePure,lenPure,minPure,maxPure,buildP,resK,endV,yieldE,↓reduceIte,Nat.reduceEqDiff,reduceCtorEq,Nat.reduceAdd,Nat.reduceMul,Nat.reduceSub,Int.reduceLT,Int.reduceLE,Int.reduceToNat,Int.reduceAdd,Int.reduceSub,Int.reduceMul,ne_eq,decide_true,decide_false,tf50, he0, he1, he4, he5]
      refine rrfail_ok (er := errAt s.xs.length 30) (hR1.grow g2) fo (fun w3 hR3 k3 => ?_)
      have hc3 : w3.cell? ⟨p, 3, none⟩ = some (.int .i64 30) := by
        obtain ⟨A, c, hB, _⟩ := hR3
        rw [rFail_set hf] at hB
        exact hB.cell 3
      try simp -dsimp only [↓RE,↓c_seq,RU,RL,if_true,if_false,forall_const,implies_true,Nat.reduceLeDiff,Nat.reduceLT,pureOp,binPure,intBin,strBin,eqPure,isConstO,unPure,sliceLo,sliceHi,slicePure,lenPure,minPure,maxPure,buildP,resK,endV,yieldE,↓reduceIte,Nat.reduceEqDiff,reduceCtorEq,Nat.reduceAdd,Nat.reduceMul,Nat.reduceSub,Int.reduceLT,Int.reduceLE,Int.reduceToNat,Int.reduceAdd,Int.reduceSub,Int.reduceMul,ne_eq,decide_true,decide_false,tf50, he0, he1, he4, he5, hc3, Int.reduceEq]
      exact h w3 hR3 (((Grow.drew w).trans g2).then k3)
    · rw [if_neg (by omega)] at h
      try simp -dsimp only [↓RE,↓c_seq,RU,RL,if_true,if_false,forall_const,implies_true,Nat.reduceLeDiff,Nat.reduceLT,pureOp,binPure,intBin,strBin,eqPure,isConstO,unPure,sliceLo,sliceHi,slicePure,lenPure,minPure,maxPure,buildP,resK,endV,yieldE,↓reduceIte,Nat.reduceEqDiff,reduceCtorEq,Nat.reduceAdd,Nat.reduceMul,Nat.reduceSub,Int.reduceLT,Int.reduceLE,Int.reduceToNat,Int.reduceAdd,Int.reduceSub,Int.reduceMul,ne_eq,decide_true,decide_false,tf50, he0, he1, he4, he5, hd3, hcd]
      refine wpLoop_intro (fun e' w' => e' 0 = .pointer (some ⟨p, 0, none⟩) ∧ e' 1 = .int .i64 N ∧ ∃ (j i : Nat) (s' : RS) (v : Int), i + j = N ∧ e' 7 = .int .i64 i ∧ e' 6 = .int .u64 v ∧ 0 ≤ v ∧ v < 2 ^ i ∧ RSok s' ∧ s'.xs = s.xs ∧ FOk s'.fault ∧
          j ≤ bitsOpen s' + 8 * (s'.xs.length - s'.pos) ∧ rBitsN j s' v = rBitsN N s 0 ∧ RMAt w' F p s' ∧ Keep (fun k => k = p) w w')
        (fun e' _ => N - (envInt (e' 7)).toNat) ⟨?_, ?_, N, 0, s, 0, by omega, ?_, ?_, by omega, by simp, ok, rfl, fo, by omega, rfl, hR1, Keep.drew _ _⟩ ?_
      · simp -dsimp only [↓RE,↓c_seq,RU,RL,if_true,if_false,forall_const,implies_true,Nat.reduceLeDiff,Nat.reduceLT,pureOp,binPure,intBin,strBin,eqPure,isConstO,unPure,sliceLo,sliceHi,slicePure,lenPure,minPure,maxPure,buildP,resK,endV,yieldE,↓reduceIte,Nat.reduceEqDiff,reduceCtorEq,Nat.reduceAdd,Nat.reduceMul,Nat.reduceSub,Int.reduceLT,Int.reduceLE,Int.reduceToNat,Int.reduceAdd,Int.reduceSub,Int.reduceMul,ne_eq,decide_true,decide_false,tf50, he0]
      · simp -dsimp only [↓RE,↓c_seq,RU,RL,if_true,if_false,forall_const,implies_true,Nat.reduceLeDiff,Nat.reduceLT,pureOp,binPure,intBin,strBin,eqPure,isConstO,unPure,sliceLo,sliceHi,slicePure,lenPure,minPure,maxPure,buildP,resK,endV,yieldE,↓reduceIte,Nat.reduceEqDiff,reduceCtorEq,Nat.reduceAdd,Nat.reduceMul,Nat.reduceSub,Int.reduceLT,Int.reduceLE,Int.reduceToNat,Int.reduceAdd,Int.reduceSub,Int.reduceMul,ne_eq,decide_true,decide_false,tf50, he1]
      · simp -dsimp only [↓RE,↓c_seq,RU,RL,if_true,if_false,forall_const,implies_true,Nat.reduceLeDiff,Nat.reduceLT,pureOp,binPure,intBin,strBin,eqPure,isConstO,unPure,sliceLo,sliceHi,slicePure,lenPure,minPure,maxPure,buildP,resK,endV,yieldE,↓reduceIte,Nat.reduceEqDiff,reduceCtorEq,Nat.reduceAdd,Nat.reduceMul,Nat.reduceSub,Int.reduceLT,Int.reduceLE,Int.reduceToNat,Int.reduceAdd,Int.reduceSub,Int.reduceMul,ne_eq,decide_true,decide_false,tf50, he0, Int.cast_ofNat_Int]
      · simp -dsimp only [↓RE,↓c_seq,RU,RL,if_true,if_false,forall_const,implies_true,Nat.reduceLeDiff,Nat.reduceLT,pureOp,binPure,intBin,strBin,eqPure,isConstO,unPure,sliceLo,sliceHi,slicePure,lenPure,minPure,maxPure,buildP,resK,endV,yieldE,↓reduceIte,Nat.reduceEqDiff,reduceCtorEq,Nat.reduceAdd,Nat.reduceMul,Nat.reduceSub,Int.reduceLT,Int.reduceLE,Int.reduceToNat,Int.reduceAdd,Int.reduceSub,Int.reduceMul,ne_eq,decide_true,decide_false,tf50, he0]
      rintro e' w' ⟨h0, h1, j, i, s', v, hij, h7, h6, v0, v1, ok', hxs, fo', hj, hrec, hR', hk⟩
      have h8' := ok'.b8
      have hle' := ok'.le
      have hl' := ok'.len
      simp -dsimp only [↓RE,RU,RL,if_true,if_false,forall_const,implies_true,Nat.reduceLeDiff,Nat.reduceLT,pureOp,binPure,intBin,strBin,eqPure,isConstO,unPure,sliceLo,sliceHi,slicePure,lenPure,minPure,maxPure,buildP,resK,endV,yieldE,↓reduceIte,Nat.reduceEqDiff,reduceCtorEq,Nat.reduceAdd,Nat.reduceMul,Nat.reduceSub,Int.reduceLT,Int.reduceLE,Int.reduceToNat,Int.reduceAdd,Int.reduceSub,Int.reduceMul,ne_eq,decide_true,decide_false,tf50, h0, h1, h7, h6]
      rw [c_seq]
      rw [c_seq]
      simp -dsimp only [↓RE,RU,RL,if_true,if_false,forall_const,implies_true,Nat.reduceLeDiff,Nat.reduceLT,pureOp,binPure,intBin,strBin,eqPure,isConstO,unPure,sliceLo,sliceHi,slicePure,lenPure,minPure,maxPure,buildP,resK,endV,yieldE,↓reduceIte,Nat.reduceEqDiff,reduceCtorEq,Nat.reduceAdd,Nat.reduceMul,Nat.reduceSub,Int.reduceLT,Int.reduceLE,Int.reduceToNat,Int.reduceAdd,Int.reduceSub,Int.reduceMul,ne_eq,decide_true,decide_false,tf50, h0, h1, h7, h6]
      refine ⟨fun hlt => ?_, fun hge => ?_⟩
      · obtain ⟨j, rfl⟩ : ∃ k, j = k + 1 := ⟨j - 1, by omega⟩
        obtain ⟨okn, hjn, hb1, hb2⟩ := bitStep_ok ok' (by omega)
        have h01 := bitAt_01 s'
        obtain ⟨A, c, hB, hRd, hp, hc, hF⟩ := hR'
        have hc2 : w'.cell? ⟨p, 2, none⟩ = some (.int .i64 s'.bits) := hB.cell 2
        have hc1 : w'.cell? ⟨p, 1, none⟩ = some (.int .i64 s'.pos) := hB.cell 1
        try simp -dsimp only [↓RE,RU,RL,if_true,if_false,forall_const,implies_true,Nat.reduceLeDiff,Nat.reduceLT,pureOp,binPure,intBin,strBin,eqPure,isConstO,unPure,sliceLo,sliceHi,slicePure,lenPure,minPure,maxPure,buildP,resK,endV,yieldE,↓reduceIte,Nat.reduceEqDiff,reduceCtorEq,Nat.reduceAdd,Nat.reduceMul,Nat.reduceSub,Int.reduceLT,Int.reduceLE,Int.reduceToNat,Int.reduceAdd,Int.reduceSub,Int.reduceMul,ne_eq,decide_true,decide_false,tf50, h0, h1, h7, h6]
        rw [c_seq]
        try simp -dsimp only [↓RE,RU,RL,if_true,if_false,forall_const,implies_true,Nat.reduceLeDiff,Nat.reduceLT,pureOp,binPure,intBin,strBin,eqPure,isConstO,unPure,sliceLo,sliceHi,slicePure,lenPure,minPure,maxPure,buildP,resK,endV,yieldE,↓reduceIte,Nat.reduceEqDiff,reduceCtorEq,Nat.reduceAdd,Nat.reduceMul,Nat.reduceSub,Int.reduceLT,Int.reduceLE,Int.reduceToNat,Int.reduceAdd,Int.reduceSub,Int.reduceMul,ne_eq,decide_true,decide_false,tf50, h0, h1, h7, h6]
        refine c_seq_cut (fun e2 w2 => e2 0 = .pointer (some ⟨p, 0, none⟩) ∧ e2 1 = .int .i64 N ∧ e2 7 = .int .i64 i ∧ e2 6 = .int .u64 v ∧
            Blk w2 p 88 ([.slice A s'.xs.length c, .int .i64 (bitPos s'), .int .i64 s'.bits] ++ (badF s'.fault).cells) ∧ Keep (fun k => k = p) w' w2) ?_ ?_
        · try simp -dsimp only [↓RE,↓c_seq,RU,RL,if_true,if_false,forall_const,implies_true,Nat.reduceLeDiff,Nat.reduceLT,pureOp,binPure,intBin,strBin,eqPure,isConstO,unPure,sliceLo,sliceHi,slicePure,lenPure,minPure,maxPure,buildP,resK,endV,yieldE,↓reduceIte,Nat.reduceEqDiff,reduceCtorEq,Nat.reduceAdd,Nat.reduceMul,Nat.reduceSub,Int.reduceLT,Int.reduceLE,Int.reduceToNat,Int.reduceAdd,Int.reduceSub,Int.reduceMul,ne_eq,decide_true,decide_false,tf50, h0, h1, h7, h6, hc2]
          refine ⟨fun hz => ?_, fun hnz => ?_⟩
          · have e1 : bitPos s' = s'.pos + 1 := by unfold bitPos; rw [if_pos (by omega)]
            have hw1 : IntKind.i64.wrap ((s'.pos : Int) + 1) = ((s'.pos + 1 : Nat) : Int) := by rw [wrap_i64_in (by omega) (by omega)]; omega
            try simp -dsimp only [↓RE,↓c_seq,RU,RL,if_true,if_false,forall_const,implies_true,Nat.reduceLeDiff,Nat.reduceLT,pureOp,binPure,intBin,strBin,eqPure,isConstO,unPure,sliceLo,sliceHi,slicePure,lenPure,minPure,maxPure,buildP,resK,endV,yieldE,↓reduceIte,Nat.reduceEqDiff,reduceCtorEq,Nat.reduceAdd,Nat.reduceMul,Nat.reduceSub,Int.reduceLT,Int.reduceLE,Int.reduceToNat,Int.reduceAdd,Int.reduceSub,Int.reduceMul,ne_eq,decide_true,decide_false,tf50, h0, h1, h7, h6, hc1, hw1]
            refine hB.st (i := 1) (by simp [BadV.cells]) ?_
            have hB1 := hB.set 1 (.int .i64 (s'.pos + 1 : Nat))
            try simp -dsimp only [↓RE,↓c_seq,RU,RL,if_true,if_false,forall_const,implies_true,Nat.reduceLeDiff,Nat.reduceLT,pureOp,binPure,intBin,strBin,eqPure,isConstO,unPure,sliceLo,sliceHi,slicePure,lenPure,minPure,maxPure,buildP,resK,endV,yieldE,↓reduceIte,Nat.reduceEqDiff,reduceCtorEq,Nat.reduceAdd,Nat.reduceMul,Nat.reduceSub,Int.reduceLT,Int.reduceLE,Int.reduceToNat,Int.reduceAdd,Int.reduceSub,Int.reduceMul,ne_eq,decide_true,decide_false,tf50, h0, h1, h7, h6]
            refine hold_intro ⟨?_, ?_, ?_, ?_, by rw [e1]; simpa using hB1, Keep.set1 _ _ _ _⟩ <;> simp -dsimp only [↓RE,↓c_seq,RU,RL,if_true,if_false,forall_const,implies_true,Nat.reduceLeDiff,Nat.reduceLT,pureOp,binPure,intBin,strBin,eqPure,isConstO,unPure,sliceLo,sliceHi,slicePure,lenPure,minPure,maxPure,buildP,resK,endV,yieldE,↓reduceIte,Nat.reduceEqDiff,reduceCtorEq,Nat.reduceAdd,Nat.reduceMul,Nat.reduceSub,Int.reduceLT,Int.reduceLE,Int.reduceToNat,Int.reduceAdd,Int.reduceSub,Int.reduceMul,ne_eq,decide_true,decide_false,tf50, h0, h1, h7, h6]
          · have e1 : bitPos s' = s'.pos := by unfold bitPos; rw [if_neg (by omega)]
            try simp -dsimp only [↓RE,↓c_seq,RU,RL,if_true,if_false,forall_const,implies_true,Nat.reduceLeDiff,Nat.reduceLT,pureOp,binPure,intBin,strBin,eqPure,isConstO,unPure,sliceLo,sliceHi,slicePure,lenPure,minPure,maxPure,buildP,resK,endV,yieldE,↓reduceIte,Nat.reduceEqDiff,reduceCtorEq,Nat.reduceAdd,Nat.reduceMul,Nat.reduceSub,Int.reduceLT,Int.reduceLE,Int.reduceToNat,Int.reduceAdd,Int.reduceSub,Int.reduceMul,ne_eq,decide_true,decide_false,tf50, h0, h1, h7, h6]
            refine hold_intro ⟨?_, ?_, ?_, ?_, by rw [e1]; exact hB, Keep.refl _ _⟩ <;> simp -dsimp only [↓RE,↓c_seq,RU,RL,if_true,if_false,forall_const,implies_true,Nat.reduceLeDiff,Nat.reduceLT,pureOp,binPure,intBin,strBin,eqPure,isConstO,unPure,sliceLo,sliceHi,slicePure,lenPure,minPure,maxPure,buildP,resK,endV,yieldE,↓reduceIte,Nat.reduceEqDiff,reduceCtorEq,Nat.reduceAdd,Nat.reduceMul,Nat.reduceSub,Int.reduceLT,Int.reduceLE,Int.reduceToNat,Int.reduceAdd,Int.reduceSub,Int.reduceMul,ne_eq,decide_true,decide_false,tf50, h0, h1, h7, h6]
        rintro e2 w2 ⟨g0, g1, g7, g6, hB2, k2⟩
        have hRd2 := hRd.keep0 k2 (fun h0 k hk e => hp h0 (e ▸ hk))
        have hB3 := hB2.drew
        have hx0 : w2.drew.cell? ⟨p, 0, none⟩ = some (.slice A s'.xs.length c) := hB3.cell 0
        have hx1 : w2.drew.cell? ⟨p, 1, none⟩ = some (.int .i64 (bitPos s')) := hB3.cell 1
        have hx2 : w2.drew.cell? ⟨p, 2, none⟩ = some (.int .i64 s'.bits) := hB3.cell 2
        have hw1 : IntKind.i64.wrap ((bitPos s' : Int) - 1) = ((bitPos s' - 1 : Nat) : Int) := by rw [wrap_i64_in (by omega) (by omega)]; omega
        have hw7 : IntKind.i64.wrap (7 - (s'.bits : Int)) = ((7 - s'.bits : Nat) : Int) := by rw [wrap_i64_in (by omega) (by omega)]; omega
        obtain ⟨ad, rfl, hcell⟩ := hRd2.drew.int (k := bitPos s' - 1) (by omega)
        have hz := getD_mem_range ok'.bytes (bitPos s' - 1)
        have hsh : shrOp .u8 (s'.xs.getD (bitPos s' - 1) 0) ((7 - s'.bits : Nat) : Int) = s'.xs.getD (bitPos s' - 1) 0 / 2 ^ (7 - s'.bits) := shr_eq .u8 _ _ (by simp [IntKind.bits]; omega) _ rfl
        have hrem : (s'.xs.getD (bitPos s' - 1) 0 / 2 ^ (7 - s'.bits)).tmod 2 = bitAt s' := by
          rw [Int.tmod_eq_emod_of_nonneg (Int.ediv_nonneg hz.1 (Int.le_of_lt (pow_pos2 _)))]; rfl
        have hcv : IntKind.u64.wrap (bitAt s') = bitAt s' := by rw [wrap_u64]; omega
        have hp2 : (2 : Int) ^ (i + 1) = 2 * 2 ^ i := by rw [Int.pow_succ, Int.mul_comm]
        have hi63 : (2 : Int) ^ i ≤ 9223372036854775808 := by
          have h1 : (2 : Nat) ^ i ≤ 2 ^ 63 := Nat.pow_le_pow_right (by omega) (by omega)
          have h2 : ((2 ^ i : Nat) : Int) ≤ ((2 ^ 63 : Nat) : Int) := by omega
          simpa using h2
        have hm2 : IntKind.u64.wrap (2 * v) = 2 * v := by rw [wrap_u64]; omega
        have ha2 : IntKind.u64.wrap (2 * v + bitAt s') = v * 2 + bitAt s' := by rw [wrap_u64]; omega
        try simp -dsimp only [↓RE,↓c_seq,RU,RL,if_true,if_false,forall_const,implies_true,Nat.reduceLeDiff,Nat.reduceLT,pureOp,binPure,intBin,strBin,eqPure,isConstO,unPure,sliceLo,sliceHi,slicePure,lenPure,minPure,maxPure,buildP,resK,endV,yieldE,↓reduceIte,Nat.reduceEqDiff,reduceCtorEq,Nat.reduceAdd,Nat.reduceMul,Nat.reduceSub,Int.reduceLT,Int.reduceLE,Int.reduceToNat,Int.reduceAdd,Int.reduceSub,Int.reduceMul,ne_eq,decide_true,decide_false,tf50, g0, g1, g7, g6]
        refine wpDraw_still (by kernel_rfl) ?_
        try simp -dsimp only [↓RE,↓c_seq,RU,RL,if_true,if_false,forall_const,implies_true,Nat.reduceLeDiff,Nat.reduceLT,pureOp,binPure,intBin,strBin,eqPure,isConstO,unPure,sliceLo,sliceHi,slicePure,lenPure,minPure,maxPure,buildP,resK,endV,yieldE,↓reduceIte,Nat.reduceEqDiff,reduceCtorEq,Nat.reduceAdd,Nat.reduceMul,Nat.reduceSub,Int.reduceLT,Int.reduceLE,Int.reduceToNat,Int.reduceAdd,Int.reduceSub,Int.reduceMul,ne_eq,decide_true,decide_false,tf50, g0, g1, g7, g6, hx0, hx1, hx2, hw1, hw7, hcell, hsh, hm2, Int.toNat_natCast]
        refine ⟨⟨by omega, by omega⟩, ?_⟩
        try simp -dsimp only [↓RE,↓c_seq,RU,RL,if_true,if_false,forall_const,implies_true,Nat.reduceLeDiff,Nat.reduceLT,pureOp,binPure,intBin,strBin,eqPure,isConstO,unPure,sliceLo,sliceHi,slicePure,lenPure,minPure,maxPure,buildP,resK,endV,yieldE,↓reduceIte,Nat.reduceEqDiff,reduceCtorEq,Nat.reduceAdd,Nat.reduceMul,Nat.reduceSub,Int.reduceLT,Int.reduceLE,Int.reduceToNat,Int.reduceAdd,Int.reduceSub,Int.reduceMul,ne_eq,decide_true,decide_false,tf50, g0, g1, g7, g6, hx0, hx1, hx2, hw1, hw7, hcell, hsh, hm2, Int.toNat_natCast, hrem, hcv, ha2]
        refine ⟨by omega, by omega, ?_⟩
        have hwb : IntKind.i64.wrap ((s'.bits : Int) + 1) = ((s'.bits + 1 : Nat) : Int) := by rw [wrap_i64_in (by omega) (by omega)]; rfl
        have hrb : (((s'.bits + 1 : Nat) : Int)).tmod 8 = (((s'.bits + 1) % 8 : Nat) : Int) := by rw [Int.tmod_eq_emod_of_nonneg (by omega)]; omega
        try simp -dsimp only [↓RE,↓c_seq,RU,RL,if_true,if_false,forall_const,implies_true,Nat.reduceLeDiff,Nat.reduceLT,pureOp,binPure,intBin,strBin,eqPure,isConstO,unPure,sliceLo,sliceHi,slicePure,lenPure,minPure,maxPure,buildP,resK,endV,yieldE,↓reduceIte,Nat.reduceEqDiff,reduceCtorEq,Nat.reduceAdd,Nat.reduceMul,Nat.reduceSub,Int.reduceLT,Int.reduceLE,Int.reduceToNat,Int.reduceAdd,Int.reduceSub,Int.reduceMul,ne_eq,decide_true,decide_false,tf50, g0, g1, g7, g6, hx0, hx1, hx2, hw1, hw7, hcell, hsh, hm2, Int.toNat_natCast, hrem, hcv, ha2, hwb, hrb]
        refine ⟨by omega, ?_⟩
        try simp -dsimp only [↓RE,↓c_seq,RU,RL,if_true,if_false,forall_const,implies_true,Nat.reduceLeDiff,Nat.reduceLT,pureOp,binPure,intBin,strBin,eqPure,isConstO,unPure,sliceLo,sliceHi,slicePure,lenPure,minPure,maxPure,buildP,resK,endV,yieldE,↓reduceIte,Nat.reduceEqDiff,reduceCtorEq,Nat.reduceAdd,Nat.reduceMul,Nat.reduceSub,Int.reduceLT,Int.reduceLE,Int.reduceToNat,Int.reduceAdd,Int.reduceSub,Int.reduceMul,ne_eq,decide_true,decide_false,tf50, g0, g1, g7, g6, hx0, hx1, hx2, hwb, hrb]
        refine hB3.st (i := 2) (by simp [BadV.cells]) ?_
        have hB4 := hB3.set 2 (.int .i64 ((s'.bits + 1) % 8 : Nat))
        have k4 := (k2.then_grow (Grow.drew w2)).trans (Keep.set1 w2.drew p 2 (.int .i64 ((s'.bits + 1) % 8 : Nat))) (H := fun k => k = p) (fun _ _ h => h) (fun _ _ h => h)
        have hRd4 := hRd.keep0 k4 (fun h0 k hk e => hp h0 (e ▸ hk))
        try simp -dsimp only [↓RE,↓c_seq,RU,RL,if_true,if_false,forall_const,implies_true,Nat.reduceLeDiff,Nat.reduceLT,pureOp,binPure,intBin,strBin,eqPure,isConstO,unPure,sliceLo,sliceHi,slicePure,lenPure,minPure,maxPure,buildP,resK,endV,yieldE,↓reduceIte,Nat.reduceEqDiff,reduceCtorEq,Nat.reduceAdd,Nat.reduceMul,Nat.reduceSub,Int.reduceLT,Int.reduceLE,Int.reduceToNat,Int.reduceAdd,Int.reduceSub,Int.reduceMul,ne_eq,decide_true,decide_false,tf50, g0, g1, g7, g6, hx0, hx1, hx2, hwb, hrb]
        refine hold_intro ⟨⟨?_, ?_, j, i + 1, bitStep s', v * 2 + bitAt s', by omega, ?_, ?_, by omega, by rw [hp2]; omega, okn, hxs, fo', by omega, hrec, ⟨some ad, c, by simpa [bitStep] using hB4, hRd4, hp, hc, hF⟩, hk.trans k4 (H := fun k => k = p) (fun _ _ h => h) (fun _ _ h => h)⟩, ?_⟩
        · simp -dsimp only [↓RE,↓c_seq,RU,RL,if_true,if_false,forall_const,implies_true,Nat.reduceLeDiff,Nat.reduceLT,pureOp,binPure,intBin,strBin,eqPure,isConstO,unPure,sliceLo,sliceHi,slicePure,lenPure,minPure,maxPure,buildP,resK,endV,yieldE,↓reduceIte,Nat.reduceEqDiff,reduceCtorEq,Nat.reduceAdd,Nat.reduceMul,Nat.reduceSub,Int.reduceLT,Int.reduceLE,Int.reduceToNat,Int.reduceAdd,Int.reduceSub,Int.reduceMul,ne_eq,decide_true,decide_false,tf50, g0]
        · simp -dsimp only [↓RE,↓c_seq,RU,RL,if_true,if_false,forall_const,implies_true,Nat.reduceLeDiff,Nat.reduceLT,pureOp,binPure,intBin,strBin,eqPure,isConstO,unPure,sliceLo,sliceHi,slicePure,lenPure,minPure,maxPure,buildP,resK,endV,yieldE,↓reduceIte,Nat.reduceEqDiff,reduceCtorEq,Nat.reduceAdd,Nat.reduceMul,Nat.reduceSub,Int.reduceLT,Int.reduceLE,Int.reduceToNat,Int.reduceAdd,Int.reduceSub,Int.reduceMul,ne_eq,decide_true,decide_false,tf50, g1]
        · simp -dsimp only [↓RE,↓c_seq,RU,RL,if_true,if_false,forall_const,implies_true,Nat.reduceLeDiff,Nat.reduceLT,pureOp,binPure,intBin,strBin,eqPure,isConstO,unPure,sliceLo,sliceHi,slicePure,lenPure,minPure,maxPure,buildP,resK,endV,yieldE,↓reduceIte,Nat.reduceEqDiff,reduceCtorEq,Nat.reduceAdd,Nat.reduceMul,Nat.reduceSub,Int.reduceLT,Int.reduceLE,Int.reduceToNat,Int.reduceAdd,Int.reduceSub,Int.reduceMul,ne_eq,decide_true,decide_false,tf50, g7]
          rw [wrap_i64_in (by omega) (by omega)]; rfl
        · simp -dsimp only [↓RE,↓c_seq,RU,RL,if_true,if_false,forall_const,implies_true,Nat.reduceLeDiff,Nat.reduceLT,pureOp,binPure,intBin,strBin,eqPure,isConstO,unPure,sliceLo,sliceHi,slicePure,lenPure,minPure,maxPure,buildP,resK,endV,yieldE,↓reduceIte,Nat.reduceEqDiff,reduceCtorEq,Nat.reduceAdd,Nat.reduceMul,Nat.reduceSub,Int.reduceLT,Int.reduceLE,Int.reduceToNat,Int.reduceAdd,Int.reduceSub,Int.reduceMul,ne_eq,decide_true,decide_false,tf50, g6, hx0, hx1, hx2, hw1, hw7, hcell, hsh, hm2, Int.toNat_natCast, hrem, hcv, ha2]
        · simp -dsimp only [↓RE,↓c_seq,RU,RL,if_true,if_false,forall_const,implies_true,Nat.reduceLeDiff,Nat.reduceLT,pureOp,binPure,intBin,strBin,eqPure,isConstO,unPure,sliceLo,sliceHi,slicePure,lenPure,minPure,maxPure,buildP,resK,endV,yieldE,↓reduceIte,Nat.reduceEqDiff,reduceCtorEq,Nat.reduceAdd,Nat.reduceMul,Nat.reduceSub,Int.reduceLT,Int.reduceLE,Int.reduceToNat,Int.reduceAdd,Int.reduceSub,Int.reduceMul,ne_eq,decide_true,decide_false,tf50, g7, h7]
          rw [wrap_i64_in (by omega) (by omega), envInt_int, envInt_int]; omega
      · obtain rfl : j = 0 := by omega
        simp only [rBitsN] at hrec
        rw [← hrec] at h
        try simp -dsimp only [↓RE,↓c_seq,RU,RL,if_true,if_false,forall_const,implies_true,Nat.reduceLeDiff,Nat.reduceLT,pureOp,binPure,intBin,strBin,eqPure,isConstO,unPure,sliceLo,sliceHi,slicePure,lenPure,minPure,maxPure,buildP,resK,endV,yieldE,↓reduceIte,Nat.reduceEqDiff,reduceCtorEq,Nat.reduceAdd,Nat.reduceMul,Nat.reduceSub,Int.reduceLT,Int.reduceLE,Int.reduceToNat,Int.reduceAdd,Int.reduceSub,Int.reduceMul,ne_eq,decide_true,decide_false,tf50, h0, h1, h7, h6]
        exact h w' hR' hk

theorem rrleft_ok {w : World} {F : Nat → Prop} {p : Nat} {s : RS} (hR : RMAt w F p s) (ok : RSok s) {R : VWK} (h : ∀ w', Grow w w' → R (.int .i64 (s.xs.length - s.pos : Nat)) w') :
    CallsV Tryz.prog 43 [.pointer (some ⟨p, 0, none⟩)] w R := by
  have hl := ok.len
  have hle := ok.le
  obtain ⟨A, c, hB, hRd, hp, hc, hF⟩ := hR
  have hd0 : w.drew.cell? ⟨p, 0, none⟩ = some (.slice A s.xs.length c) := hB.drew.cell 0
  have hd1 : w.drew.cell? ⟨p, 1, none⟩ = some (.int .i64 s.pos) := hB.drew.cell 1
  have w1a : IntKind.i64.wrap ((s.xs.length : Int) - (s.pos : Int)) = ((s.xs.length - s.pos : Nat) : Int) := by rw [wrap_i64_in (by omega) (by omega)]; omega
  refine calls_of_wpC mixed Tryz.func43 rfl (by kernel_rfl) ?_
  intro e he
  have he0 := he 0
  simp only [List.getD_cons_zero, List.getD_cons_succ] at he0
  clear he
  try simp -dsimp only [↓RE,↓c_seq,RU,RL,if_true,if_false,forall_const,implies_true,Nat.reduceLeDiff,Nat.reduceLT,pureOp,binPure,intBin,strBin,eqPure,isConstO,unPure,sliceLo,sliceHi,slicePure,lenPure,minPure,maxPure,buildP,resK,endV,yieldE,↓reduceIte,Nat.reduceEqDiff,reduceCtorEq,Nat.reduceAdd,Nat.reduceMul,Nat.reduceSub,Int.reduceLT,Int.reduceLE,Int.reduceToNat,Int.reduceAdd,Int.reduceSub,Int.reduceMul,ne_eq,decide_true,decide_false,tf43, he0]
  refine wpDraw_still (by kernel_rfl) ?_
  try simp -dsimp only [↓RE,↓c_seq,RU,RL,if_true,if_false,forall_const,implies_true,Nat.reduceLeDiff,Nat.reduceLT,pureOp,binPure,intBin,strBin,eqPure,isConstO,unPure,sliceLo,sliceHi,slicePure,lenPure,minPure,maxPure,buildP,resK,endV,yieldE,↓reduceIte,Nat.reduceEqDiff,reduceCtorEq,Nat.reduceAdd,Nat.reduceMul,Nat.reduceSub,Int.reduceLT,Int.reduceLE,Int.reduceToNat,Int.reduceAdd,Int.reduceSub,Int.reduceMul,ne_eq,decide_true,decide_false,tf43, he0, hd0, hd1, w1a]
  exact h _ (Grow.drew w)
/-- a fault as the Reader keeps it, told. -/
theorem badRd {w : World} {p : Nat} {l : List Value} {b : BadV} (hB : Blk w p 88 (l ++ b.cells)) (hl : l.length = 3) {K : VK} {tk : Tok K} (hk : K b.v) : aggK w ⟨p, 3, none⟩ (some 5) K tk := by
  refine hB.aggK (by simp [BadV.cells, hl]) ?_
  rw [List.drop_append_of_le_length (by omega), List.drop_of_length_le (by omega), List.nil_append]
  exact hk
theorem rrfault_ok {w : World} {F : Nat → Prop} {p : Nat} {s : RS} (hR : RMAt w F p s) {R : VWK} (h : ∀ w', Grow w w' → R (badF s.fault).v w') : CallsV Tryz.prog 45 [.pointer (some ⟨p, 0, none⟩)] w R := by
  obtain ⟨A, c, hB, hRd, hp, hc, hF⟩ := hR
  refine calls_of_wpC mixed Tryz.func45 rfl (by kernel_rfl) ?_
  intro e he
  have he0 := he 0
  simp only [List.getD_cons_zero, List.getD_cons_succ] at he0
  clear he
  try simp -dsimp only [↓RE,↓c_seq,RU,RL,if_true,if_false,forall_const,implies_true,Nat.reduceLeDiff,Nat.reduceLT,pureOp,binPure,intBin,strBin,eqPure,isConstO,unPure,sliceLo,sliceHi,slicePure,lenPure,minPure,maxPure,buildP,resK,endV,yieldE,↓reduceIte,Nat.reduceEqDiff,reduceCtorEq,Nat.reduceAdd,Nat.reduceMul,Nat.reduceSub,Int.reduceLT,Int.reduceLE,Int.reduceToNat,Int.reduceAdd,Int.reduceSub,Int.reduceMul,ne_eq,decide_true,decide_false,tf45, he0]
  have hz := Blk.new' w 31 #[.int .i64 0, .int .i64 0, .int .i64 0, .bool false, .bool false]
  have ga := Grow.alloc w (.cells #[.int .i64 0, .int .i64 0, .int .i64 0, .bool false, .bool false] 31)
  refine badRd (hB.grow ga) rfl ?_
  try simp -dsimp only [↓RE,↓c_seq,RU,RL,if_true,if_false,forall_const,implies_true,Nat.reduceLeDiff,Nat.reduceLT,pureOp,binPure,intBin,strBin,eqPure,isConstO,unPure,sliceLo,sliceHi,slicePure,lenPure,minPure,maxPure,buildP,resK,endV,yieldE,↓reduceIte,Nat.reduceEqDiff,reduceCtorEq,Nat.reduceAdd,Nat.reduceMul,Nat.reduceSub,Int.reduceLT,Int.reduceLE,Int.reduceToNat,Int.reduceAdd,Int.reduceSub,Int.reduceMul,ne_eq,decide_true,decide_false,tf45, he0, BadV.v, BadV.cells]
  refine hz.stAgg (by simp) (by simp [Value.oneCell']) (fun w1 hB1 hK1 => ?_)
  have hB1 : Blk w1 w.heap.size 31 (badF s.fault).cells := by simpa [BadV.cells] using hB1
  try simp -dsimp only [↓RE,↓c_seq,RU,RL,if_true,if_false,forall_const,implies_true,Nat.reduceLeDiff,Nat.reduceLT,pureOp,binPure,intBin,strBin,eqPure,isConstO,unPure,sliceLo,sliceHi,slicePure,lenPure,minPure,maxPure,buildP,resK,endV,yieldE,↓reduceIte,Nat.reduceEqDiff,reduceCtorEq,Nat.reduceAdd,Nat.reduceMul,Nat.reduceSub,Int.reduceLT,Int.reduceLE,Int.reduceToNat,Int.reduceAdd,Int.reduceSub,Int.reduceMul,ne_eq,decide_true,decide_false,tf45, he0]
  refine hB1.aggK (by simp [BadV.cells]) ?_
  try simp -dsimp only [↓RE,↓c_seq,RU,RL,if_true,if_false,forall_const,implies_true,Nat.reduceLeDiff,Nat.reduceLT,pureOp,binPure,intBin,strBin,eqPure,isConstO,unPure,sliceLo,sliceHi,slicePure,lenPure,minPure,maxPure,buildP,resK,endV,yieldE,↓reduceIte,Nat.reduceEqDiff,reduceCtorEq,Nat.reduceAdd,Nat.reduceMul,Nat.reduceSub,Int.reduceLT,Int.reduceLE,Int.reduceToNat,Int.reduceAdd,Int.reduceSub,Int.reduceMul,ne_eq,decide_true,decide_false,tf45, he0]
  exact h w1 (ga.above hK1 (fun i hi e => by omega))

theorem rDone_fok {s : RS} (fo : FOk s.fault) : FOk (rDone s) := by
  unfold rDone; split
  · exact fo
  split
  · exact FOk.err (by decide)
  split
  · exact FOk.err (by decide)
  · exact FOk.none
theorem rrdone_ok {w : World} {F : Nat → Prop} {p : Nat} {s : RS} (hR : RMAt w F p s) (ok : RSok s) (fo : FOk s.fault) {R : VWK} (h : ∀ w', Grow w w' → R (badF (rDone s)).v w') : CallsV Tryz.prog 20 [.pointer (some ⟨p, 0, none⟩)] w R := by
  have hl := ok.len
  have hle := ok.le
  have hp0 : p < w.heap.size := hR.lt p hR.place
  have hR0 := hR
  obtain ⟨A, c, hB, hRd, hp, hc, hF⟩ := hR0
  refine calls_of_wpC mixed Tryz.func20 rfl (by kernel_rfl) ?_
  intro e he
  have he0 := he 0
  simp only [List.getD_cons_zero, List.getD_cons_succ] at he0
  clear he
  try simp -dsimp only [↓RE,↓c_seq,RU,RL,if_true,if_false,forall_const,implies_true,Nat.reduceLeDiff,Nat.reduceLT,pureOp,binPure,intBin,strBin,eqPure,isConstO,unPure,sliceLo,sliceHi,slicePure,lenPure,minPure,maxPure,buildP,resK,endV,yieldE,↓reduceIte,Nat.reduceEqDiff,reduceCtorEq,Nat.reduceAdd,Nat.reduceMul,Nat.reduceSub,Int.reduceLT,Int.reduceLE,Int.reduceToNat,Int.reduceAdd,Int.reduceSub,Int.reduceMul,ne_eq,decide_true,decide_false,tf20, he0]
  have hz := Blk.new' w 31 #[.int .i64 0, .int .i64 0, .int .i64 0, .bool false, .bool false]
  have ga := Grow.alloc w (.cells #[.int .i64 0, .int .i64 0, .int .i64 0, .bool false, .bool false] 31)
  generalize hwa : w.alloc (.cells #[.int .i64 0, .int .i64 0, .int .i64 0, .bool false, .bool false] 31) = wa at hz ga
  have hBa := hB.grow ga
  have hRa := hR.grow ga
  have hc3 : wa.cell? ⟨p, 3, none⟩ = some (.int .i64 (badF s.fault).code) := hBa.cell 3
  have put : ∀ {w' : World} {b : BadV} {K : WK} {tk : Tok K}, Grow w w' → Blk w' w.heap.size 31 [.int .i64 0, .int .i64 0, .int .i64 0, .bool false, .bool false] →
      (∀ w2, Blk w2 w.heap.size 31 b.cells → Grow w w2 → K w2) → aggSt Tryz.prog w' ⟨w.heap.size, 0, none⟩ [.int .i64 b.code, .int .i64 b.at_, .int .i64 b.ins, .bool b.placed, .bool b.numbered] K tk := by
    intro w' b K tk g hB hk
    refine hB.stAgg (by simp) (by simp [Value.oneCell']) (fun w2 hB2 hK2 => hk w2 (by simpa [BadV.cells] using hB2) (g.above hK2 (fun i hi e => by omega)))
  try simp -dsimp only [↓RE,↓c_seq,RU,RL,if_true,if_false,forall_const,implies_true,Nat.reduceLeDiff,Nat.reduceLT,pureOp,binPure,intBin,strBin,eqPure,isConstO,unPure,sliceLo,sliceHi,slicePure,lenPure,minPure,maxPure,buildP,resK,endV,yieldE,↓reduceIte,Nat.reduceEqDiff,reduceCtorEq,Nat.reduceAdd,Nat.reduceMul,Nat.reduceSub,Int.reduceLT,Int.reduceLE,Int.reduceToNat,Int.reduceAdd,Int.reduceSub,Int.reduceMul,ne_eq,decide_true,decide_false,tf20, he0, hwa, hc3]
  refine ⟨fun h0 => ?_, fun h0 => ?_⟩
  · have hf : s.fault ≠ none := fun e => h0 (fo.code.2 e)
    have e : rDone s = s.fault := by unfold rDone; rw [if_pos hf]
    rw [e] at h
    try simp -dsimp only [↓RE,↓c_seq,RU,RL,if_true,if_false,forall_const,implies_true,Nat.reduceLeDiff,Nat.reduceLT,pureOp,binPure,intBin,strBin,eqPure,isConstO,unPure,sliceLo,sliceHi,slicePure,lenPure,minPure,maxPure,buildP,resK,endV,yieldE,↓reduceIte,Nat.reduceEqDiff,reduceCtorEq,Nat.reduceAdd,Nat.reduceMul,Nat.reduceSub,Int.reduceLT,Int.reduceLE,Int.reduceToNat,Int.reduceAdd,Int.reduceSub,Int.reduceMul,ne_eq,decide_true,decide_false,tf20, he0, hwa]
    refine badRd hBa rfl ?_
    try simp -dsimp only [↓RE,↓c_seq,RU,RL,if_true,if_false,forall_const,implies_true,Nat.reduceLeDiff,Nat.reduceLT,pureOp,binPure,intBin,strBin,eqPure,isConstO,unPure,sliceLo,sliceHi,slicePure,lenPure,minPure,maxPure,buildP,resK,endV,yieldE,↓reduceIte,Nat.reduceEqDiff,reduceCtorEq,Nat.reduceAdd,Nat.reduceMul,Nat.reduceSub,Int.reduceLT,Int.reduceLE,Int.reduceToNat,Int.reduceAdd,Int.reduceSub,Int.reduceMul,ne_eq,decide_true,decide_false,tf20, he0, BadV.v, BadV.cells, hwa]
    refine put (b := badF s.fault) ga hz (fun w2 hB2 g2 => ?_)
    try simp -dsimp only [↓RE,↓c_seq,RU,RL,if_true,if_false,forall_const,implies_true,Nat.reduceLeDiff,Nat.reduceLT,pureOp,binPure,intBin,strBin,eqPure,isConstO,unPure,sliceLo,sliceHi,slicePure,lenPure,minPure,maxPure,buildP,resK,endV,yieldE,↓reduceIte,Nat.reduceEqDiff,reduceCtorEq,Nat.reduceAdd,Nat.reduceMul,Nat.reduceSub,Int.reduceLT,Int.reduceLE,Int.reduceToNat,Int.reduceAdd,Int.reduceSub,Int.reduceMul,ne_eq,decide_true,decide_false,tf20, he0]
    refine hB2.aggK (by simp [BadV.cells]) ?_
    try simp -dsimp only [↓RE,↓c_seq,RU,RL,if_true,if_false,forall_const,implies_true,Nat.reduceLeDiff,Nat.reduceLT,pureOp,binPure,intBin,strBin,eqPure,isConstO,unPure,sliceLo,sliceHi,slicePure,lenPure,minPure,maxPure,buildP,resK,endV,yieldE,↓reduceIte,Nat.reduceEqDiff,reduceCtorEq,Nat.reduceAdd,Nat.reduceMul,Nat.reduceSub,Int.reduceLT,Int.reduceLE,Int.reduceToNat,Int.reduceAdd,Int.reduceSub,Int.reduceMul,ne_eq,decide_true,decide_false,tf20, he0]
    exact h w2 g2
  have hf : s.fault = none := fo.code.1 (by omega)
  try simp -dsimp only [↓RE,↓c_seq,RU,RL,if_true,if_false,forall_const,implies_true,Nat.reduceLeDiff,Nat.reduceLT,pureOp,binPure,intBin,strBin,eqPure,isConstO,unPure,sliceLo,sliceHi,slicePure,lenPure,minPure,maxPure,buildP,resK,endV,yieldE,↓reduceIte,Nat.reduceEqDiff,reduceCtorEq,Nat.reduceAdd,Nat.reduceMul,Nat.reduceSub,Int.reduceLT,Int.reduceLE,Int.reduceToNat,Int.reduceAdd,Int.reduceSub,Int.reduceMul,ne_eq,decide_true,decide_false,tf20, he0]
  refine rrest_ok hRa ok (fun w1 g1 => ?_)
  have hB1 := hBa.grow g1
  have hc1 : w1.cell? ⟨p, 1, none⟩ = some (.int .i64 s.pos) := hB1.cell 1
  cases hr : rRest s with
  | true =>
    have e : rDone s = errAt (s.pos - 1) 31 := by unfold rDone; rw [if_neg (by simp [hf]), if_pos hr]
    rw [e] at h
    have hp1 : 0 < s.pos := by
      unfold rRest at hr
      simp only [Bool.and_eq_true, decide_eq_true_eq] at hr
      exact ok.b1 hr.1
    have hw : IntKind.i64.wrap ((s.pos : Int) - 1) = ((s.pos - 1 : Nat) : Int) := by rw [wrap_i64_in (by omega) (by omega)]; omega
    try simp -dsimp only [↓RE,↓c_seq,RU,RL,if_true,if_false,forall_const,implies_true,Nat.reduceLeDiff,Nat.reduceLT,pureOp,binPure,intBin,strBin,eqPure,isConstO,unPure,sliceLo,sliceHi,slicePure,lenPure,minPure,maxPure,buildP,resK,endV,yieldE,↓reduceIte,Nat.reduceEqDiff,reduceCtorEq,Nat.reduceAdd,Nat.reduceMul,Nat.reduceSub,Int.reduceLT,Int.reduceLE,Int.reduceToNat,Int.reduceAdd,Int.reduceSub,Int.reduceMul,ne_eq,decide_true,decide_false,tf20, he0, hc1, hw]
    refine rat_ok (by decide) (fun w2 g2 => ?_)
    try simp -dsimp only [↓RE,↓c_seq,RU,RL,if_true,if_false,forall_const,implies_true,Nat.reduceLeDiff,Nat.reduceLT,pureOp,binPure,intBin,strBin,eqPure,isConstO,unPure,sliceLo,sliceHi,slicePure,lenPure,minPure,maxPure,buildP,resK,endV,yieldE,↓reduceIte,Nat.reduceEqDiff,reduceCtorEq,Nat.reduceAdd,Nat.reduceMul,Nat.reduceSub,Int.reduceLT,Int.reduceLE,Int.reduceToNat,Int.reduceAdd,Int.reduceSub,Int.reduceMul,ne_eq,decide_true,decide_false,tf20, he0, BadV.v, BadV.cells]
    refine put (b := ⟨31, (s.pos - 1 : Nat), 0, true, false⟩) ((ga.trans g1).trans g2) ((hz.grow g1).grow g2) (fun w3 hB3 g3 => ?_)
    try simp -dsimp only [↓RE,↓c_seq,RU,RL,if_true,if_false,forall_const,implies_true,Nat.reduceLeDiff,Nat.reduceLT,pureOp,binPure,intBin,strBin,eqPure,isConstO,unPure,sliceLo,sliceHi,slicePure,lenPure,minPure,maxPure,buildP,resK,endV,yieldE,↓reduceIte,Nat.reduceEqDiff,reduceCtorEq,Nat.reduceAdd,Nat.reduceMul,Nat.reduceSub,Int.reduceLT,Int.reduceLE,Int.reduceToNat,Int.reduceAdd,Int.reduceSub,Int.reduceMul,ne_eq,decide_true,decide_false,tf20, he0]
    refine hB3.aggK (by simp [BadV.cells]) ?_
    try simp -dsimp only [↓RE,↓c_seq,RU,RL,if_true,if_false,forall_const,implies_true,Nat.reduceLeDiff,Nat.reduceLT,pureOp,binPure,intBin,strBin,eqPure,isConstO,unPure,sliceLo,sliceHi,slicePure,lenPure,minPure,maxPure,buildP,resK,endV,yieldE,↓reduceIte,Nat.reduceEqDiff,reduceCtorEq,Nat.reduceAdd,Nat.reduceMul,Nat.reduceSub,Int.reduceLT,Int.reduceLE,Int.reduceToNat,Int.reduceAdd,Int.reduceSub,Int.reduceMul,ne_eq,decide_true,decide_false,tf20, he0]
    exact h w3 g3
  | false =>
    try simp -dsimp only [↓RE,↓c_seq,RU,RL,if_true,if_false,forall_const,implies_true,Nat.reduceLeDiff,Nat.reduceLT,pureOp,binPure,intBin,strBin,eqPure,isConstO,unPure,sliceLo,sliceHi,slicePure,lenPure,minPure,maxPure,buildP,resK,endV,yieldE,↓reduceIte,Nat.reduceEqDiff,reduceCtorEq,Nat.reduceAdd,Nat.reduceMul,Nat.reduceSub,Int.reduceLT,Int.reduceLE,Int.reduceToNat,Int.reduceAdd,Int.reduceSub,Int.reduceMul,ne_eq,decide_true,decide_false,tf20, he0]
    refine rrleft_ok (hRa.grow g1) ok (fun w2 g2 => ?_)
    have hB2 := hB1.grow g2
    have hc1 : w2.cell? ⟨p, 1, none⟩ = some (.int .i64 s.pos) := hB2.cell 1
    try simp -dsimp only [↓RE,↓c_seq,RU,RL,if_true,if_false,forall_const,implies_true,Nat.reduceLeDiff,Nat.reduceLT,pureOp,binPure,intBin,strBin,eqPure,isConstO,unPure,sliceLo,sliceHi,slicePure,lenPure,minPure,maxPure,buildP,resK,endV,yieldE,↓reduceIte,Nat.reduceEqDiff,reduceCtorEq,Nat.reduceAdd,Nat.reduceMul,Nat.reduceSub,Int.reduceLT,Int.reduceLE,Int.reduceToNat,Int.reduceAdd,Int.reduceSub,Int.reduceMul,ne_eq,decide_true,decide_false,tf20, he0]
    refine ⟨fun hpos => ?_, fun hneg => ?_⟩
    · have e : rDone s = errAt s.pos 33 := by unfold rDone; rw [if_neg (by simp [hf]), if_neg (by simp [hr]), if_pos (by omega)]
      rw [e] at h
      try simp -dsimp only [↓RE,↓c_seq,RU,RL,if_true,if_false,forall_const,implies_true,Nat.reduceLeDiff,Nat.reduceLT,pureOp,binPure,intBin,strBin,eqPure,isConstO,unPure,sliceLo,sliceHi,slicePure,lenPure,minPure,maxPure,buildP,resK,endV,yieldE,↓reduceIte,Nat.reduceEqDiff,reduceCtorEq,Nat.reduceAdd,Nat.reduceMul,Nat.reduceSub,Int.reduceLT,Int.reduceLE,Int.reduceToNat,Int.reduceAdd,Int.reduceSub,Int.reduceMul,ne_eq,decide_true,decide_false,tf20, he0, hc1]
      refine rat_ok (by decide) (fun w3 g3 => ?_)
      try simp -dsimp only [↓RE,↓c_seq,RU,RL,if_true,if_false,forall_const,implies_true,Nat.reduceLeDiff,Nat.reduceLT,pureOp,binPure,intBin,strBin,eqPure,isConstO,unPure,sliceLo,sliceHi,slicePure,lenPure,minPure,maxPure,buildP,resK,endV,yieldE,↓reduceIte,Nat.reduceEqDiff,reduceCtorEq,Nat.reduceAdd,Nat.reduceMul,Nat.reduceSub,Int.reduceLT,Int.reduceLE,Int.reduceToNat,Int.reduceAdd,Int.reduceSub,Int.reduceMul,ne_eq,decide_true,decide_false,tf20, he0, BadV.v, BadV.cells]
      refine put (b := ⟨33, s.pos, 0, true, false⟩) (((ga.trans g1).trans g2).trans g3) (((hz.grow g1).grow g2).grow g3) (fun w4 hB4 g4 => ?_)
      try simp -dsimp only [↓RE,↓c_seq,RU,RL,if_true,if_false,forall_const,implies_true,Nat.reduceLeDiff,Nat.reduceLT,pureOp,binPure,intBin,strBin,eqPure,isConstO,unPure,sliceLo,sliceHi,slicePure,lenPure,minPure,maxPure,buildP,resK,endV,yieldE,↓reduceIte,Nat.reduceEqDiff,reduceCtorEq,Nat.reduceAdd,Nat.reduceMul,Nat.reduceSub,Int.reduceLT,Int.reduceLE,Int.reduceToNat,Int.reduceAdd,Int.reduceSub,Int.reduceMul,ne_eq,decide_true,decide_false,tf20, he0]
      refine hB4.aggK (by simp [BadV.cells]) ?_
      try simp -dsimp only [↓RE,↓c_seq,RU,RL,if_true,if_false,forall_const,implies_true,Nat.reduceLeDiff,Nat.reduceLT,pureOp,binPure,intBin,strBin,eqPure,isConstO,unPure,sliceLo,sliceHi,slicePure,lenPure,minPure,maxPure,buildP,resK,endV,yieldE,↓reduceIte,Nat.reduceEqDiff,reduceCtorEq,Nat.reduceAdd,Nat.reduceMul,Nat.reduceSub,Int.reduceLT,Int.reduceLE,Int.reduceToNat,Int.reduceAdd,Int.reduceSub,Int.reduceMul,ne_eq,decide_true,decide_false,tf20, he0]
      exact h w4 g4
    · have e : rDone s = none := by unfold rDone; rw [if_neg (by simp [hf]), if_neg (by simp [hr]), if_neg (by omega)]
      rw [e] at h
      try simp -dsimp only [↓RE,↓c_seq,RU,RL,if_true,if_false,forall_const,implies_true,Nat.reduceLeDiff,Nat.reduceLT,pureOp,binPure,intBin,strBin,eqPure,isConstO,unPure,sliceLo,sliceHi,slicePure,lenPure,minPure,maxPure,buildP,resK,endV,yieldE,↓reduceIte,Nat.reduceEqDiff,reduceCtorEq,Nat.reduceAdd,Nat.reduceMul,Nat.reduceSub,Int.reduceLT,Int.reduceLE,Int.reduceToNat,Int.reduceAdd,Int.reduceSub,Int.reduceMul,ne_eq,decide_true,decide_false,tf20, he0]
      refine put (b := BadV.none) ((ga.trans g1).trans g2) ((hz.grow g1).grow g2) (fun w4 hB4 g4 => ?_)
      try simp -dsimp only [↓RE,↓c_seq,RU,RL,if_true,if_false,forall_const,implies_true,Nat.reduceLeDiff,Nat.reduceLT,pureOp,binPure,intBin,strBin,eqPure,isConstO,unPure,sliceLo,sliceHi,slicePure,lenPure,minPure,maxPure,buildP,resK,endV,yieldE,↓reduceIte,Nat.reduceEqDiff,reduceCtorEq,Nat.reduceAdd,Nat.reduceMul,Nat.reduceSub,Int.reduceLT,Int.reduceLE,Int.reduceToNat,Int.reduceAdd,Int.reduceSub,Int.reduceMul,ne_eq,decide_true,decide_false,tf20, he0]
      refine hB4.aggK (by simp [BadV.cells]) ?_
      try simp -dsimp only [↓RE,↓c_seq,RU,RL,if_true,if_false,forall_const,implies_true,Nat.reduceLeDiff,Nat.reduceLT,pureOp,binPure,intBin,strBin,eqPure,isConstO,unPure,sliceLo,sliceHi,slicePure,lenPure,minPure,maxPure,buildP,resK,endV,yieldE,↓reduceIte,Nat.reduceEqDiff,reduceCtorEq,Nat.reduceAdd,Nat.reduceMul,Nat.reduceSub,Int.reduceLT,Int.reduceLE,Int.reduceToNat,Int.reduceAdd,Int.reduceSub,Int.reduceMul,ne_eq,decide_true,decide_false,tf20, he0]
      exact h w4 g4

end Go.Proofs.YtmgiichlccdcfaaGreatDoor

namespace Go.Proofs.YtmgiichlccdcfaaGreatDoor
open Go

theorem rTake_fok {n : Nat} {s : RS} (h : FOk s.fault) : FOk (rTake n s).1.fault := by
  unfold rTake; split
  · split
    · exact h.fail (FOk.err (by decide))
    · exact h
  · exact rBegin_fok h
theorem rNumber_fok {m a : Int} (ha : a ≠ 0) {s : RS} (h : FOk s.fault) : FOk (rNumber m a s).1.fault := by
  unfold rNumber; split
  · split
    · rename_i i e hsc; exact h.fail (FOk.err (scan_err hsc))
    · split
      · exact h.fail (FOk.err ha)
      · exact h
  · exact rBegin_fok h
theorem rLoad_fok {m : Int} {s : RS} (h : FOk s.fault) : FOk (rLoad m s).1.fault := by
  have h1 : FOk (rLoadS m s).fault := by
    unfold rLoadS rShort rLong
    have h0 := rNumber_fok (m := rLim m) (a := 6) (by decide) h
    split
    · split
      · exact (h0.fail (FOk.err (by decide))).fail (FOk.err (by decide))
      · exact h0.fail (FOk.err (by decide))
    · split
      · exact h0.fail (FOk.err (by decide))
      · exact h0
  unfold rLoad; split
  · split
    · exact h1
    · exact rTake_fok h1
  · exact rBegin_fok h
theorem rBits_fok {n : Int} {s : RS} (h : FOk s.fault) : FOk (rBits n s).1.fault := by
  have hx : ∀ (k : Nat) (s : RS) (v : Int), (rBitsN k s v).1.fault = s.fault := fun k => by
    induction k with
    | zero => intros; rfl
    | succ k ih => intro s v; rw [rBitsN, ih]; rfl
  unfold rBits; split
  · exact h
  split
  · exact h.fail (FOk.err (by decide))
  · rw [hx]; exact h

end Go.Proofs.YtmgiichlccdcfaaGreatDoor
