/- The document's Unpack: what it reads, or what is wrong. -/
import Derived.Test.YtmgiichlccdcfaaGreatDoorRunTimes
import Derived.Test.YtmgiichlccdcfaaGreatDoorRunVals
import Derived.Test.YtmgiichlccdcfaaGreatDoorUnpack
set_option linter.unusedVariables false
set_option linter.unusedSimpArgs false
set_option maxRecDepth 100000
namespace Go.Proofs.YtmgiichlccdcfaaGreatDoor
open Go

/-- the document's word for what is wrong with samples' bytes. -/
def badE (x : TypeId × Value) : BadV := match x with
  | (_, .int _ e) => ⟨e, 0, 0, false, false⟩
  | y => badF (some y)
theorem badE_e90 : badE e90 = ⟨90, 0, 0, false, false⟩ := rfl
theorem badE_fok {x : TypeId × Value} (h : FOk (some x)) : badE x = badF (some x) := by
  rcases h with h | ⟨p, e, _, h⟩
  · cases h
  · injection h with h; subst h; rfl
theorem uT_fok (b : List Int) : FOk (uT b).s.fault := by
  have : ∀ (m : Nat) (t : TS), FOk t.s.fault → FOk (tsRun m t).s.fault := by
    intro m
    induction m with
    | zero => intro t h; exact h
    | succ m ih =>
      intro t h
      unfold tsRun
      split
      · exact h
      · refine ih _ ?_
        unfold tsStep
        split
        · exact rNumber_fok (by decide) h
        split
        · exact rNumber_fok (by decide) h
        · exact rDelta_fok h
  exact this _ _ (rNumber_fok (by decide) FOk.none)
theorem uV_fok (b : List Int) : FOk (uV b).s.fault := by
  have : ∀ (m : Nat) (t : US), FOk t.s.fault → FOk (usRun m t).s.fault := by
    intro m
    induction m with
    | zero => intro t h; exact h
    | succ m ih =>
      intro t h
      unfold usRun
      split
      · exact h
      · exact ih _ (rVal_fok h _ _)
  exact this _ _ (rNumber_fok (by decide) FOk.none)
theorem kS1_fok (b : List Int) : FOk (kS1 b).fault := rLoad_fok FOk.none
theorem kS2_fok (b : List Int) : FOk (kS2 b).fault := rLoad_fok (kS1_fok b)
/-- an error of samples' bytes is one with a place, or ErrBlock. -/
theorem uPe_kind {b : List Int} {x : TypeId × Value} (h : uPe b = some x) : x = e90 ∨ FOk (some x) := by
  cases h1 : rDone (kS2 b) with
  | some e => rw [uPe_1 h1] at h; injection h with h; subst h; exact .inr (h1 ▸ rDone_fok (kS2_fok b))
  | none =>
    cases h2 : rDone (uT (kX b)).s with
    | some e => rw [uPe_2 h1 h2] at h; injection h with h; subst h; exact .inr (h2 ▸ rDone_fok (uT_fok _))
    | none =>
      by_cases h3 : TGood (kX b)
      · cases h4 : rDone (uV (kY b)).s with
        | some e => rw [uPe_4 h1 h2 h3 h4] at h; injection h with h; subst h; exact .inr (h4 ▸ rDone_fok (uV_fok _))
        | none =>
          by_cases h5 : VGood (kY b)
          · by_cases h6 : (uT (kX b)).l.length = (uV (kY b)).l.length
            · rw [uPe_ok h1 h2 h3 h4 h5 h6] at h; cases h
            · rw [uPe_6 h1 h2 h3 h4 h5 h6] at h; injection h with h; exact .inl h.symm
          · rw [uPe_5 h1 h2 h3 h4 h5] at h; injection h with h; exact .inl h.symm
      · rw [uPe_3 h1 h2 h3] at h; injection h with h; exact .inl h.symm
theorem fok_code {x : TypeId × Value} (h : FOk (some x)) : (badF (some x)).code ≠ 0 := fun hq => by have := (FOk.code h).1 hq; cases this

theorem runpack_ok {w : World} {A : Option Addr} {n c : Nat} {b : List Int} (hR : Rd w A n 1 (b.map (Value.int .u8))) (hb : ∀ z ∈ b, 0 ≤ z ∧ z < 256) (hn : n ≤ 140737488355328) {R : VWK}
    (herr : ∀ x w', uPe b = some x → Grow w w' → R (.tuple #[.slice none 0 0, (badE x).v]) w')
    (h : uPe b = none → ∀ w' A' c', Rd w' A' (uPl b).length 3 ((uPl b).flatMap scells) → Grow w w' → R (.tuple #[.slice A' (uPl b).length c', BadV.none.v]) w') :
    CallsV Tryz.prog 6 [.slice A n c] w R := by
  have hl := hR.len1
  have ok0 := rs0_ok hb (by omega)
  have ok1 := kS1_ok hb (by omega)
  have ok2 : RSok (kS2 b) := ok1.load _
  have hkx := kX_ok hb (by omega)
  have hky := kY_ok hb (by omega)
  refine calls_of_wpC mixed Tryz.func6 rfl (by kernel_rfl) ?_
  intro e he
  have he0 := he 0
  simp only [List.getD_cons_zero, List.getD_cons_succ] at he0
  clear he
  rw [c_seq]
  simp -dsimp only [↓RE,RU,RL,if_true,if_false,forall_const,implies_true,Nat.reduceLeDiff,Nat.reduceLT,pureOp,binPure,intBin,strBin,eqPure,isConstO,unPure,sliceLo,sliceHi,slicePure,lenPure,minPure,maxPure,buildP,resK,endV,yieldE,↓reduceIte,Nat.reduceEqDiff,reduceCtorEq,Nat.reduceAdd,Nat.reduceMul,Nat.reduceSub,Int.reduceLT,Int.reduceLE,Int.reduceToNat,Int.reduceAdd,Int.reduceSub,Int.reduceMul,ne_eq,decide_true,decide_false,tf6, he0]
  have hz0 := Blk.new' w 31 #[.int .i64 0, .int .i64 0, .int .i64 0, .bool false, .bool false]
  have g0 := Grow.alloc w (.cells #[.int .i64 0, .int .i64 0, .int .i64 0, .bool false, .bool false] 31)
  generalize hw0 : w.alloc (.cells #[.int .i64 0, .int .i64 0, .int .i64 0, .bool false, .bool false] 31) = w0 at hz0 g0
  have hs0 : w0.heap.size = w.heap.size + 1 := by rw [← hw0]; simp
  have hz0 : Blk w0 w.heap.size 31 BadV.none.cells := hz0
  rw [c_seq]
  simp -dsimp only [↓RE,RU,RL,if_true,if_false,forall_const,implies_true,Nat.reduceLeDiff,Nat.reduceLT,pureOp,binPure,intBin,strBin,eqPure,isConstO,unPure,sliceLo,sliceHi,slicePure,lenPure,minPure,maxPure,buildP,resK,endV,yieldE,↓reduceIte,Nat.reduceEqDiff,reduceCtorEq,Nat.reduceAdd,Nat.reduceMul,Nat.reduceSub,Int.reduceLT,Int.reduceLE,Int.reduceToNat,Int.reduceAdd,Int.reduceSub,Int.reduceMul,ne_eq,decide_true,decide_false,tf6, he0, hw0]
  refine rnewReader_ok (hR.grow g0) hn (fun w1 F p hR1 g1 hF1 => ?_)
  have hs1 := g1.size
  have hp1 := hR1.place
  have hp2 := hR1.lt p hp1
  have hp0 := hF1 p hp1
  simp -dsimp only [↓RE,RU,RL,if_true,if_false,forall_const,implies_true,Nat.reduceLeDiff,Nat.reduceLT,pureOp,binPure,intBin,strBin,eqPure,isConstO,unPure,sliceLo,sliceHi,slicePure,lenPure,minPure,maxPure,buildP,resK,endV,yieldE,↓reduceIte,Nat.reduceEqDiff,reduceCtorEq,Nat.reduceAdd,Nat.reduceMul,Nat.reduceSub,Int.reduceLT,Int.reduceLE,Int.reduceToNat,Int.reduceAdd,Int.reduceSub,Int.reduceMul,ne_eq,decide_true,decide_false,tf6, he0]
  rw [c_seq]
  simp -dsimp only [↓RE,RU,RL,if_true,if_false,forall_const,implies_true,Nat.reduceLeDiff,Nat.reduceLT,pureOp,binPure,intBin,strBin,eqPure,isConstO,unPure,sliceLo,sliceHi,slicePure,lenPure,minPure,maxPure,buildP,resK,endV,yieldE,↓reduceIte,Nat.reduceEqDiff,reduceCtorEq,Nat.reduceAdd,Nat.reduceMul,Nat.reduceSub,Int.reduceLT,Int.reduceLE,Int.reduceToNat,Int.reduceAdd,Int.reduceSub,Int.reduceMul,ne_eq,decide_true,decide_false,tf6, he0]
  refine rraw_ok' hR1 ok0 FOk.none (by omega) (by omega) (fun w2 A2 c2 hR2 hO2 hF2 hK2 => ?_)
  have hR2 : RMAt w2 F p (kS1 b) := hR2
  have hO2 : Rd w2 A2 (kX b).length 1 ((kX b).map (Value.int .u8)) := hO2
  have g2 : Grow w w2 := (g0.trans g1).above hK2 (fun i hi e => by omega)
  have hz2 := (hz0.grow g1).keep hK2 (by omega)
  simp -dsimp only [↓RE,RU,RL,if_true,if_false,forall_const,implies_true,Nat.reduceLeDiff,Nat.reduceLT,pureOp,binPure,intBin,strBin,eqPure,isConstO,unPure,sliceLo,sliceHi,slicePure,lenPure,minPure,maxPure,buildP,resK,endV,yieldE,↓reduceIte,Nat.reduceEqDiff,reduceCtorEq,Nat.reduceAdd,Nat.reduceMul,Nat.reduceSub,Int.reduceLT,Int.reduceLE,Int.reduceToNat,Int.reduceAdd,Int.reduceSub,Int.reduceMul,ne_eq,decide_true,decide_false,tf6, he0]
  rw [c_seq]
  simp -dsimp only [↓RE,RU,RL,if_true,if_false,forall_const,implies_true,Nat.reduceLeDiff,Nat.reduceLT,pureOp,binPure,intBin,strBin,eqPure,isConstO,unPure,sliceLo,sliceHi,slicePure,lenPure,minPure,maxPure,buildP,resK,endV,yieldE,↓reduceIte,Nat.reduceEqDiff,reduceCtorEq,Nat.reduceAdd,Nat.reduceMul,Nat.reduceSub,Int.reduceLT,Int.reduceLE,Int.reduceToNat,Int.reduceAdd,Int.reduceSub,Int.reduceMul,ne_eq,decide_true,decide_false,tf6, he0]
  refine rraw_ok' hR2 ok1 (kS1_fok b) (by omega) (by omega) (fun w3 A3 c3 hR3 hO3 hF3 hK3 => ?_)
  have hR3 : RMAt w3 F p (kS2 b) := hR3
  have hO3 : Rd w3 A3 (kY b).length 1 ((kY b).map (Value.int .u8)) := hO3
  have g3 : Grow w w3 := g2.above hK3 (fun i hi e => by omega)
  have hz3 := hz2.keep hK3 (by omega)
  have hO23 := hO2.keep hK3 (fun k hk e => by have := hF2 k hk; omega)
  have eX : (rLoad 67108864 ⟨b, 0, 0, none⟩).2 = kX b := rfl
  have eS : (rLoad 67108864 ⟨b, 0, 0, none⟩).1 = kS1 b := rfl
  have eY : (rLoad 67108864 (kS1 b)).2 = kY b := rfl
  have hfd := rDone_fok (kS2_fok b)
  try simp -dsimp only [↓RE,↓c_seq,RU,RL,if_true,if_false,forall_const,implies_true,Nat.reduceLeDiff,Nat.reduceLT,pureOp,binPure,intBin,strBin,eqPure,isConstO,unPure,sliceLo,sliceHi,slicePure,lenPure,minPure,maxPure,buildP,resK,endV,yieldE,↓reduceIte,Nat.reduceEqDiff,reduceCtorEq,Nat.reduceAdd,Nat.reduceMul,Nat.reduceSub,Int.reduceLT,Int.reduceLE,Int.reduceToNat,Int.reduceAdd,Int.reduceSub,Int.reduceMul,ne_eq,decide_true,decide_false,tf6, he0, eX, eS, eY]
  refine rrdone_ok hR3 ok2 (kS2_fok b) (fun w4 g4 => ?_)
  have g04 := g3.trans g4
  have hB := Blk.new' w4 31 #[.int .i64 0, .int .i64 0, .int .i64 0, .bool false, .bool false]
  have ga := Grow.alloc w4 (.cells #[.int .i64 0, .int .i64 0, .int .i64 0, .bool false, .bool false] 31)
  have hs4 := g04.size
  have hz4 := hz3.grow g4
  try simp -dsimp only [↓RE,↓c_seq,RU,RL,if_true,if_false,forall_const,implies_true,Nat.reduceLeDiff,Nat.reduceLT,pureOp,binPure,intBin,strBin,eqPure,isConstO,unPure,sliceLo,sliceHi,slicePure,lenPure,minPure,maxPure,buildP,resK,endV,yieldE,↓reduceIte,Nat.reduceEqDiff,reduceCtorEq,Nat.reduceAdd,Nat.reduceMul,Nat.reduceSub,Int.reduceLT,Int.reduceLE,Int.reduceToNat,Int.reduceAdd,Int.reduceSub,Int.reduceMul,ne_eq,decide_true,decide_false,tf6, he0, eX, eS, eY, BadV.v, BadV.cells]
  refine bad_put (w := w) (b := badF (rDone (kS2 b))) (g04.trans ga) hB rfl hs4 (fun w5 hB5 k5 g5 => ?_)
  have k45 : Grow w4 w5 := ga.above k5 (fun i hi e => by omega)
  have hz5 := hz4.grow k45
  cases hd : rDone (kS2 b) with
  | some x =>
    rw [hd] at hfd hB5
    have hq0 : decide ((badF (some x)).code = 0) = false := decide_eq_false (fok_code hfd)
    have hbe := badE_fok hfd
    try simp -dsimp only [↓RE,↓c_seq,RU,RL,if_true,if_false,forall_const,implies_true,Nat.reduceLeDiff,Nat.reduceLT,pureOp,binPure,intBin,strBin,eqPure,isConstO,unPure,sliceLo,sliceHi,slicePure,lenPure,minPure,maxPure,buildP,resK,endV,yieldE,↓reduceIte,Nat.reduceEqDiff,reduceCtorEq,Nat.reduceAdd,Nat.reduceMul,Nat.reduceSub,Int.reduceLT,Int.reduceLE,Int.reduceToNat,Int.reduceAdd,Int.reduceSub,Int.reduceMul,ne_eq,decide_true,decide_false,tf6, he0, hB5.cell, BadV.cells, hq0]
    refine wpDraw_tail mixed 2 (by kernel_rfl) ?_
    try simp -dsimp only [↓RE,↓c_seq,RU,RL,if_true,if_false,forall_const,implies_true,Nat.reduceLeDiff,Nat.reduceLT,pureOp,binPure,intBin,strBin,eqPure,isConstO,unPure,sliceLo,sliceHi,slicePure,lenPure,minPure,maxPure,buildP,resK,endV,yieldE,↓reduceIte,Nat.reduceEqDiff,reduceCtorEq,Nat.reduceAdd,Nat.reduceMul,Nat.reduceSub,Int.reduceLT,Int.reduceLE,Int.reduceToNat,Int.reduceAdd,Int.reduceSub,Int.reduceMul,ne_eq,decide_true,decide_false,tf6, he0]
    refine hB5.drew.aggK (by simp [BadV.cells]) ?_
    try simp -dsimp only [↓RE,↓c_seq,RU,RL,if_true,if_false,forall_const,implies_true,Nat.reduceLeDiff,Nat.reduceLT,pureOp,binPure,intBin,strBin,eqPure,isConstO,unPure,sliceLo,sliceHi,slicePure,lenPure,minPure,maxPure,buildP,resK,endV,yieldE,↓reduceIte,Nat.reduceEqDiff,reduceCtorEq,Nat.reduceAdd,Nat.reduceMul,Nat.reduceSub,Int.reduceLT,Int.reduceLE,Int.reduceToNat,Int.reduceAdd,Int.reduceSub,Int.reduceMul,ne_eq,decide_true,decide_false,tf6, he0, BadV.cells, List.drop_zero, List.take_succ_cons, List.take_zero]
    refine bad_put (w := w) (b := badF (some x)) (g5.trans (Grow.drew w5)) hz5.drew rfl (Nat.le_refl _) (fun wz hBz _ gz => ?_)
    try simp -dsimp only [↓RE,↓c_seq,RU,RL,if_true,if_false,forall_const,implies_true,Nat.reduceLeDiff,Nat.reduceLT,pureOp,binPure,intBin,strBin,eqPure,isConstO,unPure,sliceLo,sliceHi,slicePure,lenPure,minPure,maxPure,buildP,resK,endV,yieldE,↓reduceIte,Nat.reduceEqDiff,reduceCtorEq,Nat.reduceAdd,Nat.reduceMul,Nat.reduceSub,Int.reduceLT,Int.reduceLE,Int.reduceToNat,Int.reduceAdd,Int.reduceSub,Int.reduceMul,ne_eq,decide_true,decide_false,tf6, he0]
    refine hBz.aggK (by simp [BadV.cells]) ?_
    try simp -dsimp only [↓RE,↓c_seq,RU,RL,if_true,if_false,forall_const,implies_true,Nat.reduceLeDiff,Nat.reduceLT,pureOp,binPure,intBin,strBin,eqPure,isConstO,unPure,sliceLo,sliceHi,slicePure,lenPure,minPure,maxPure,buildP,resK,endV,yieldE,↓reduceIte,Nat.reduceEqDiff,reduceCtorEq,Nat.reduceAdd,Nat.reduceMul,Nat.reduceSub,Int.reduceLT,Int.reduceLE,Int.reduceToNat,Int.reduceAdd,Int.reduceSub,Int.reduceMul,ne_eq,decide_true,decide_false,tf6, he0]
    exact by have := herr x wz (uPe_1 hd) gz; rw [hbe] at this; exact this
  | none =>
    rw [hd] at hB5
    have hB5 : Blk w5 w4.heap.size 31 BadV.none.cells := hB5
    try simp -dsimp only [↓RE,↓c_seq,RU,RL,if_true,if_false,forall_const,implies_true,Nat.reduceLeDiff,Nat.reduceLT,pureOp,binPure,intBin,strBin,eqPure,isConstO,unPure,sliceLo,sliceHi,slicePure,lenPure,minPure,maxPure,buildP,resK,endV,yieldE,↓reduceIte,Nat.reduceEqDiff,reduceCtorEq,Nat.reduceAdd,Nat.reduceMul,Nat.reduceSub,Int.reduceLT,Int.reduceLE,Int.reduceToNat,Int.reduceAdd,Int.reduceSub,Int.reduceMul,ne_eq,decide_true,decide_false,tf6, he0, hB5.cell, BadV.cells, BadV.none, eq_self, eX, eS, eY]
    have hfT := rDone_fok (uT_fok (kX b))
    refine runtimes_ok ((hO23.grow g4).grow k45) hkx.1 (by omega) (fun x w6 h1 g6 => ?_) (fun w6 h1 h2 g6 => ?_) (fun h1 h2 w6 A6 c6 hR6 hF6 g6 => ?_)
    · rw [h1] at hfT
      have hq0 : decide ((badF (some x)).code = 0) = false := decide_eq_false (fok_code hfT)
      have hbe := badE_fok hfT
      have hBb := Blk.new' w6 31 #[.int .i64 0, .int .i64 0, .int .i64 0, .bool false, .bool false]
      have gb := Grow.alloc w6 (.cells #[.int .i64 0, .int .i64 0, .int .i64 0, .bool false, .bool false] 31)
      have hs6 := (g5.trans g6).size
      try simp -dsimp only [↓RE,↓c_seq,RU,RL,if_true,if_false,forall_const,implies_true,Nat.reduceLeDiff,Nat.reduceLT,pureOp,binPure,intBin,strBin,eqPure,isConstO,unPure,sliceLo,sliceHi,slicePure,lenPure,minPure,maxPure,buildP,resK,endV,yieldE,↓reduceIte,Nat.reduceEqDiff,reduceCtorEq,Nat.reduceAdd,Nat.reduceMul,Nat.reduceSub,Int.reduceLT,Int.reduceLE,Int.reduceToNat,Int.reduceAdd,Int.reduceSub,Int.reduceMul,ne_eq,decide_true,decide_false,tf6, he0, BadV.v, BadV.cells]
      refine bad_put (w := w) (b := badF (some x)) ((g5.trans g6).trans gb) hBb rfl hs6 (fun w7 hB7 k7 g7 => ?_)
      have hz7 := ((hz5.grow g6).grow gb).keep k7 (by have := (hz5.grow g6).lt; omega)
      try simp -dsimp only [↓RE,↓c_seq,RU,RL,if_true,if_false,forall_const,implies_true,Nat.reduceLeDiff,Nat.reduceLT,pureOp,binPure,intBin,strBin,eqPure,isConstO,unPure,sliceLo,sliceHi,slicePure,lenPure,minPure,maxPure,buildP,resK,endV,yieldE,↓reduceIte,Nat.reduceEqDiff,reduceCtorEq,Nat.reduceAdd,Nat.reduceMul,Nat.reduceSub,Int.reduceLT,Int.reduceLE,Int.reduceToNat,Int.reduceAdd,Int.reduceSub,Int.reduceMul,ne_eq,decide_true,decide_false,tf6, he0, hB7.cell, BadV.cells, hq0]
      refine wpDraw_tail mixed 2 (by kernel_rfl) ?_
      try simp -dsimp only [↓RE,↓c_seq,RU,RL,if_true,if_false,forall_const,implies_true,Nat.reduceLeDiff,Nat.reduceLT,pureOp,binPure,intBin,strBin,eqPure,isConstO,unPure,sliceLo,sliceHi,slicePure,lenPure,minPure,maxPure,buildP,resK,endV,yieldE,↓reduceIte,Nat.reduceEqDiff,reduceCtorEq,Nat.reduceAdd,Nat.reduceMul,Nat.reduceSub,Int.reduceLT,Int.reduceLE,Int.reduceToNat,Int.reduceAdd,Int.reduceSub,Int.reduceMul,ne_eq,decide_true,decide_false,tf6, he0]
      refine hB7.drew.aggK (by simp [BadV.cells]) ?_
      try simp -dsimp only [↓RE,↓c_seq,RU,RL,if_true,if_false,forall_const,implies_true,Nat.reduceLeDiff,Nat.reduceLT,pureOp,binPure,intBin,strBin,eqPure,isConstO,unPure,sliceLo,sliceHi,slicePure,lenPure,minPure,maxPure,buildP,resK,endV,yieldE,↓reduceIte,Nat.reduceEqDiff,reduceCtorEq,Nat.reduceAdd,Nat.reduceMul,Nat.reduceSub,Int.reduceLT,Int.reduceLE,Int.reduceToNat,Int.reduceAdd,Int.reduceSub,Int.reduceMul,ne_eq,decide_true,decide_false,tf6, he0, BadV.cells, List.drop_zero, List.take_succ_cons, List.take_zero]
      refine bad_put (w := w) (b := badF (some x)) (g7.trans (Grow.drew w7)) hz7.drew rfl (Nat.le_refl _) (fun wz hBz _ gz => ?_)
      try simp -dsimp only [↓RE,↓c_seq,RU,RL,if_true,if_false,forall_const,implies_true,Nat.reduceLeDiff,Nat.reduceLT,pureOp,binPure,intBin,strBin,eqPure,isConstO,unPure,sliceLo,sliceHi,slicePure,lenPure,minPure,maxPure,buildP,resK,endV,yieldE,↓reduceIte,Nat.reduceEqDiff,reduceCtorEq,Nat.reduceAdd,Nat.reduceMul,Nat.reduceSub,Int.reduceLT,Int.reduceLE,Int.reduceToNat,Int.reduceAdd,Int.reduceSub,Int.reduceMul,ne_eq,decide_true,decide_false,tf6, he0]
      refine hBz.aggK (by simp [BadV.cells]) ?_
      try simp -dsimp only [↓RE,↓c_seq,RU,RL,if_true,if_false,forall_const,implies_true,Nat.reduceLeDiff,Nat.reduceLT,pureOp,binPure,intBin,strBin,eqPure,isConstO,unPure,sliceLo,sliceHi,slicePure,lenPure,minPure,maxPure,buildP,resK,endV,yieldE,↓reduceIte,Nat.reduceEqDiff,reduceCtorEq,Nat.reduceAdd,Nat.reduceMul,Nat.reduceSub,Int.reduceLT,Int.reduceLE,Int.reduceToNat,Int.reduceAdd,Int.reduceSub,Int.reduceMul,ne_eq,decide_true,decide_false,tf6, he0]
      exact by have := herr x wz (uPe_2 hd h1) gz; rw [hbe] at this; exact this
    · have hBb := Blk.new' w6 31 #[.int .i64 0, .int .i64 0, .int .i64 0, .bool false, .bool false]
      have gb := Grow.alloc w6 (.cells #[.int .i64 0, .int .i64 0, .int .i64 0, .bool false, .bool false] 31)
      have hs6 := (g5.trans g6).size
      try simp -dsimp only [↓RE,↓c_seq,RU,RL,if_true,if_false,forall_const,implies_true,Nat.reduceLeDiff,Nat.reduceLT,pureOp,binPure,intBin,strBin,eqPure,isConstO,unPure,sliceLo,sliceHi,slicePure,lenPure,minPure,maxPure,buildP,resK,endV,yieldE,↓reduceIte,Nat.reduceEqDiff,reduceCtorEq,Nat.reduceAdd,Nat.reduceMul,Nat.reduceSub,Int.reduceLT,Int.reduceLE,Int.reduceToNat,Int.reduceAdd,Int.reduceSub,Int.reduceMul,ne_eq,decide_true,decide_false,tf6, he0, BadV.v, BadV.cells]
      refine bad_put (w := w) (b := ⟨90, 0, 0, false, false⟩) ((g5.trans g6).trans gb) hBb rfl hs6 (fun w7 hB7 k7 g7 => ?_)
      have hz7 := ((hz5.grow g6).grow gb).keep k7 (by have := (hz5.grow g6).lt; omega)
      try simp -dsimp only [↓RE,↓c_seq,RU,RL,if_true,if_false,forall_const,implies_true,Nat.reduceLeDiff,Nat.reduceLT,pureOp,binPure,intBin,strBin,eqPure,isConstO,unPure,sliceLo,sliceHi,slicePure,lenPure,minPure,maxPure,buildP,resK,endV,yieldE,↓reduceIte,Nat.reduceEqDiff,reduceCtorEq,Nat.reduceAdd,Nat.reduceMul,Nat.reduceSub,Int.reduceLT,Int.reduceLE,Int.reduceToNat,Int.reduceAdd,Int.reduceSub,Int.reduceMul,ne_eq,decide_true,decide_false,tf6, he0, hB7.cell, BadV.cells, Int.reduceEq, decide_false]
      refine wpDraw_tail mixed 2 (by kernel_rfl) ?_
      try simp -dsimp only [↓RE,↓c_seq,RU,RL,if_true,if_false,forall_const,implies_true,Nat.reduceLeDiff,Nat.reduceLT,pureOp,binPure,intBin,strBin,eqPure,isConstO,unPure,sliceLo,sliceHi,slicePure,lenPure,minPure,maxPure,buildP,resK,endV,yieldE,↓reduceIte,Nat.reduceEqDiff,reduceCtorEq,Nat.reduceAdd,Nat.reduceMul,Nat.reduceSub,Int.reduceLT,Int.reduceLE,Int.reduceToNat,Int.reduceAdd,Int.reduceSub,Int.reduceMul,ne_eq,decide_true,decide_false,tf6, he0]
      refine hB7.drew.aggK (by simp [BadV.cells]) ?_
      try simp -dsimp only [↓RE,↓c_seq,RU,RL,if_true,if_false,forall_const,implies_true,Nat.reduceLeDiff,Nat.reduceLT,pureOp,binPure,intBin,strBin,eqPure,isConstO,unPure,sliceLo,sliceHi,slicePure,lenPure,minPure,maxPure,buildP,resK,endV,yieldE,↓reduceIte,Nat.reduceEqDiff,reduceCtorEq,Nat.reduceAdd,Nat.reduceMul,Nat.reduceSub,Int.reduceLT,Int.reduceLE,Int.reduceToNat,Int.reduceAdd,Int.reduceSub,Int.reduceMul,ne_eq,decide_true,decide_false,tf6, he0, BadV.cells, List.drop_zero, List.take_succ_cons, List.take_zero]
      refine bad_put (w := w) (b := ⟨90, 0, 0, false, false⟩) (g7.trans (Grow.drew w7)) hz7.drew rfl (Nat.le_refl _) (fun wz hBz _ gz => ?_)
      try simp -dsimp only [↓RE,↓c_seq,RU,RL,if_true,if_false,forall_const,implies_true,Nat.reduceLeDiff,Nat.reduceLT,pureOp,binPure,intBin,strBin,eqPure,isConstO,unPure,sliceLo,sliceHi,slicePure,lenPure,minPure,maxPure,buildP,resK,endV,yieldE,↓reduceIte,Nat.reduceEqDiff,reduceCtorEq,Nat.reduceAdd,Nat.reduceMul,Nat.reduceSub,Int.reduceLT,Int.reduceLE,Int.reduceToNat,Int.reduceAdd,Int.reduceSub,Int.reduceMul,ne_eq,decide_true,decide_false,tf6, he0]
      refine hBz.aggK (by simp [BadV.cells]) ?_
      try simp -dsimp only [↓RE,↓c_seq,RU,RL,if_true,if_false,forall_const,implies_true,Nat.reduceLeDiff,Nat.reduceLT,pureOp,binPure,intBin,strBin,eqPure,isConstO,unPure,sliceLo,sliceHi,slicePure,lenPure,minPure,maxPure,buildP,resK,endV,yieldE,↓reduceIte,Nat.reduceEqDiff,reduceCtorEq,Nat.reduceAdd,Nat.reduceMul,Nat.reduceSub,Int.reduceLT,Int.reduceLE,Int.reduceToNat,Int.reduceAdd,Int.reduceSub,Int.reduceMul,ne_eq,decide_true,decide_false,tf6, he0]
      exact herr e90 wz (uPe_3 hd h1 h2) gz
    have hBb := Blk.new' w6 31 #[.int .i64 0, .int .i64 0, .int .i64 0, .bool false, .bool false]
    have gb := Grow.alloc w6 (.cells #[.int .i64 0, .int .i64 0, .int .i64 0, .bool false, .bool false] 31)
    have hs6 := (g5.trans g6).size
    try simp -dsimp only [↓RE,↓c_seq,RU,RL,if_true,if_false,forall_const,implies_true,Nat.reduceLeDiff,Nat.reduceLT,pureOp,binPure,intBin,strBin,eqPure,isConstO,unPure,sliceLo,sliceHi,slicePure,lenPure,minPure,maxPure,buildP,resK,endV,yieldE,↓reduceIte,Nat.reduceEqDiff,reduceCtorEq,Nat.reduceAdd,Nat.reduceMul,Nat.reduceSub,Int.reduceLT,Int.reduceLE,Int.reduceToNat,Int.reduceAdd,Int.reduceSub,Int.reduceMul,ne_eq,decide_true,decide_false,tf6, he0, BadV.v, BadV.cells, BadV.none]
    refine bad_put (w := w) (b := BadV.none) ((g5.trans g6).trans gb) hBb rfl hs6 (fun w7 hB7 k7 g7 => ?_)
    have hz7 := ((hz5.grow g6).grow gb).keep k7 (by have := (hz5.grow g6).lt; omega)
    have k67 : Grow w6 w7 := gb.above k7 (fun i hi e => by omega)
    have hO7 := (((hO3.grow g4).grow k45).grow g6).grow k67
    have hfV := rDone_fok (uV_fok (kY b))
    try simp -dsimp only [↓RE,↓c_seq,RU,RL,if_true,if_false,forall_const,implies_true,Nat.reduceLeDiff,Nat.reduceLT,pureOp,binPure,intBin,strBin,eqPure,isConstO,unPure,sliceLo,sliceHi,slicePure,lenPure,minPure,maxPure,buildP,resK,endV,yieldE,↓reduceIte,Nat.reduceEqDiff,reduceCtorEq,Nat.reduceAdd,Nat.reduceMul,Nat.reduceSub,Int.reduceLT,Int.reduceLE,Int.reduceToNat,Int.reduceAdd,Int.reduceSub,Int.reduceMul,ne_eq,decide_true,decide_false,tf6, he0, hB7.cell, BadV.cells, BadV.none, eq_self, eX, eS, eY]
    refine runvalues_ok hO7 hky.1 (by omega) (fun x w8 h3 g8 => ?_) (fun w8 h3 h4 g8 => ?_) (fun h3 h4 w8 A8 c8 hR8 hF8 g8 => ?_)
    · rw [h3] at hfV
      have hq0 : decide ((badF (some x)).code = 0) = false := decide_eq_false (fok_code hfV)
      have hbe := badE_fok hfV
      try simp -dsimp only [↓RE,↓c_seq,RU,RL,if_true,if_false,forall_const,implies_true,Nat.reduceLeDiff,Nat.reduceLT,pureOp,binPure,intBin,strBin,eqPure,isConstO,unPure,sliceLo,sliceHi,slicePure,lenPure,minPure,maxPure,buildP,resK,endV,yieldE,↓reduceIte,Nat.reduceEqDiff,reduceCtorEq,Nat.reduceAdd,Nat.reduceMul,Nat.reduceSub,Int.reduceLT,Int.reduceLE,Int.reduceToNat,Int.reduceAdd,Int.reduceSub,Int.reduceMul,ne_eq,decide_true,decide_false,tf6, he0, BadV.v, BadV.cells]
      refine bad_put (w := w) (b := badF (some x)) (g7.trans g8) (hB7.grow g8) rfl hs6 (fun w9 hB9 k9 g9 => ?_)
      have hz9 := (hz7.grow g8).keep k9 (by have := (hz5.grow g6).lt; omega)
      try simp -dsimp only [↓RE,↓c_seq,RU,RL,if_true,if_false,forall_const,implies_true,Nat.reduceLeDiff,Nat.reduceLT,pureOp,binPure,intBin,strBin,eqPure,isConstO,unPure,sliceLo,sliceHi,slicePure,lenPure,minPure,maxPure,buildP,resK,endV,yieldE,↓reduceIte,Nat.reduceEqDiff,reduceCtorEq,Nat.reduceAdd,Nat.reduceMul,Nat.reduceSub,Int.reduceLT,Int.reduceLE,Int.reduceToNat,Int.reduceAdd,Int.reduceSub,Int.reduceMul,ne_eq,decide_true,decide_false,tf6, he0, hB9.cell, BadV.cells, hq0]
      refine wpDraw_tail mixed 2 (by kernel_rfl) ?_
      try simp -dsimp only [↓RE,↓c_seq,RU,RL,if_true,if_false,forall_const,implies_true,Nat.reduceLeDiff,Nat.reduceLT,pureOp,binPure,intBin,strBin,eqPure,isConstO,unPure,sliceLo,sliceHi,slicePure,lenPure,minPure,maxPure,buildP,resK,endV,yieldE,↓reduceIte,Nat.reduceEqDiff,reduceCtorEq,Nat.reduceAdd,Nat.reduceMul,Nat.reduceSub,Int.reduceLT,Int.reduceLE,Int.reduceToNat,Int.reduceAdd,Int.reduceSub,Int.reduceMul,ne_eq,decide_true,decide_false,tf6, he0]
      refine hB9.drew.aggK (by simp [BadV.cells]) ?_
      try simp -dsimp only [↓RE,↓c_seq,RU,RL,if_true,if_false,forall_const,implies_true,Nat.reduceLeDiff,Nat.reduceLT,pureOp,binPure,intBin,strBin,eqPure,isConstO,unPure,sliceLo,sliceHi,slicePure,lenPure,minPure,maxPure,buildP,resK,endV,yieldE,↓reduceIte,Nat.reduceEqDiff,reduceCtorEq,Nat.reduceAdd,Nat.reduceMul,Nat.reduceSub,Int.reduceLT,Int.reduceLE,Int.reduceToNat,Int.reduceAdd,Int.reduceSub,Int.reduceMul,ne_eq,decide_true,decide_false,tf6, he0, BadV.cells, List.drop_zero, List.take_succ_cons, List.take_zero]
      refine bad_put (w := w) (b := badF (some x)) (g9.trans (Grow.drew w9)) hz9.drew rfl (Nat.le_refl _) (fun wz hBz _ gz => ?_)
      try simp -dsimp only [↓RE,↓c_seq,RU,RL,if_true,if_false,forall_const,implies_true,Nat.reduceLeDiff,Nat.reduceLT,pureOp,binPure,intBin,strBin,eqPure,isConstO,unPure,sliceLo,sliceHi,slicePure,lenPure,minPure,maxPure,buildP,resK,endV,yieldE,↓reduceIte,Nat.reduceEqDiff,reduceCtorEq,Nat.reduceAdd,Nat.reduceMul,Nat.reduceSub,Int.reduceLT,Int.reduceLE,Int.reduceToNat,Int.reduceAdd,Int.reduceSub,Int.reduceMul,ne_eq,decide_true,decide_false,tf6, he0]
      refine hBz.aggK (by simp [BadV.cells]) ?_
      try simp -dsimp only [↓RE,↓c_seq,RU,RL,if_true,if_false,forall_const,implies_true,Nat.reduceLeDiff,Nat.reduceLT,pureOp,binPure,intBin,strBin,eqPure,isConstO,unPure,sliceLo,sliceHi,slicePure,lenPure,minPure,maxPure,buildP,resK,endV,yieldE,↓reduceIte,Nat.reduceEqDiff,reduceCtorEq,Nat.reduceAdd,Nat.reduceMul,Nat.reduceSub,Int.reduceLT,Int.reduceLE,Int.reduceToNat,Int.reduceAdd,Int.reduceSub,Int.reduceMul,ne_eq,decide_true,decide_false,tf6, he0]
      exact by have := herr x wz (uPe_4 hd h1 h2 h3) gz; rw [hbe] at this; exact this
    · try simp -dsimp only [↓RE,↓c_seq,RU,RL,if_true,if_false,forall_const,implies_true,Nat.reduceLeDiff,Nat.reduceLT,pureOp,binPure,intBin,strBin,eqPure,isConstO,unPure,sliceLo,sliceHi,slicePure,lenPure,minPure,maxPure,buildP,resK,endV,yieldE,↓reduceIte,Nat.reduceEqDiff,reduceCtorEq,Nat.reduceAdd,Nat.reduceMul,Nat.reduceSub,Int.reduceLT,Int.reduceLE,Int.reduceToNat,Int.reduceAdd,Int.reduceSub,Int.reduceMul,ne_eq,decide_true,decide_false,tf6, he0, BadV.v, BadV.cells]
      refine bad_put (w := w) (b := ⟨90, 0, 0, false, false⟩) (g7.trans g8) (hB7.grow g8) rfl hs6 (fun w9 hB9 k9 g9 => ?_)
      have hz9 := (hz7.grow g8).keep k9 (by have := (hz5.grow g6).lt; omega)
      try simp -dsimp only [↓RE,↓c_seq,RU,RL,if_true,if_false,forall_const,implies_true,Nat.reduceLeDiff,Nat.reduceLT,pureOp,binPure,intBin,strBin,eqPure,isConstO,unPure,sliceLo,sliceHi,slicePure,lenPure,minPure,maxPure,buildP,resK,endV,yieldE,↓reduceIte,Nat.reduceEqDiff,reduceCtorEq,Nat.reduceAdd,Nat.reduceMul,Nat.reduceSub,Int.reduceLT,Int.reduceLE,Int.reduceToNat,Int.reduceAdd,Int.reduceSub,Int.reduceMul,ne_eq,decide_true,decide_false,tf6, he0, hB9.cell, BadV.cells, Int.reduceEq, decide_false]
      refine wpDraw_tail mixed 2 (by kernel_rfl) ?_
      try simp -dsimp only [↓RE,↓c_seq,RU,RL,if_true,if_false,forall_const,implies_true,Nat.reduceLeDiff,Nat.reduceLT,pureOp,binPure,intBin,strBin,eqPure,isConstO,unPure,sliceLo,sliceHi,slicePure,lenPure,minPure,maxPure,buildP,resK,endV,yieldE,↓reduceIte,Nat.reduceEqDiff,reduceCtorEq,Nat.reduceAdd,Nat.reduceMul,Nat.reduceSub,Int.reduceLT,Int.reduceLE,Int.reduceToNat,Int.reduceAdd,Int.reduceSub,Int.reduceMul,ne_eq,decide_true,decide_false,tf6, he0]
      refine hB9.drew.aggK (by simp [BadV.cells]) ?_
      try simp -dsimp only [↓RE,↓c_seq,RU,RL,if_true,if_false,forall_const,implies_true,Nat.reduceLeDiff,Nat.reduceLT,pureOp,binPure,intBin,strBin,eqPure,isConstO,unPure,sliceLo,sliceHi,slicePure,lenPure,minPure,maxPure,buildP,resK,endV,yieldE,↓reduceIte,Nat.reduceEqDiff,reduceCtorEq,Nat.reduceAdd,Nat.reduceMul,Nat.reduceSub,Int.reduceLT,Int.reduceLE,Int.reduceToNat,Int.reduceAdd,Int.reduceSub,Int.reduceMul,ne_eq,decide_true,decide_false,tf6, he0, BadV.cells, List.drop_zero, List.take_succ_cons, List.take_zero]
      refine bad_put (w := w) (b := ⟨90, 0, 0, false, false⟩) (g9.trans (Grow.drew w9)) hz9.drew rfl (Nat.le_refl _) (fun wz hBz _ gz => ?_)
      try simp -dsimp only [↓RE,↓c_seq,RU,RL,if_true,if_false,forall_const,implies_true,Nat.reduceLeDiff,Nat.reduceLT,pureOp,binPure,intBin,strBin,eqPure,isConstO,unPure,sliceLo,sliceHi,slicePure,lenPure,minPure,maxPure,buildP,resK,endV,yieldE,↓reduceIte,Nat.reduceEqDiff,reduceCtorEq,Nat.reduceAdd,Nat.reduceMul,Nat.reduceSub,Int.reduceLT,Int.reduceLE,Int.reduceToNat,Int.reduceAdd,Int.reduceSub,Int.reduceMul,ne_eq,decide_true,decide_false,tf6, he0]
      refine hBz.aggK (by simp [BadV.cells]) ?_
      try simp -dsimp only [↓RE,↓c_seq,RU,RL,if_true,if_false,forall_const,implies_true,Nat.reduceLeDiff,Nat.reduceLT,pureOp,binPure,intBin,strBin,eqPure,isConstO,unPure,sliceLo,sliceHi,slicePure,lenPure,minPure,maxPure,buildP,resK,endV,yieldE,↓reduceIte,Nat.reduceEqDiff,reduceCtorEq,Nat.reduceAdd,Nat.reduceMul,Nat.reduceSub,Int.reduceLT,Int.reduceLE,Int.reduceToNat,Int.reduceAdd,Int.reduceSub,Int.reduceMul,ne_eq,decide_true,decide_false,tf6, he0]
      exact herr e90 wz (uPe_5 hd h1 h2 h3 h4) gz
    try simp -dsimp only [↓RE,↓c_seq,RU,RL,if_true,if_false,forall_const,implies_true,Nat.reduceLeDiff,Nat.reduceLT,pureOp,binPure,intBin,strBin,eqPure,isConstO,unPure,sliceLo,sliceHi,slicePure,lenPure,minPure,maxPure,buildP,resK,endV,yieldE,↓reduceIte,Nat.reduceEqDiff,reduceCtorEq,Nat.reduceAdd,Nat.reduceMul,Nat.reduceSub,Int.reduceLT,Int.reduceLE,Int.reduceToNat,Int.reduceAdd,Int.reduceSub,Int.reduceMul,ne_eq,decide_true,decide_false,tf6, he0, BadV.v, BadV.cells, BadV.none]
    refine bad_put (w := w) (b := BadV.none) (g7.trans g8) (hB7.grow g8) rfl hs6 (fun w9 hB9 k9 g9 => ?_)
    have hz9 := (hz7.grow g8).keep k9 (by have := (hz5.grow g6).lt; omega)
    have k79 : Keep (fun k => k = w6.heap.size) w7 w9 := g8.then k9
    have k69 : Grow w6 w9 := (k67.trans g8).above k9 (fun i hi e => by omega)
    have hs9 := k69.size
    have hRT := hR6.grow k69
    have hRV := hR8.keep k9 (fun k hk e => by have := hF8 k hk; have := hB7.lt; omega)
    have hTl := uT_len (kX b)
    have hVl := uV_len (kY b)
    by_cases hlen : (uT (kX b)).l.length = (uV (kY b)).l.length
    · have hpe := uPe_ok hd h1 h2 h3 h4 hlen
      have hL : uPl b = (uT (kX b)).l.zip (uV (kY b)).l := rfl
      rw [hL] at h
      have hzl := zip_len hlen
      have hzg := fun {k : Nat} => zip_getD hlen (k := k)
      generalize (uT (kX b)).l = T at *
      generalize (uV (kY b)).l = V at *
      have d1 : decide ((T.length : Int) = (V.length : Int)) = true := decide_eq_true (by omega)
      have hs9w := g9.size
      have hz9l := hz9.lt
      try simp -dsimp only [↓RE,↓c_seq,RU,RL,if_true,if_false,forall_const,implies_true,Nat.reduceLeDiff,Nat.reduceLT,pureOp,binPure,intBin,strBin,eqPure,isConstO,unPure,sliceLo,sliceHi,slicePure,lenPure,minPure,maxPure,buildP,resK,endV,yieldE,↓reduceIte,Nat.reduceEqDiff,reduceCtorEq,Nat.reduceAdd,Nat.reduceMul,Nat.reduceSub,Int.reduceLT,Int.reduceLE,Int.reduceToNat,Int.reduceAdd,Int.reduceSub,Int.reduceMul,ne_eq,decide_true,decide_false,tf6, he0, hB9.cell, BadV.cells, BadV.none, eq_self, d1]
      refine wpLoop_intro (fun e' w' => e' 3 = .pointer (some ⟨w.heap.size, 0, none⟩) ∧ e' 8 = .slice A6 T.length c6 ∧ e' 10 = .slice A8 V.length c8 ∧ ∃ (k : Nat) (sv : Value), k ≤ T.length ∧ e' 12 = .int .i64 k ∧ e' 11 = sv ∧
          w'.ownsRow 0 42 3 sv k (((T.zip V).take k).flatMap scells) ∧ (∀ i, fpV sv i → w9.heap.size ≤ i) ∧ Grow w9 w')
        (fun e' _ => T.length - (envInt (e' 12)).toNat) ⟨?_, ?_, ?_, 0, .slice none 0 0, Nat.zero_le _, ?_, ?_, own_nil _ _ _, fun i hi => absurd hi (fpV_none _), Keep.refl _ _⟩ ?_
      · simp -dsimp only [↓RE,↓c_seq,RU,RL,if_true,if_false,forall_const,implies_true,Nat.reduceLeDiff,Nat.reduceLT,pureOp,binPure,intBin,strBin,eqPure,isConstO,unPure,sliceLo,sliceHi,slicePure,lenPure,minPure,maxPure,buildP,resK,endV,yieldE,↓reduceIte,Nat.reduceEqDiff,reduceCtorEq,Nat.reduceAdd,Nat.reduceMul,Nat.reduceSub,Int.reduceLT,Int.reduceLE,Int.reduceToNat,Int.reduceAdd,Int.reduceSub,Int.reduceMul,ne_eq,decide_true,decide_false,tf6, he0]
      · simp -dsimp only [↓RE,↓c_seq,RU,RL,if_true,if_false,forall_const,implies_true,Nat.reduceLeDiff,Nat.reduceLT,pureOp,binPure,intBin,strBin,eqPure,isConstO,unPure,sliceLo,sliceHi,slicePure,lenPure,minPure,maxPure,buildP,resK,endV,yieldE,↓reduceIte,Nat.reduceEqDiff,reduceCtorEq,Nat.reduceAdd,Nat.reduceMul,Nat.reduceSub,Int.reduceLT,Int.reduceLE,Int.reduceToNat,Int.reduceAdd,Int.reduceSub,Int.reduceMul,ne_eq,decide_true,decide_false,tf6, he0]
      · simp -dsimp only [↓RE,↓c_seq,RU,RL,if_true,if_false,forall_const,implies_true,Nat.reduceLeDiff,Nat.reduceLT,pureOp,binPure,intBin,strBin,eqPure,isConstO,unPure,sliceLo,sliceHi,slicePure,lenPure,minPure,maxPure,buildP,resK,endV,yieldE,↓reduceIte,Nat.reduceEqDiff,reduceCtorEq,Nat.reduceAdd,Nat.reduceMul,Nat.reduceSub,Int.reduceLT,Int.reduceLE,Int.reduceToNat,Int.reduceAdd,Int.reduceSub,Int.reduceMul,ne_eq,decide_true,decide_false,tf6, he0]
      · simp -dsimp only [↓RE,↓c_seq,RU,RL,if_true,if_false,forall_const,implies_true,Nat.reduceLeDiff,Nat.reduceLT,pureOp,binPure,intBin,strBin,eqPure,isConstO,unPure,sliceLo,sliceHi,slicePure,lenPure,minPure,maxPure,buildP,resK,endV,yieldE,↓reduceIte,Nat.reduceEqDiff,reduceCtorEq,Nat.reduceAdd,Nat.reduceMul,Nat.reduceSub,Int.reduceLT,Int.reduceLE,Int.reduceToNat,Int.reduceAdd,Int.reduceSub,Int.reduceMul,ne_eq,decide_true,decide_false,tf6, he0, Int.cast_ofNat_Int]
      · simp -dsimp only [↓RE,↓c_seq,RU,RL,if_true,if_false,forall_const,implies_true,Nat.reduceLeDiff,Nat.reduceLT,pureOp,binPure,intBin,strBin,eqPure,isConstO,unPure,sliceLo,sliceHi,slicePure,lenPure,minPure,maxPure,buildP,resK,endV,yieldE,↓reduceIte,Nat.reduceEqDiff,reduceCtorEq,Nat.reduceAdd,Nat.reduceMul,Nat.reduceSub,Int.reduceLT,Int.reduceLE,Int.reduceToNat,Int.reduceAdd,Int.reduceSub,Int.reduceMul,ne_eq,decide_true,decide_false,tf6, he0]
      rintro e' w' ⟨h3', h8', h10, k, sv, hk, h12, h11, hO, hF, hg⟩
      try simp -dsimp only [↓RE,↓c_seq,RU,RL,if_true,if_false,forall_const,implies_true,Nat.reduceLeDiff,Nat.reduceLT,pureOp,binPure,intBin,strBin,eqPure,isConstO,unPure,sliceLo,sliceHi,slicePure,lenPure,minPure,maxPure,buildP,resK,endV,yieldE,↓reduceIte,Nat.reduceEqDiff,reduceCtorEq,Nat.reduceAdd,Nat.reduceMul,Nat.reduceSub,Int.reduceLT,Int.reduceLE,Int.reduceToNat,Int.reduceAdd,Int.reduceSub,Int.reduceMul,ne_eq,decide_true,decide_false,tf6, h3', h8', h10, h12, h11]
      refine ⟨fun hlt => ?_, fun hge => ?_⟩
      · have hgd := hg.trans (Grow.drew w')
        obtain ⟨ad, hAd, hca⟩ := (hRT.grow hgd).int (k := k) (by omega)
        obtain ⟨bd, hBd, hcb⟩ := (hRV.grow hgd).val (k := k) (by omega)
        subst hAd
        subst hBd
        have hx := hzg (k := k) (by omega)
        have hO' := own_grow hO (Grow.drew w')
        have hO1 := own_lt hO'
        have hgs := hgd.size
        refine wpDraw_by (fun wq => Grow w9 wq) [(0, true), (1, true), (2, true), (3, true), (4, true), (5, true), (6, true), (7, true), (8, true), (9, true), (10, false), (11, false), (12, true)] (by kernel_rfl) hgd ?_
        simp only [planL, List.getElem?_toArray, List.getElem?_cons_zero, List.getElem?_cons_succ, Option.toList_some, List.map_cons, List.map_nil, List.cons_append, List.nil_append]
        try simp -dsimp only [↓RE,↓c_seq,RU,RL,if_true,if_false,forall_const,implies_true,Nat.reduceLeDiff,Nat.reduceLT,pureOp,binPure,intBin,strBin,eqPure,isConstO,unPure,sliceLo,sliceHi,slicePure,lenPure,minPure,maxPure,buildP,resK,endV,yieldE,↓reduceIte,Nat.reduceEqDiff,reduceCtorEq,Nat.reduceAdd,Nat.reduceMul,Nat.reduceSub,Int.reduceLT,Int.reduceLE,Int.reduceToNat,Int.reduceAdd,Int.reduceSub,Int.reduceMul,ne_eq,decide_true,decide_false,tf6, h3', h8', h10, h12, h11, Int.toNat_natCast]
        refine ⟨⟨by omega, by omega⟩, ?_⟩
        try simp -dsimp only [↓RE,↓c_seq,RU,RL,if_true,if_false,forall_const,implies_true,Nat.reduceLeDiff,Nat.reduceLT,pureOp,binPure,intBin,strBin,eqPure,isConstO,unPure,sliceLo,sliceHi,slicePure,lenPure,minPure,maxPure,buildP,resK,endV,yieldE,↓reduceIte,Nat.reduceEqDiff,reduceCtorEq,Nat.reduceAdd,Nat.reduceMul,Nat.reduceSub,Int.reduceLT,Int.reduceLE,Int.reduceToNat,Int.reduceAdd,Int.reduceSub,Int.reduceMul,ne_eq,decide_true,decide_false,tf6, h3', h8', h10, h12, h11, Int.toNat_natCast]
        refine ⟨_, fun wq hS => by
          obtain ⟨ad', hAd', hcq⟩ := (hRT.grow hS).int (k := k) (by omega)
          injection hAd' with hAd'
          subst hAd'
          exact hcq, ?_⟩
        try simp -dsimp only [↓RE,↓c_seq,RU,RL,if_true,if_false,forall_const,implies_true,Nat.reduceLeDiff,Nat.reduceLT,pureOp,binPure,intBin,strBin,eqPure,isConstO,unPure,sliceLo,sliceHi,slicePure,lenPure,minPure,maxPure,buildP,resK,endV,yieldE,↓reduceIte,Nat.reduceEqDiff,reduceCtorEq,Nat.reduceAdd,Nat.reduceMul,Nat.reduceSub,Int.reduceLT,Int.reduceLE,Int.reduceToNat,Int.reduceAdd,Int.reduceSub,Int.reduceMul,ne_eq,decide_true,decide_false,tf6, h3', h8', h10, h12, h11, Int.toNat_natCast]
        refine ⟨⟨by omega, by omega⟩, ?_⟩
        try simp -dsimp only [↓RE,↓c_seq,RU,RL,if_true,if_false,forall_const,implies_true,Nat.reduceLeDiff,Nat.reduceLT,pureOp,binPure,intBin,strBin,eqPure,isConstO,unPure,sliceLo,sliceHi,slicePure,lenPure,minPure,maxPure,buildP,resK,endV,yieldE,↓reduceIte,Nat.reduceEqDiff,reduceCtorEq,Nat.reduceAdd,Nat.reduceMul,Nat.reduceSub,Int.reduceLT,Int.reduceLE,Int.reduceToNat,Int.reduceAdd,Int.reduceSub,Int.reduceMul,ne_eq,decide_true,decide_false,tf6, h3', h8', h10, h12, h11, Int.toNat_natCast]
        have hgk : V[k]? = some (V.getD k (0, 0)) := by rw [List.getD_eq_getElem?_getD, List.getElem?_eq_getElem (by omega)]; rfl
        refine ⟨vcells (V.getD k (0, 0)), rfl, fun wq hS j v hj => by
          obtain ⟨_, bd', hBd', hcq⟩ := (hRV.grow hS).flat (size := 2) (fun _ _ => rfl) hgk (by omega)
          injection hBd' with hBd'
          subst hBd'
          exact hcq j v hj, ?_⟩
        generalize w'.drew = wd at *
        have hb1 := Blk.new' wd 42 #[.int .i64 (T.getD k 0), .int .u8 (V.getD k (0, 0)).1, .int .i64 (V.getD k (0, 0)).2]
        have ga1 := Grow.alloc wd (.cells #[.int .i64 (T.getD k 0), .int .u8 (V.getD k (0, 0)).1, .int .i64 (V.getD k (0, 0)).2] 42)
        have hr1 : Rd (wd.alloc (.cells #[.int .i64 (T.getD k 0), .int .u8 (V.getD k (0, 0)).1, .int .i64 (V.getD k (0, 0)).2] 42)) (some ⟨wd.heap.size, 0, none⟩) 1 3 (([(T.getD k 0, V.getD k (0, 0))] : List (Int × Int × Int)).flatMap scells) := Rd.of_blk hb1 rfl
        try simp -dsimp only [↓RE,↓c_seq,RU,RL,if_true,if_false,forall_const,implies_true,Nat.reduceLeDiff,Nat.reduceLT,pureOp,binPure,intBin,strBin,eqPure,isConstO,unPure,sliceLo,sliceHi,slicePure,lenPure,minPure,maxPure,buildP,resK,endV,yieldE,↓reduceIte,Nat.reduceEqDiff,reduceCtorEq,Nat.reduceAdd,Nat.reduceMul,Nat.reduceSub,Int.reduceLT,Int.reduceLE,Int.reduceToNat,Int.reduceAdd,Int.reduceSub,Int.reduceMul,ne_eq,decide_true,decide_false,tf6, h3', h8', h10, h12, h11, Int.toNat_natCast, vcells]
        refine ⟨hgd.trans ga1, ?_⟩
        try simp -dsimp only [↓RE,↓c_seq,RU,RL,if_true,if_false,forall_const,implies_true,Nat.reduceLeDiff,Nat.reduceLT,pureOp,binPure,intBin,strBin,eqPure,isConstO,unPure,sliceLo,sliceHi,slicePure,lenPure,minPure,maxPure,buildP,resK,endV,yieldE,↓reduceIte,Nat.reduceEqDiff,reduceCtorEq,Nat.reduceAdd,Nat.reduceMul,Nat.reduceSub,Int.reduceLT,Int.reduceLE,Int.reduceToNat,Int.reduceAdd,Int.reduceSub,Int.reduceMul,ne_eq,decide_true,decide_false,tf6, h3', h8', h10, h12, h11, Int.toNat_natCast]
        refine appK_own (m := 1) (bytes := 24) (by kernel_rfl) (own_grow hO' ga1) hr1 (scells_one _) (by show k + 1 ≤ maxLen; simp only [maxLen]; omega) (by show (k + 1) * 24 ≤ 140737488355328; omega) (fun Ax cx wx hOx hKx hFx => ?_)
        have gx : Grow w9 wx := (hgd.trans ga1).above hKx (fun i hi hf => by have := hF i hf; omega)
        have hOx' : wx.ownsRow 0 42 3 (.slice Ax (k + 1) cx) (k + 1) (((T.zip V).take (k + 1)).flatMap scells) := by
          rw [take_snoc (0, 0, 0) (by rw [hzl]; omega), hx, List.flatMap_append]; exact hOx
        refine ⟨gx, ?_⟩
        try simp -dsimp only [↓RE,↓c_seq,RU,RL,if_true,if_false,forall_const,implies_true,Nat.reduceLeDiff,Nat.reduceLT,pureOp,binPure,intBin,strBin,eqPure,isConstO,unPure,sliceLo,sliceHi,slicePure,lenPure,minPure,maxPure,buildP,resK,endV,yieldE,↓reduceIte,Nat.reduceEqDiff,reduceCtorEq,Nat.reduceAdd,Nat.reduceMul,Nat.reduceSub,Int.reduceLT,Int.reduceLE,Int.reduceToNat,Int.reduceAdd,Int.reduceSub,Int.reduceMul,ne_eq,decide_true,decide_false,tf6, h3', h8', h10, h12, h11]
        refine hold_intro ⟨⟨?_, ?_, ?_, k + 1, .slice Ax (k + 1) cx, by omega, ?_, ?_, hOx', fun i hi => (hFx i hi).elim (hF i) (fun q => by have := ga1.size; omega), gx⟩, ?_⟩
        · simp -dsimp only [↓RE,↓c_seq,RU,RL,if_true,if_false,forall_const,implies_true,Nat.reduceLeDiff,Nat.reduceLT,pureOp,binPure,intBin,strBin,eqPure,isConstO,unPure,sliceLo,sliceHi,slicePure,lenPure,minPure,maxPure,buildP,resK,endV,yieldE,↓reduceIte,Nat.reduceEqDiff,reduceCtorEq,Nat.reduceAdd,Nat.reduceMul,Nat.reduceSub,Int.reduceLT,Int.reduceLE,Int.reduceToNat,Int.reduceAdd,Int.reduceSub,Int.reduceMul,ne_eq,decide_true,decide_false,tf6, h3']
        · simp -dsimp only [↓RE,↓c_seq,RU,RL,if_true,if_false,forall_const,implies_true,Nat.reduceLeDiff,Nat.reduceLT,pureOp,binPure,intBin,strBin,eqPure,isConstO,unPure,sliceLo,sliceHi,slicePure,lenPure,minPure,maxPure,buildP,resK,endV,yieldE,↓reduceIte,Nat.reduceEqDiff,reduceCtorEq,Nat.reduceAdd,Nat.reduceMul,Nat.reduceSub,Int.reduceLT,Int.reduceLE,Int.reduceToNat,Int.reduceAdd,Int.reduceSub,Int.reduceMul,ne_eq,decide_true,decide_false,tf6, h8']
        · simp -dsimp only [↓RE,↓c_seq,RU,RL,if_true,if_false,forall_const,implies_true,Nat.reduceLeDiff,Nat.reduceLT,pureOp,binPure,intBin,strBin,eqPure,isConstO,unPure,sliceLo,sliceHi,slicePure,lenPure,minPure,maxPure,buildP,resK,endV,yieldE,↓reduceIte,Nat.reduceEqDiff,reduceCtorEq,Nat.reduceAdd,Nat.reduceMul,Nat.reduceSub,Int.reduceLT,Int.reduceLE,Int.reduceToNat,Int.reduceAdd,Int.reduceSub,Int.reduceMul,ne_eq,decide_true,decide_false,tf6, h10]
        · simp -dsimp only [↓RE,↓c_seq,RU,RL,if_true,if_false,forall_const,implies_true,Nat.reduceLeDiff,Nat.reduceLT,pureOp,binPure,intBin,strBin,eqPure,isConstO,unPure,sliceLo,sliceHi,slicePure,lenPure,minPure,maxPure,buildP,resK,endV,yieldE,↓reduceIte,Nat.reduceEqDiff,reduceCtorEq,Nat.reduceAdd,Nat.reduceMul,Nat.reduceSub,Int.reduceLT,Int.reduceLE,Int.reduceToNat,Int.reduceAdd,Int.reduceSub,Int.reduceMul,ne_eq,decide_true,decide_false,tf6, h12]
          rw [wrap_i64_in (by omega) (by omega)]; rfl
        · simp -dsimp only [↓RE,↓c_seq,RU,RL,if_true,if_false,forall_const,implies_true,Nat.reduceLeDiff,Nat.reduceLT,pureOp,binPure,intBin,strBin,eqPure,isConstO,unPure,sliceLo,sliceHi,slicePure,lenPure,minPure,maxPure,buildP,resK,endV,yieldE,↓reduceIte,Nat.reduceEqDiff,reduceCtorEq,Nat.reduceAdd,Nat.reduceMul,Nat.reduceSub,Int.reduceLT,Int.reduceLE,Int.reduceToNat,Int.reduceAdd,Int.reduceSub,Int.reduceMul,ne_eq,decide_true,decide_false,tf6, h11]
        · simp -dsimp only [↓RE,↓c_seq,RU,RL,if_true,if_false,forall_const,implies_true,Nat.reduceLeDiff,Nat.reduceLT,pureOp,binPure,intBin,strBin,eqPure,isConstO,unPure,sliceLo,sliceHi,slicePure,lenPure,minPure,maxPure,buildP,resK,endV,yieldE,↓reduceIte,Nat.reduceEqDiff,reduceCtorEq,Nat.reduceAdd,Nat.reduceMul,Nat.reduceSub,Int.reduceLT,Int.reduceLE,Int.reduceToNat,Int.reduceAdd,Int.reduceSub,Int.reduceMul,ne_eq,decide_true,decide_false,tf6, h12]
          rw [wrap_i64_in (by omega) (by omega), envInt_int, envInt_int]; omega
      · obtain rfl : k = T.length := by omega
        obtain ⟨Ax, cx, rfl, _, _⟩ := own_form hO
        rw [List.take_of_length_le (by omega)] at hO
        rw [hzl] at h
        try simp -dsimp only [↓RE,↓c_seq,RU,RL,if_true,if_false,forall_const,implies_true,Nat.reduceLeDiff,Nat.reduceLT,pureOp,binPure,intBin,strBin,eqPure,isConstO,unPure,sliceLo,sliceHi,slicePure,lenPure,minPure,maxPure,buildP,resK,endV,yieldE,↓reduceIte,Nat.reduceEqDiff,reduceCtorEq,Nat.reduceAdd,Nat.reduceMul,Nat.reduceSub,Int.reduceLT,Int.reduceLE,Int.reduceToNat,Int.reduceAdd,Int.reduceSub,Int.reduceMul,ne_eq,decide_true,decide_false,tf6, h3', h8', h10, h12, h11, BadV.v, BadV.cells, BadV.none]
        refine bad_put (w := w) (b := BadV.none) (g9.trans hg) (hz9.grow hg) rfl (Nat.le_refl _) (fun wy hBy ky gy => ?_)
        have hOy := own_keep hO ky (fun i hi e => by have := hF i hi; omega)
        try simp -dsimp only [↓RE,↓c_seq,RU,RL,if_true,if_false,forall_const,implies_true,Nat.reduceLeDiff,Nat.reduceLT,pureOp,binPure,intBin,strBin,eqPure,isConstO,unPure,sliceLo,sliceHi,slicePure,lenPure,minPure,maxPure,buildP,resK,endV,yieldE,↓reduceIte,Nat.reduceEqDiff,reduceCtorEq,Nat.reduceAdd,Nat.reduceMul,Nat.reduceSub,Int.reduceLT,Int.reduceLE,Int.reduceToNat,Int.reduceAdd,Int.reduceSub,Int.reduceMul,ne_eq,decide_true,decide_false,tf6, h3', h11]
        refine hBy.aggK (by simp [BadV.cells]) ?_
        try simp -dsimp only [↓RE,↓c_seq,RU,RL,if_true,if_false,forall_const,implies_true,Nat.reduceLeDiff,Nat.reduceLT,pureOp,binPure,intBin,strBin,eqPure,isConstO,unPure,sliceLo,sliceHi,slicePure,lenPure,minPure,maxPure,buildP,resK,endV,yieldE,↓reduceIte,Nat.reduceEqDiff,reduceCtorEq,Nat.reduceAdd,Nat.reduceMul,Nat.reduceSub,Int.reduceLT,Int.reduceLE,Int.reduceToNat,Int.reduceAdd,Int.reduceSub,Int.reduceMul,ne_eq,decide_true,decide_false,tf6, h3', h11]
        exact h hpe wy Ax cx (Rd.of_own hOy) gy
    · have d1 : decide (((uT (kX b)).l.length : Int) = ((uV (kY b)).l.length : Int)) = false := decide_eq_false (by omega)
      try simp -dsimp only [↓RE,↓c_seq,RU,RL,if_true,if_false,forall_const,implies_true,Nat.reduceLeDiff,Nat.reduceLT,pureOp,binPure,intBin,strBin,eqPure,isConstO,unPure,sliceLo,sliceHi,slicePure,lenPure,minPure,maxPure,buildP,resK,endV,yieldE,↓reduceIte,Nat.reduceEqDiff,reduceCtorEq,Nat.reduceAdd,Nat.reduceMul,Nat.reduceSub,Int.reduceLT,Int.reduceLE,Int.reduceToNat,Int.reduceAdd,Int.reduceSub,Int.reduceMul,ne_eq,decide_true,decide_false,tf6, he0, hB9.cell, BadV.cells, BadV.none, eq_self, d1]
      refine rnew_ok (fun w10 g10 => ?_)
      try simp -dsimp only [↓RE,↓c_seq,RU,RL,if_true,if_false,forall_const,implies_true,Nat.reduceLeDiff,Nat.reduceLT,pureOp,binPure,intBin,strBin,eqPure,isConstO,unPure,sliceLo,sliceHi,slicePure,lenPure,minPure,maxPure,buildP,resK,endV,yieldE,↓reduceIte,Nat.reduceEqDiff,reduceCtorEq,Nat.reduceAdd,Nat.reduceMul,Nat.reduceSub,Int.reduceLT,Int.reduceLE,Int.reduceToNat,Int.reduceAdd,Int.reduceSub,Int.reduceMul,ne_eq,decide_true,decide_false,tf6, he0, BadV.v, BadV.cells]
      refine bad_put (w := w) (b := ⟨90, 0, 0, false, false⟩) (g9.trans g10) (hz9.grow g10) rfl (Nat.le_refl _) (fun w11 hB11 _ g11 => ?_)
      try simp -dsimp only [↓RE,↓c_seq,RU,RL,if_true,if_false,forall_const,implies_true,Nat.reduceLeDiff,Nat.reduceLT,pureOp,binPure,intBin,strBin,eqPure,isConstO,unPure,sliceLo,sliceHi,slicePure,lenPure,minPure,maxPure,buildP,resK,endV,yieldE,↓reduceIte,Nat.reduceEqDiff,reduceCtorEq,Nat.reduceAdd,Nat.reduceMul,Nat.reduceSub,Int.reduceLT,Int.reduceLE,Int.reduceToNat,Int.reduceAdd,Int.reduceSub,Int.reduceMul,ne_eq,decide_true,decide_false,tf6, he0]
      refine hB11.aggK (by simp [BadV.cells]) ?_
      try simp -dsimp only [↓RE,↓c_seq,RU,RL,if_true,if_false,forall_const,implies_true,Nat.reduceLeDiff,Nat.reduceLT,pureOp,binPure,intBin,strBin,eqPure,isConstO,unPure,sliceLo,sliceHi,slicePure,lenPure,minPure,maxPure,buildP,resK,endV,yieldE,↓reduceIte,Nat.reduceEqDiff,reduceCtorEq,Nat.reduceAdd,Nat.reduceMul,Nat.reduceSub,Int.reduceLT,Int.reduceLE,Int.reduceToNat,Int.reduceAdd,Int.reduceSub,Int.reduceMul,ne_eq,decide_true,decide_false,tf6, he0]
      exact herr e90 w11 (uPe_6 hd h1 h2 h3 h4 hlen) g11

end Go.Proofs.YtmgiichlccdcfaaGreatDoor
