/- Walks over wire.Reader. -/
import Derived.Test.YtpocfghkolppmaaWire
import Derived.Test.YtpocfghkolppmaaPureA
set_option linter.unusedVariables false
set_option linter.unusedSimpArgs false
set_option maxRecDepth 100000
namespace Go.Proofs.Ytpocfghkolppmaa
open Go

/-- a Reader at block p. -/
def RAt (w : World) (F : Nat → Prop) (p : Nat) (s : RS) : Prop :=
  ∃ A c, Blk w p 98 [.slice A s.xs.length c, .int .i64 s.pos, .int .i64 s.bits, errV s.fault] ∧ Rd w A s.xs.length 1 (s.xs.map (Value.int .u8)) ∧ (0 < s.xs.length → ¬ fpA A p) ∧
    s.xs.length ≤ c ∧ F = fun k => k = p ∨ (0 < s.xs.length ∧ fpA A k)

theorem errV_one (o : Option (TypeId × Value)) : (errV o).oneCell' = true := by
  cases o with
  | none => rfl
  | some x => rfl
theorem RAt.lt {w : World} {F : Nat → Prop} {p : Nat} {s : RS} (h : RAt w F p s) : ∀ k, F k → k < w.heap.size := by
  obtain ⟨A, c, hB, hR, hp, hc, rfl⟩ := h
  rintro k (rfl | ⟨h0, hk⟩)
  · exact hB.lt
  · exact hR.lt h0 (by omega) k hk
theorem RAt.at {w : World} {F : Nat → Prop} {p : Nat} {s : RS} (h : RAt w F p s) : F p := by
  obtain ⟨A, c, hB, hR, hp, hc, rfl⟩ := h
  exact .inl rfl
theorem RAt.keep {w w' : World} {F G : Nat → Prop} {p : Nat} {s : RS} (h : RAt w F p s) (hk : Keep G w w') (hd : ∀ k, F k → ¬ G k) : RAt w' F p s := by
  obtain ⟨A, c, hB, hR, hp, hc, rfl⟩ := h
  exact ⟨A, c, hB.keep hk (hd p (.inl rfl)), hR.keep0 hk (fun h0 k hf => hd k (.inr ⟨h0, hf⟩)), hp, hc, rfl⟩
theorem RAt.grow {w w' : World} {F : Nat → Prop} {p : Nat} {s : RS} (h : RAt w F p s) (hk : Grow w w') : RAt w' F p s := h.keep hk (fun _ _ h => h)

theorem fnew_ok {w : World} {e : Int} (he : e ≠ 0) {R : VWK} (h : R (.iface 77 (.int .i64 e)) w) : CallsV Try.prog 26 [.int .i64 e] w R := by
  refine calls_of_wpC mixed Try.func26 rfl (by kernel_rfl) ?_
  intro e he
  have he0 := he 0
  simp only [List.getD_cons_zero, List.getD_cons_succ] at he0
  clear he
  simp only [↓RD,↓c_seq,RU,RL,if_true,if_false,forall_const,implies_true,Nat.reduceLeDiff,Nat.reduceLT,pureOp,binPure,intBin,strBin,eqPure,isConstO,unPure,sliceLo,sliceHi,slicePure,slice3Pure,lenPure,capPure,minPure,maxPure,buildP,resK,endV,yieldE,↓reduceIte,Nat.reduceEqDiff,reduceCtorEq,Nat.reduceAdd,Nat.reduceMul,Nat.reduceSub,Int.reduceLT,Int.reduceLE,Int.reduceToNat,Int.reduceAdd,Int.reduceSub,Int.reduceMul,ne_eq,decide_true,decide_false,tf26, he0, he]
  exact h
theorem fat_ok {w : World} {pos : Nat} {e : Int} (he : e ≠ 0) {R : VWK} (h : R (errV (errAt pos e)) w) : CallsV Try.prog 43 [.int .i64 pos, .int .i64 e] w R := by
  refine calls_of_wpC mixed Try.func43 rfl (by kernel_rfl) ?_
  intro e he
  have he0 := he 0
  have he1 := he 1
  simp only [List.getD_cons_zero, List.getD_cons_succ] at he0 he1
  clear he
  simp only [↓RD,↓c_seq,RU,RL,if_true,if_false,forall_const,implies_true,Nat.reduceLeDiff,Nat.reduceLT,pureOp,binPure,intBin,strBin,eqPure,isConstO,unPure,sliceLo,sliceHi,slicePure,slice3Pure,lenPure,capPure,minPure,maxPure,buildP,resK,endV,yieldE,↓reduceIte,Nat.reduceEqDiff,reduceCtorEq,Nat.reduceAdd,Nat.reduceMul,Nat.reduceSub,Int.reduceLT,Int.reduceLE,Int.reduceToNat,Int.reduceAdd,Int.reduceSub,Int.reduceMul,ne_eq,decide_true,decide_false,tf43, he0, he1, he]
  exact h

theorem rest_ok {w : World} {F : Nat → Prop} {p : Nat} {s : RS} (hR : RAt w F p s) (ok : RSok s) {R : VWK} (h : ∀ w', Grow w w' → R (.bool (rRest s)) w') :
    CallsV Try.prog 42 [.pointer (some ⟨p, 0, none⟩)] w R := by
  obtain ⟨A, c, hB, hR, hp, hc, rfl⟩ := hR
  refine calls_of_wpC mixed Try.func42 rfl (by kernel_rfl) ?_
  intro e he
  have he0 := he 0
  simp only [List.getD_cons_zero, List.getD_cons_succ] at he0
  clear he
  have h2 := h w.drew (Grow.drew w)
  unfold rRest at h2
  have hle := ok.le
  have hb1 := ok.b1
  have hb8 := ok.b8
  have hln := ok.len
  by_cases hb : 0 < s.bits
  · have hp0 := hb1 hb
    obtain ⟨ad, rfl, hca⟩ := hR.int (k := s.pos - 1) (by omega)
    have hw : IntKind.i64.wrap ((s.pos : Int) - 1) = ((s.pos - 1 : Nat) : Int) := by rw [wrap_i64_in (by omega) (by omega)]; omega
    have hbi : (0 : Int) < (s.bits : Int) := by omega
    simp only [↓RD,↓c_seq,RU,RL,if_true,if_false,forall_const,implies_true,Nat.reduceLeDiff,Nat.reduceLT,pureOp,binPure,intBin,strBin,eqPure,isConstO,unPure,sliceLo,sliceHi,slicePure,slice3Pure,lenPure,capPure,minPure,maxPure,buildP,resK,endV,yieldE,↓reduceIte,Nat.reduceEqDiff,reduceCtorEq,Nat.reduceAdd,Nat.reduceMul,Nat.reduceSub,Int.reduceLT,Int.reduceLE,Int.reduceToNat,Int.reduceAdd,Int.reduceSub,Int.reduceMul,ne_eq,decide_true,decide_false,tf42, he0]
    refine wpDraw_still (by kernel_rfl) ?_
    simp only [↓RD,↓c_seq,RU,RL,if_true,if_false,forall_const,implies_true,Nat.reduceLeDiff,Nat.reduceLT,pureOp,binPure,intBin,strBin,eqPure,isConstO,unPure,sliceLo,sliceHi,slicePure,slice3Pure,lenPure,capPure,minPure,maxPure,buildP,resK,endV,yieldE,↓reduceIte,Nat.reduceEqDiff,reduceCtorEq,Nat.reduceAdd,Nat.reduceMul,Nat.reduceSub,Int.reduceLT,Int.reduceLE,Int.reduceToNat,Int.reduceAdd,Int.reduceSub,Int.reduceMul,ne_eq,decide_true,decide_false,tf42, he0, World.cell?_drew, hB.cell, hbi, hw]
    refine ⟨⟨by omega, by omega⟩, ?_⟩
    have hsh : shlOp .u8 (s.xs.getD (s.pos - 1) 0) (s.bits : Int) = s.xs.getD (s.pos - 1) 0 * 2 ^ s.bits % 256 := by
      rw [shl_eq .u8 _ s.bits (by simp [IntKind.bits]; omega) _ rfl, wrap_u8]
    simp only [↓RD,↓c_seq,RU,RL,if_true,if_false,forall_const,implies_true,Nat.reduceLeDiff,Nat.reduceLT,pureOp,binPure,intBin,strBin,eqPure,isConstO,unPure,sliceLo,sliceHi,slicePure,slice3Pure,lenPure,capPure,minPure,maxPure,buildP,resK,endV,yieldE,↓reduceIte,Nat.reduceEqDiff,reduceCtorEq,Nat.reduceAdd,Nat.reduceMul,Nat.reduceSub,Int.reduceLT,Int.reduceLE,Int.reduceToNat,Int.reduceAdd,Int.reduceSub,Int.reduceMul,ne_eq,decide_true,decide_false,tf42, he0, World.cell?_drew, hB.cell, hbi, hw, hca, hsh]
    refine ⟨by omega, ?_⟩
    try simp only [↓RD,↓c_seq,RU,RL,if_true,if_false,forall_const,implies_true,Nat.reduceLeDiff,Nat.reduceLT,pureOp,binPure,intBin,strBin,eqPure,isConstO,unPure,sliceLo,sliceHi,slicePure,slice3Pure,lenPure,capPure,minPure,maxPure,buildP,resK,endV,yieldE,↓reduceIte,Nat.reduceEqDiff,reduceCtorEq,Nat.reduceAdd,Nat.reduceMul,Nat.reduceSub,Int.reduceLT,Int.reduceLE,Int.reduceToNat,Int.reduceAdd,Int.reduceSub,Int.reduceMul,ne_eq,decide_true,decide_false,tf42, he0, World.cell?_drew, hB.cell, hbi, hw, hca, hsh]
    simp only [hb, decide_true, Bool.true_and] at h2
    exact h2
  · have hbi : ¬ (0 : Int) < (s.bits : Int) := by omega
    simp only [↓RD,↓c_seq,RU,RL,if_true,if_false,forall_const,implies_true,Nat.reduceLeDiff,Nat.reduceLT,pureOp,binPure,intBin,strBin,eqPure,isConstO,unPure,sliceLo,sliceHi,slicePure,slice3Pure,lenPure,capPure,minPure,maxPure,buildP,resK,endV,yieldE,↓reduceIte,Nat.reduceEqDiff,reduceCtorEq,Nat.reduceAdd,Nat.reduceMul,Nat.reduceSub,Int.reduceLT,Int.reduceLE,Int.reduceToNat,Int.reduceAdd,Int.reduceSub,Int.reduceMul,ne_eq,decide_true,decide_false,tf42, he0]
    refine wpDraw_still (by kernel_rfl) ?_
    simp only [↓RD,↓c_seq,RU,RL,if_true,if_false,forall_const,implies_true,Nat.reduceLeDiff,Nat.reduceLT,pureOp,binPure,intBin,strBin,eqPure,isConstO,unPure,sliceLo,sliceHi,slicePure,slice3Pure,lenPure,capPure,minPure,maxPure,buildP,resK,endV,yieldE,↓reduceIte,Nat.reduceEqDiff,reduceCtorEq,Nat.reduceAdd,Nat.reduceMul,Nat.reduceSub,Int.reduceLT,Int.reduceLE,Int.reduceToNat,Int.reduceAdd,Int.reduceSub,Int.reduceMul,ne_eq,decide_true,decide_false,tf42, he0, World.cell?_drew, hB.cell, hbi]
    simp only [hb, decide_false, Bool.false_and] at h2
    exact h2

theorem fail_ok {w : World} {F : Nat → Prop} {p : Nat} {s : RS} (hR : RAt w F p s) {er : Option (TypeId × Value)} {R : VWK}
    (h : ∀ w', RAt w' F p (rFail s er) → Keep (fun k => k = p) w w' → R (.tuple #[]) w') :
    CallsV Try.prog 68 [.pointer (some ⟨p, 0, none⟩), errV er] w R := by
  have hR0 := hR
  obtain ⟨A, c, hB, hR, hp, hc, rfl⟩ := hR
  refine calls_of_wpC mixed Try.func68 rfl (by kernel_rfl) ?_
  intro e he
  have he0 := he 0
  have he1 := he 1
  simp only [List.getD_cons_zero, List.getD_cons_succ] at he0 he1
  clear he
  unfold rFail at h
  cases hf : s.fault with
  | some x =>
    rw [if_neg (by simp [hf])] at h
    simp only [↓RD,↓c_seq,RU,RL,if_true,if_false,forall_const,implies_true,Nat.reduceLeDiff,Nat.reduceLT,pureOp,binPure,intBin,strBin,eqPure,isConstO,unPure,sliceLo,sliceHi,slicePure,slice3Pure,lenPure,capPure,minPure,maxPure,buildP,resK,endV,yieldE,↓reduceIte,Nat.reduceEqDiff,reduceCtorEq,Nat.reduceAdd,Nat.reduceMul,Nat.reduceSub,Int.reduceLT,Int.reduceLE,Int.reduceToNat,Int.reduceAdd,Int.reduceSub,Int.reduceMul,ne_eq,decide_true,decide_false,tf68, he0, hB.cell, hf, errV]
    exact h w hR0 (Keep.refl _ _)
  | none =>
    rw [if_pos hf] at h
    simp only [↓RD,↓c_seq,RU,RL,if_true,if_false,forall_const,implies_true,Nat.reduceLeDiff,Nat.reduceLT,pureOp,binPure,intBin,strBin,eqPure,isConstO,unPure,sliceLo,sliceHi,slicePure,slice3Pure,lenPure,capPure,minPure,maxPure,buildP,resK,endV,yieldE,↓reduceIte,Nat.reduceEqDiff,reduceCtorEq,Nat.reduceAdd,Nat.reduceMul,Nat.reduceSub,Int.reduceLT,Int.reduceLE,Int.reduceToNat,Int.reduceAdd,Int.reduceSub,Int.reduceMul,ne_eq,decide_true,decide_false,tf68, he0, he1, hB.cell, hf, errV]
    have hst := hB.set 3 (errV er)
    have hk := Keep.set1 w p 3 (errV er)
    have fin := h _ ⟨A, c, by simpa [hf] using hst, hR.keep0 hk (fun h0 k hf e => hp h0 (e ▸ hf)), hp, hc, rfl⟩ hk
    cases er with
    | none =>
      try simp only [↓RD,↓c_seq,RU,RL,if_true,if_false,forall_const,implies_true,Nat.reduceLeDiff,Nat.reduceLT,pureOp,binPure,intBin,strBin,eqPure,isConstO,unPure,sliceLo,sliceHi,slicePure,slice3Pure,lenPure,capPure,minPure,maxPure,buildP,resK,endV,yieldE,↓reduceIte,Nat.reduceEqDiff,reduceCtorEq,Nat.reduceAdd,Nat.reduceMul,Nat.reduceSub,Int.reduceLT,Int.reduceLE,Int.reduceToNat,Int.reduceAdd,Int.reduceSub,Int.reduceMul,ne_eq,decide_true,decide_false,tf68, he0, he1, hB.cell, hf, errV]
      refine hB.st (by simp) ?_
      try simp only [↓RD,↓c_seq,RU,RL,if_true,if_false,forall_const,implies_true,Nat.reduceLeDiff,Nat.reduceLT,pureOp,binPure,intBin,strBin,eqPure,isConstO,unPure,sliceLo,sliceHi,slicePure,slice3Pure,lenPure,capPure,minPure,maxPure,buildP,resK,endV,yieldE,↓reduceIte,Nat.reduceEqDiff,reduceCtorEq,Nat.reduceAdd,Nat.reduceMul,Nat.reduceSub,Int.reduceLT,Int.reduceLE,Int.reduceToNat,Int.reduceAdd,Int.reduceSub,Int.reduceMul,ne_eq,decide_true,decide_false,tf68, he0]
      exact fin
    | some x =>
      try simp only [↓RD,↓c_seq,RU,RL,if_true,if_false,forall_const,implies_true,Nat.reduceLeDiff,Nat.reduceLT,pureOp,binPure,intBin,strBin,eqPure,isConstO,unPure,sliceLo,sliceHi,slicePure,slice3Pure,lenPure,capPure,minPure,maxPure,buildP,resK,endV,yieldE,↓reduceIte,Nat.reduceEqDiff,reduceCtorEq,Nat.reduceAdd,Nat.reduceMul,Nat.reduceSub,Int.reduceLT,Int.reduceLE,Int.reduceToNat,Int.reduceAdd,Int.reduceSub,Int.reduceMul,ne_eq,decide_true,decide_false,tf68, he0, he1, hB.cell, hf, errV]
      refine hB.st (by simp) ?_
      try simp only [↓RD,↓c_seq,RU,RL,if_true,if_false,forall_const,implies_true,Nat.reduceLeDiff,Nat.reduceLT,pureOp,binPure,intBin,strBin,eqPure,isConstO,unPure,sliceLo,sliceHi,slicePure,slice3Pure,lenPure,capPure,minPure,maxPure,buildP,resK,endV,yieldE,↓reduceIte,Nat.reduceEqDiff,reduceCtorEq,Nat.reduceAdd,Nat.reduceMul,Nat.reduceSub,Int.reduceLT,Int.reduceLE,Int.reduceToNat,Int.reduceAdd,Int.reduceSub,Int.reduceMul,ne_eq,decide_true,decide_false,tf68, he0]
      exact fin

theorem begin_ok {w : World} {F : Nat → Prop} {p : Nat} {s : RS} (hR : RAt w F p s) (ok : RSok s) {R : VWK}
    (h : ∀ w', RAt w' F p (rBegin s).1 → Keep (fun k => k = p) w w' → R (.bool (rBegin s).2) w') :
    CallsV Try.prog 66 [.pointer (some ⟨p, 0, none⟩)] w R := by
  have hR0 := hR
  obtain ⟨A, c, hB, hR, hp, hc, rfl⟩ := hR
  refine calls_of_wpC mixed Try.func66 rfl (by kernel_rfl) ?_
  intro e he
  have he0 := he 0
  simp only [List.getD_cons_zero, List.getD_cons_succ] at he0
  clear he
  unfold rBegin at h
  have hle := ok.le
  have hb1 := ok.b1
  have hln := ok.len
  cases hf : s.fault with
  | some x =>
    rw [if_pos (by simp [hf])] at h
    simp only [↓RD,↓c_seq,RU,RL,if_true,if_false,forall_const,implies_true,Nat.reduceLeDiff,Nat.reduceLT,pureOp,binPure,intBin,strBin,eqPure,isConstO,unPure,sliceLo,sliceHi,slicePure,slice3Pure,lenPure,capPure,minPure,maxPure,buildP,resK,endV,yieldE,↓reduceIte,Nat.reduceEqDiff,reduceCtorEq,Nat.reduceAdd,Nat.reduceMul,Nat.reduceSub,Int.reduceLT,Int.reduceLE,Int.reduceToNat,Int.reduceAdd,Int.reduceSub,Int.reduceMul,ne_eq,decide_true,decide_false,tf66, he0, hB.cell, hf, errV]
    exact h w hR0 (Keep.refl _ _)
  | none =>
    rw [if_neg (by simp [hf])] at h
    simp only [↓RD,↓c_seq,RU,RL,if_true,if_false,forall_const,implies_true,Nat.reduceLeDiff,Nat.reduceLT,pureOp,binPure,intBin,strBin,eqPure,isConstO,unPure,sliceLo,sliceHi,slicePure,slice3Pure,lenPure,capPure,minPure,maxPure,buildP,resK,endV,yieldE,↓reduceIte,Nat.reduceEqDiff,reduceCtorEq,Nat.reduceAdd,Nat.reduceMul,Nat.reduceSub,Int.reduceLT,Int.reduceLE,Int.reduceToNat,Int.reduceAdd,Int.reduceSub,Int.reduceMul,ne_eq,decide_true,decide_false,tf66, he0, hB.cell, hf, errV]
    refine rest_ok hR0 ok (fun w1 g1 => ?_)
    have hR1 := hR0.grow g1
    cases hr : rRest s with
    | false =>
      rw [hr] at h
      simp only [↓RD,↓c_seq,RU,RL,if_true,if_false,forall_const,implies_true,Nat.reduceLeDiff,Nat.reduceLT,pureOp,binPure,intBin,strBin,eqPure,isConstO,unPure,sliceLo,sliceHi,slicePure,slice3Pure,lenPure,capPure,minPure,maxPure,buildP,resK,endV,yieldE,↓reduceIte,Nat.reduceEqDiff,reduceCtorEq,Nat.reduceAdd,Nat.reduceMul,Nat.reduceSub,Int.reduceLT,Int.reduceLE,Int.reduceToNat,Int.reduceAdd,Int.reduceSub,Int.reduceMul,ne_eq,decide_true,decide_false,tf66, he0]
      exact h w1 hR1 (Keep.mono g1 (fun _ _ h => h.elim))
    | true =>
      rw [hr] at h
      have hb : 0 < s.bits := by simp [rRest] at hr; exact hr.1
      have hp0 := hb1 hb
      have hw : IntKind.i64.wrap ((s.pos : Int) - 1) = ((s.pos - 1 : Nat) : Int) := by rw [wrap_i64_in (by omega) (by omega)]; omega
      simp only [↓RD,↓c_seq,RU,RL,if_true,if_false,forall_const,implies_true,Nat.reduceLeDiff,Nat.reduceLT,pureOp,binPure,intBin,strBin,eqPure,isConstO,unPure,sliceLo,sliceHi,slicePure,slice3Pure,lenPure,capPure,minPure,maxPure,buildP,resK,endV,yieldE,↓reduceIte,Nat.reduceEqDiff,reduceCtorEq,Nat.reduceAdd,Nat.reduceMul,Nat.reduceSub,Int.reduceLT,Int.reduceLE,Int.reduceToNat,Int.reduceAdd,Int.reduceSub,Int.reduceMul,ne_eq,decide_true,decide_false,tf66, he0, (hB.grow g1).cell, hw]
      refine fat_ok (by decide) ?_
      simp only [↓RD,↓c_seq,RU,RL,if_true,if_false,forall_const,implies_true,Nat.reduceLeDiff,Nat.reduceLT,pureOp,binPure,intBin,strBin,eqPure,isConstO,unPure,sliceLo,sliceHi,slicePure,slice3Pure,lenPure,capPure,minPure,maxPure,buildP,resK,endV,yieldE,↓reduceIte,Nat.reduceEqDiff,reduceCtorEq,Nat.reduceAdd,Nat.reduceMul,Nat.reduceSub,Int.reduceLT,Int.reduceLE,Int.reduceToNat,Int.reduceAdd,Int.reduceSub,Int.reduceMul,ne_eq,decide_true,decide_false,tf66, he0]
      refine fail_ok hR1 (fun w2 hR2 k2 => ?_)
      simp only [↓RD,↓c_seq,RU,RL,if_true,if_false,forall_const,implies_true,Nat.reduceLeDiff,Nat.reduceLT,pureOp,binPure,intBin,strBin,eqPure,isConstO,unPure,sliceLo,sliceHi,slicePure,slice3Pure,lenPure,capPure,minPure,maxPure,buildP,resK,endV,yieldE,↓reduceIte,Nat.reduceEqDiff,reduceCtorEq,Nat.reduceAdd,Nat.reduceMul,Nat.reduceSub,Int.reduceLT,Int.reduceLE,Int.reduceToNat,Int.reduceAdd,Int.reduceSub,Int.reduceMul,ne_eq,decide_true,decide_false,tf66, he0]
      exact h w2 hR2 (g1.then k2)

theorem cleft_ok {w : World} {F : Nat → Prop} {p : Nat} {s : RS} (hR : RAt w F p s) (ok : RSok s) {R : VWK} (h : ∀ w', Grow w w' → R (.int .i64 (s.xs.length - s.pos : Nat)) w') :
    CallsV Try.prog 70 [.pointer (some ⟨p, 0, none⟩)] w R := by
  obtain ⟨A, c, hB, hR, hp, hc, rfl⟩ := hR
  have hle := ok.le
  have hln := ok.len
  refine calls_of_wpC mixed Try.func70 rfl (by kernel_rfl) ?_
  intro e he
  have he0 := he 0
  simp only [List.getD_cons_zero, List.getD_cons_succ] at he0
  clear he
  have hw : IntKind.i64.wrap ((s.xs.length : Int) - s.pos) = ((s.xs.length - s.pos : Nat) : Int) := by rw [wrap_i64_in (by omega) (by omega)]; omega
  simp only [↓RD,↓c_seq,RU,RL,if_true,if_false,forall_const,implies_true,Nat.reduceLeDiff,Nat.reduceLT,pureOp,binPure,intBin,strBin,eqPure,isConstO,unPure,sliceLo,sliceHi,slicePure,slice3Pure,lenPure,capPure,minPure,maxPure,buildP,resK,endV,yieldE,↓reduceIte,Nat.reduceEqDiff,reduceCtorEq,Nat.reduceAdd,Nat.reduceMul,Nat.reduceSub,Int.reduceLT,Int.reduceLE,Int.reduceToNat,Int.reduceAdd,Int.reduceSub,Int.reduceMul,ne_eq,decide_true,decide_false,tf70, he0]
  refine wpDraw_still (by kernel_rfl) ?_
  simp only [↓RD,↓c_seq,RU,RL,if_true,if_false,forall_const,implies_true,Nat.reduceLeDiff,Nat.reduceLT,pureOp,binPure,intBin,strBin,eqPure,isConstO,unPure,sliceLo,sliceHi,slicePure,slice3Pure,lenPure,capPure,minPure,maxPure,buildP,resK,endV,yieldE,↓reduceIte,Nat.reduceEqDiff,reduceCtorEq,Nat.reduceAdd,Nat.reduceMul,Nat.reduceSub,Int.reduceLT,Int.reduceLE,Int.reduceToNat,Int.reduceAdd,Int.reduceSub,Int.reduceMul,ne_eq,decide_true,decide_false,tf70, he0, World.cell?_drew, hB.cell, hw]
  exact h _ (Grow.drew w)

theorem left_ok {w : World} {F : Nat → Prop} {p : Nat} {s : RS} (hR : RAt w F p s) (ok : RSok s) {R : VWK} (h : ∀ w', Grow w w' → R (.int .i64 (s.xs.length - s.pos : Nat)) w') :
    CallsV Try.prog 44 [.pointer (some ⟨p, 0, none⟩)] w R := by
  refine calls_of_wpC mixed Try.func44 rfl (by kernel_rfl) ?_
  intro e he
  have he0 := he 0
  simp only [List.getD_cons_zero, List.getD_cons_succ] at he0
  clear he
  simp only [↓RD,↓c_seq,RU,RL,if_true,if_false,forall_const,implies_true,Nat.reduceLeDiff,Nat.reduceLT,pureOp,binPure,intBin,strBin,eqPure,isConstO,unPure,sliceLo,sliceHi,slicePure,slice3Pure,lenPure,capPure,minPure,maxPure,buildP,resK,endV,yieldE,↓reduceIte,Nat.reduceEqDiff,reduceCtorEq,Nat.reduceAdd,Nat.reduceMul,Nat.reduceSub,Int.reduceLT,Int.reduceLE,Int.reduceToNat,Int.reduceAdd,Int.reduceSub,Int.reduceMul,ne_eq,decide_true,decide_false,tf44, he0]
  refine cleft_ok hR ok (fun w1 g1 => ?_)
  simp only [↓RD,↓c_seq,RU,RL,if_true,if_false,forall_const,implies_true,Nat.reduceLeDiff,Nat.reduceLT,pureOp,binPure,intBin,strBin,eqPure,isConstO,unPure,sliceLo,sliceHi,slicePure,slice3Pure,lenPure,capPure,minPure,maxPure,buildP,resK,endV,yieldE,↓reduceIte,Nat.reduceEqDiff,reduceCtorEq,Nat.reduceAdd,Nat.reduceMul,Nat.reduceSub,Int.reduceLT,Int.reduceLE,Int.reduceToNat,Int.reduceAdd,Int.reduceSub,Int.reduceMul,ne_eq,decide_true,decide_false,tf44, he0]
  exact h w1 g1

theorem take_ok {w : World} {F : Nat → Prop} {p : Nat} {s : RS} (hR : RAt w F p s) (ok : RSok s) {n : Nat} (hn : n ≤ 140737488355328) {R : VWK}
    (h : ∀ w' A' c', RAt w' F p (rTake n s).1 → Rd w' A' (rTake n s).2.length 1 ((rTake n s).2.map (Value.int .u8)) → (0 < (rTake n s).2.length → ∀ k, fpA A' k → F k ∧ k ≠ p) → Keep (fun k => k = p) w w' →
      R (.slice A' (rTake n s).2.length c') w') :
    CallsV Try.prog 69 [.pointer (some ⟨p, 0, none⟩), .int .i64 n] w R := by
  have hle := ok.le
  have hln := ok.len
  refine calls_of_wpC mixed Try.func69 rfl (by kernel_rfl) ?_
  intro e he
  have he0 := he 0
  have he1 := he 1
  simp only [List.getD_cons_zero, List.getD_cons_succ] at he0 he1
  clear he
  simp only [↓RD,↓c_seq,RU,RL,if_true,if_false,forall_const,implies_true,Nat.reduceLeDiff,Nat.reduceLT,pureOp,binPure,intBin,strBin,eqPure,isConstO,unPure,sliceLo,sliceHi,slicePure,slice3Pure,lenPure,capPure,minPure,maxPure,buildP,resK,endV,yieldE,↓reduceIte,Nat.reduceEqDiff,reduceCtorEq,Nat.reduceAdd,Nat.reduceMul,Nat.reduceSub,Int.reduceLT,Int.reduceLE,Int.reduceToNat,Int.reduceAdd,Int.reduceSub,Int.reduceMul,ne_eq,decide_true,decide_false,tf69, he0]
  unfold rTake at h
  refine begin_ok hR ok (fun w1 hR1 k1 => ?_)
  cases hb : (rBegin s).2 with
  | false =>
    rw [if_neg (by simp [hb])] at h
    simp only [↓RD,↓c_seq,RU,RL,if_true,if_false,forall_const,implies_true,Nat.reduceLeDiff,Nat.reduceLT,pureOp,binPure,intBin,strBin,eqPure,isConstO,unPure,sliceLo,sliceHi,slicePure,slice3Pure,lenPure,capPure,minPure,maxPure,buildP,resK,endV,yieldE,↓reduceIte,Nat.reduceEqDiff,reduceCtorEq,Nat.reduceAdd,Nat.reduceMul,Nat.reduceSub,Int.reduceLT,Int.reduceLE,Int.reduceToNat,Int.reduceAdd,Int.reduceSub,Int.reduceMul,ne_eq,decide_true,decide_false,tf69, he0]
    exact h w1 none 0 hR1 (Rd.nil _ _ _) (fun h0 => absurd h0 (by simp)) k1
  | true =>
    rw [if_pos hb] at h
    obtain ⟨e1, _, _⟩ := rBegin_true hb
    rw [e1] at hR1
    simp only [↓RD,↓c_seq,RU,RL,if_true,if_false,forall_const,implies_true,Nat.reduceLeDiff,Nat.reduceLT,pureOp,binPure,intBin,strBin,eqPure,isConstO,unPure,sliceLo,sliceHi,slicePure,slice3Pure,lenPure,capPure,minPure,maxPure,buildP,resK,endV,yieldE,↓reduceIte,Nat.reduceEqDiff,reduceCtorEq,Nat.reduceAdd,Nat.reduceMul,Nat.reduceSub,Int.reduceLT,Int.reduceLE,Int.reduceToNat,Int.reduceAdd,Int.reduceSub,Int.reduceMul,ne_eq,decide_true,decide_false,tf69, he0]
    refine left_ok hR1 ok (fun w2 g2 => ?_)
    have hR2 := hR1.grow g2
    have k2 := k1.then_grow g2
    simp only [↓RD,↓c_seq,RU,RL,if_true,if_false,forall_const,implies_true,Nat.reduceLeDiff,Nat.reduceLT,pureOp,binPure,intBin,strBin,eqPure,isConstO,unPure,sliceLo,sliceHi,slicePure,slice3Pure,lenPure,capPure,minPure,maxPure,buildP,resK,endV,yieldE,↓reduceIte,Nat.reduceEqDiff,reduceCtorEq,Nat.reduceAdd,Nat.reduceMul,Nat.reduceSub,Int.reduceLT,Int.reduceLE,Int.reduceToNat,Int.reduceAdd,Int.reduceSub,Int.reduceMul,ne_eq,decide_true,decide_false,tf69, he0, he1]
    refine ⟨fun hlt => ?_, fun hge => ?_⟩
    · rw [if_pos (by omega)] at h
      obtain ⟨A, c, hB, hRd, hp, hc, hF⟩ := id hR2
      try simp only [↓RD,↓c_seq,RU,RL,if_true,if_false,forall_const,implies_true,Nat.reduceLeDiff,Nat.reduceLT,pureOp,binPure,intBin,strBin,eqPure,isConstO,unPure,sliceLo,sliceHi,slicePure,slice3Pure,lenPure,capPure,minPure,maxPure,buildP,resK,endV,yieldE,↓reduceIte,Nat.reduceEqDiff,reduceCtorEq,Nat.reduceAdd,Nat.reduceMul,Nat.reduceSub,Int.reduceLT,Int.reduceLE,Int.reduceToNat,Int.reduceAdd,Int.reduceSub,Int.reduceMul,ne_eq,decide_true,decide_false,tf69, he0, he1, hB.cell]
      refine fat_ok (by decide) ?_
      simp only [↓RD,↓c_seq,RU,RL,if_true,if_false,forall_const,implies_true,Nat.reduceLeDiff,Nat.reduceLT,pureOp,binPure,intBin,strBin,eqPure,isConstO,unPure,sliceLo,sliceHi,slicePure,slice3Pure,lenPure,capPure,minPure,maxPure,buildP,resK,endV,yieldE,↓reduceIte,Nat.reduceEqDiff,reduceCtorEq,Nat.reduceAdd,Nat.reduceMul,Nat.reduceSub,Int.reduceLT,Int.reduceLE,Int.reduceToNat,Int.reduceAdd,Int.reduceSub,Int.reduceMul,ne_eq,decide_true,decide_false,tf69, he0, he1]
      refine fail_ok hR2 (fun w3 hR3 k3 => ?_)
      simp only [↓RD,↓c_seq,RU,RL,if_true,if_false,forall_const,implies_true,Nat.reduceLeDiff,Nat.reduceLT,pureOp,binPure,intBin,strBin,eqPure,isConstO,unPure,sliceLo,sliceHi,slicePure,slice3Pure,lenPure,capPure,minPure,maxPure,buildP,resK,endV,yieldE,↓reduceIte,Nat.reduceEqDiff,reduceCtorEq,Nat.reduceAdd,Nat.reduceMul,Nat.reduceSub,Int.reduceLT,Int.reduceLE,Int.reduceToNat,Int.reduceAdd,Int.reduceSub,Int.reduceMul,ne_eq,decide_true,decide_false,tf69, he0, he1]
      exact h w3 none 0 hR3 (Rd.nil _ _ _) (fun h0 => absurd h0 (by simp)) (k2.trans k3 (fun _ _ h => h) (fun _ _ h => h))
    · rw [if_neg (by omega)] at h
      obtain ⟨A, c, hB, hRd, hp, hc, hF⟩ := hR2
      have hw : IntKind.i64.wrap ((s.pos : Int) + n) = ((s.pos + n : Nat) : Int) := by rw [wrap_i64_in (by omega) (by omega)]; omega
      try simp only [↓RD,↓c_seq,RU,RL,if_true,if_false,forall_const,implies_true,Nat.reduceLeDiff,Nat.reduceLT,pureOp,binPure,intBin,strBin,eqPure,isConstO,unPure,sliceLo,sliceHi,slicePure,slice3Pure,lenPure,capPure,minPure,maxPure,buildP,resK,endV,yieldE,↓reduceIte,Nat.reduceEqDiff,reduceCtorEq,Nat.reduceAdd,Nat.reduceMul,Nat.reduceSub,Int.reduceLT,Int.reduceLE,Int.reduceToNat,Int.reduceAdd,Int.reduceSub,Int.reduceMul,ne_eq,decide_true,decide_false,tf69, he0, he1, hB.cell, hw]
      refine hB.st (by simp) ?_
      have hB3 := hB.set 1 (.int .i64 ((s.pos + n : Nat) : Int))
      try simp only [↓RD,↓c_seq,RU,RL,if_true,if_false,forall_const,implies_true,Nat.reduceLeDiff,Nat.reduceLT,pureOp,binPure,intBin,strBin,eqPure,isConstO,unPure,sliceLo,sliceHi,slicePure,slice3Pure,lenPure,capPure,minPure,maxPure,buildP,resK,endV,yieldE,↓reduceIte,Nat.reduceEqDiff,reduceCtorEq,Nat.reduceAdd,Nat.reduceMul,Nat.reduceSub,Int.reduceLT,Int.reduceLE,Int.reduceToNat,Int.reduceAdd,Int.reduceSub,Int.reduceMul,ne_eq,decide_true,decide_false,tf69, he0, he1]
      refine hB3.st (by simp) ?_
      have hB4 := hB3.set 2 (.int .i64 0)
      have k3 := Keep.set1 w2 p 1 (.int .i64 ((s.pos + n : Nat) : Int))
      have k4 := Keep.set1 (w2.setCell ⟨p, 1, none⟩ (.int .i64 ((s.pos + n : Nat) : Int))) p 2 (.int .i64 0)
      have k34 := k3.trans k4 (H := fun k => k = p) (fun _ _ h => h) (fun _ _ h => h)
      have hRd4 := hRd.keep0 k34 (fun h0 k hk e => hp h0 (e ▸ hk))
      have kw := k2.trans k34 (H := fun k => k = p) (fun _ _ h => h) (fun _ _ h => h)
      generalize ((w2.setCell ⟨p, 1, none⟩ (.int .i64 ((s.pos + n : Nat) : Int))).setCell ⟨p, 2, none⟩ (.int .i64 0)) = w4 at hB4 hRd4 kw
      have hw2 : IntKind.i64.wrap (((s.pos + n : Nat) : Int) - n) = (s.pos : Int) := by rw [wrap_i64_in (by omega) (by omega)]; omega
      try simp only [↓RD,↓c_seq,RU,RL,if_true,if_false,forall_const,implies_true,Nat.reduceLeDiff,Nat.reduceLT,pureOp,binPure,intBin,strBin,eqPure,isConstO,unPure,sliceLo,sliceHi,slicePure,slice3Pure,lenPure,capPure,minPure,maxPure,buildP,resK,endV,yieldE,↓reduceIte,Nat.reduceEqDiff,reduceCtorEq,Nat.reduceAdd,Nat.reduceMul,Nat.reduceSub,Int.reduceLT,Int.reduceLE,Int.reduceToNat,Int.reduceAdd,Int.reduceSub,Int.reduceMul,ne_eq,decide_true,decide_false,tf69, he0, he1]
      refine wpDraw_still (by kernel_rfl) ?_
      simp only [↓RD,↓c_seq,RU,RL,if_true,if_false,forall_const,implies_true,Nat.reduceLeDiff,Nat.reduceLT,pureOp,binPure,intBin,strBin,eqPure,isConstO,unPure,sliceLo,sliceHi,slicePure,slice3Pure,lenPure,capPure,minPure,maxPure,buildP,resK,endV,yieldE,↓reduceIte,Nat.reduceEqDiff,reduceCtorEq,Nat.reduceAdd,Nat.reduceMul,Nat.reduceSub,Int.reduceLT,Int.reduceLE,Int.reduceToNat,Int.reduceAdd,Int.reduceSub,Int.reduceMul,ne_eq,decide_true,decide_false,tf69, he0, he1, World.cell?_drew, hB4.cell, hw2]
      refine ⟨⟨by omega, by omega, by omega⟩, ?_⟩
      try simp only [↓RD,↓c_seq,RU,RL,if_true,if_false,forall_const,implies_true,Nat.reduceLeDiff,Nat.reduceLT,pureOp,binPure,intBin,strBin,eqPure,isConstO,unPure,sliceLo,sliceHi,slicePure,slice3Pure,lenPure,capPure,minPure,maxPure,buildP,resK,endV,yieldE,↓reduceIte,Nat.reduceEqDiff,reduceCtorEq,Nat.reduceAdd,Nat.reduceMul,Nat.reduceSub,Int.reduceLT,Int.reduceLE,Int.reduceToNat,Int.reduceAdd,Int.reduceSub,Int.reduceMul,ne_eq,decide_true,decide_false,tf69, he0, he1]
      have hm : ((s.xs.drop s.pos).take n).length = n := by rw [List.length_take, List.length_drop]; omega
      have hcut := (Rd.drew hRd4).cut (k := s.pos) (m := s.pos + n) (cap := c) (by omega) (by omega) hc
      rw [hm] at h
      have e5 : s.pos + n - s.pos = n := by omega
      rw [e5] at hcut ⊢
      refine h _ _ _ ⟨A, c, by simpa using hB4.drew, hRd4.drew, hp, hc, hF⟩ ?_ ?_ (kw.then_grow (Grow.drew w4))
      · simpa [← List.map_drop, ← List.map_take] using hcut
      · intro h0 k hk
        have hk2 := fpA_cut hk
        refine ⟨by rw [hF]; exact .inr ⟨by omega, hk2⟩, ?_⟩
        rintro rfl
        exact hp (by omega) hk2

theorem beNat_snoc (l : List Int) (c : Int) : beNat (l ++ [c]) = beNat l * 256 + c := by simp [beNat]
theorem beNat_range : ∀ (k : Nat) (l : List Int), (∀ z ∈ l, 0 ≤ z ∧ z < 256) → l.length ≤ k → 0 ≤ beNat l ∧ beNat l < 256 ^ l.length := by
  intro k
  induction k with
  | zero =>
    intro l h hl
    obtain rfl := List.eq_nil_of_length_eq_zero (by omega : l.length = 0)
    simp [beNat]
  | succ k ih =>
    intro l h hl
    rcases List.eq_nil_or_concat l with rfl | ⟨l', c, rfl⟩
    · simp [beNat]
    · rw [List.concat_eq_append] at *
      have h1 := ih l' (fun z hz => h z (by simp [hz])) (by simp at hl; omega)
      have h2 := h c (by simp)
      rw [beNat_snoc, List.length_append, List.length_singleton, Int.pow_succ]
      omega
theorem newReader_ok {w : World} {A : Option Addr} {n c : Nat} {xs : List Int} (hR : Rd w A n 1 (xs.map (Value.int .u8))) (hb : n ≤ 140737488355328) {R : VWK}
    (h : ∀ w' F p, RAt w' F p ⟨xs, 0, 0, none⟩ → Grow w w' → (∀ k, F k → w.heap.size ≤ k) → R (.pointer (some ⟨p, 0, none⟩)) w') :
    CallsV Try.prog 21 [.slice A n c] w R := by
  have hl := hR.len1
  refine calls_of_wpC mixed Try.func21 rfl (by kernel_rfl) ?_
  intro e he
  have he0 := he 0
  simp only [List.getD_cons_zero, List.getD_cons_succ] at he0
  clear he
  simp only [↓RD,↓c_seq,RU,RL,if_true,if_false,forall_const,implies_true,Nat.reduceLeDiff,Nat.reduceLT,pureOp,binPure,intBin,strBin,eqPure,isConstO,unPure,sliceLo,sliceHi,slicePure,slice3Pure,lenPure,capPure,minPure,maxPure,buildP,resK,endV,yieldE,↓reduceIte,Nat.reduceEqDiff,reduceCtorEq,Nat.reduceAdd,Nat.reduceMul,Nat.reduceSub,Int.reduceLT,Int.reduceLE,Int.reduceToNat,Int.reduceAdd,Int.reduceSub,Int.reduceMul,ne_eq,decide_true,decide_false,tf21, he0]
  refine clone_ok hR hb (fun w1 A1 c1 hO g1 hF => ?_)
  simp only [↓RD,↓c_seq,RU,RL,if_true,if_false,forall_const,implies_true,Nat.reduceLeDiff,Nat.reduceLT,pureOp,binPure,intBin,strBin,eqPure,isConstO,unPure,sliceLo,sliceHi,slicePure,slice3Pure,lenPure,capPure,minPure,maxPure,buildP,resK,endV,yieldE,↓reduceIte,Nat.reduceEqDiff,reduceCtorEq,Nat.reduceAdd,Nat.reduceMul,Nat.reduceSub,Int.reduceLT,Int.reduceLE,Int.reduceToNat,Int.reduceAdd,Int.reduceSub,Int.reduceMul,ne_eq,decide_true,decide_false,tf21, he0]
  obtain ⟨A2, c2, e2, hc2, _⟩ := own_form hO
  simp only [Value.slice.injEq, true_and] at e2
  obtain ⟨rfl, rfl⟩ := e2
  have hR1 : Rd w1 A1 n 1 (xs.map (Value.int .u8)) := Rd.of_own hO
  subst hl
  refine h _ (fun k => k = w1.heap.size ∨ (0 < xs.length ∧ fpA A1 k)) w1.heap.size ⟨A1, c1, Blk.new' w1 _ _, hR1.grow (Grow.alloc _ _), ?_, hc2, rfl⟩ (g1.trans (Grow.alloc _ _)) ?_
  · intro h0 hf
    have := hR1.lt h0 (by omega) _ hf
    omega
  · rintro k (rfl | ⟨_, hk⟩)
    · exact g1.size
    · exact hF k hk

end Go.Proofs.Ytpocfghkolppmaa
