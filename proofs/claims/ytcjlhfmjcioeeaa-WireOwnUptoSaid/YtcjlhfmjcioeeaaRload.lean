/- Bytes read with their length by wire.Reader: load, Raw, Text. -/
import Derived.Test.YtcjlhfmjcioeeaaRmore
set_option linter.unusedVariables false
set_option linter.unusedSimpArgs false
set_option maxRecDepth 100000
namespace Go.Proofs.Ytcjlhfmjcioeeaa
open Go

def rLong (most : Int) (s q : RS) : RS := if q.fault = none ∧ most < 0 then rFail q (errAt s.pos 6) else q
def rShort (n : Int) (q : RS) : RS := if q.fault = none ∧ ((q.xs.length - q.pos : Nat) : Int) < n then rFail q (errAt q.xs.length 30) else q
def rBack (s q : RS) : RS := { q with pos := s.pos, bits := s.bits }
def rLim (most : Int) : Int := if most > 0 then most else 0
def rLoadN (most : Int) (s : RS) : Int := (rNumber (rLim most) 6 s).2
def rLoadS (most : Int) (s : RS) : RS := rShort (rLoadN most s) (rLong most s (rNumber (rLim most) 6 s).1)
def rLoad (most : Int) (s : RS) : RS × List Int :=
  if (rBegin s).2 then
    if (rLoadS most s).fault ≠ none then (rBack s (rLoadS most s), [])
    else rTake (rLoadN most s).toNat (rLoadS most s)
  else ((rBegin s).1, [])
theorem rFail_xs (s : RS) (e : Option (TypeId × Value)) : (rFail s e).xs = s.xs := by unfold rFail; split <;> rfl
theorem rBegin_xs (s : RS) : (rBegin s).1.xs = s.xs := by unfold rBegin; split; rfl; split; exact rFail_xs _ _; rfl
theorem rNumber_xs (m a : Int) (s : RS) : (rNumber m a s).1.xs = s.xs := by
  unfold rNumber
  split
  · split
    · exact rFail_xs _ _
    · split
      · exact rFail_xs _ _
      · rfl
  · exact rBegin_xs s
theorem rLong_xs (m : Int) (s q : RS) : (rLong m s q).xs = q.xs := by unfold rLong; split; exact rFail_xs _ _; rfl
theorem rShort_xs (n : Int) (q : RS) : (rShort n q).xs = q.xs := by unfold rShort; split; exact rFail_xs _ _; rfl
theorem RSok.long {q : RS} (h : RSok q) (m : Int) (s : RS) : RSok (rLong m s q) := by unfold rLong; split; exact h.fail _; exact h
theorem RSok.short {q : RS} (h : RSok q) (n : Int) : RSok (rShort n q) := by unfold rShort; split; exact h.fail _; exact h
theorem RSok.back {s q : RS} (h : RSok q) (hs : RSok s) (hx : q.xs = s.xs) : RSok (rBack s q) := ⟨by simp only [rBack, hx]; exact hs.le, hs.b8, hs.b1, h.len, h.bytes⟩
theorem RSok.loadS {s : RS} (h : RSok s) (most : Int) : RSok (rLoadS most s) := ((h.number _ _).long _ _).short _
theorem rLoadS_xs (most : Int) (s : RS) : (rLoadS most s).xs = s.xs := by rw [rLoadS, rShort_xs, rLong_xs, rNumber_xs]
theorem RSok.load {s : RS} (h : RSok s) (most : Int) : RSok (rLoad most s).1 := by
  unfold rLoad
  split
  · split
    · exact (h.loadS most).back h (rLoadS_xs most s)
    · exact (h.loadS most).take _
  · exact h.begin

theorem load_ok {w : World} {F : Nat → Prop} {p : Nat} {s : RS} (hR : RAt w F p s) (ok : RSok s) {most : Int} (m0 : -9223372036854775808 ≤ most) (m1 : most < 9223372036854775808) {R : VWK}
    (h : ∀ w' A' c', RAt w' F p (rLoad most s).1 → Rd w' A' (rLoad most s).2.length 1 ((rLoad most s).2.map (Value.int .u8)) → (0 < (rLoad most s).2.length → ∀ k, fpA A' k → F k ∧ k ≠ p) → Keep (fun k => k = p) w w' →
      R (.slice A' (rLoad most s).2.length c') w') :
    CallsV Try.prog 48 [.pointer (some ⟨p, 0, none⟩), .int .i64 most] w R := by
  have hle := ok.le
  have hln := ok.len
  refine calls_of_wpC mixed Try.func48 rfl (by kernel_rfl) ?_
  intro e he
  have he0 := he 0
  have he1 := he 1
  simp only [List.getD_cons_zero, List.getD_cons_succ] at he0 he1
  clear he
  simp -dsimp only [↓RE,↓c_seq,RU,RL,if_true,if_false,forall_const,implies_true,Nat.reduceLeDiff,Nat.reduceLT,pureOp,binPure,intBin,strBin,eqPure,isConstO,unPure,sliceLo,sliceHi,slicePure,lenPure,minPure,maxPure,buildP,resK,endV,yieldE,↓reduceIte,Nat.reduceEqDiff,reduceCtorEq,Nat.reduceAdd,Nat.reduceMul,Nat.reduceSub,Int.reduceLT,Int.reduceLE,Int.reduceToNat,Int.reduceAdd,Int.reduceSub,Int.reduceMul,ne_eq,decide_true,decide_false,tf48, he0]
  unfold rLoad at h
  refine begin_ok hR ok (fun w1 hR1 k1 => ?_)
  cases hb : (rBegin s).2 with
  | false =>
    rw [if_neg (by simp [hb])] at h
    simp -dsimp only [↓RE,↓c_seq,RU,RL,if_true,if_false,forall_const,implies_true,Nat.reduceLeDiff,Nat.reduceLT,pureOp,binPure,intBin,strBin,eqPure,isConstO,unPure,sliceLo,sliceHi,slicePure,lenPure,minPure,maxPure,buildP,resK,endV,yieldE,↓reduceIte,Nat.reduceEqDiff,reduceCtorEq,Nat.reduceAdd,Nat.reduceMul,Nat.reduceSub,Int.reduceLT,Int.reduceLE,Int.reduceToNat,Int.reduceAdd,Int.reduceSub,Int.reduceMul,ne_eq,decide_true,decide_false,tf48, he0]
    exact h w1 none 0 hR1 (Rd.nil _ _ _) (fun h0 => absurd h0 (by simp)) k1
  | true =>
    rw [if_pos hb] at h
    obtain ⟨e1, _, _⟩ := rBegin_true hb
    rw [e1] at hR1
    obtain ⟨A, c, hB, hRd, hp, hc, hF⟩ := id hR1
    simp -dsimp only [↓RE,↓c_seq,RU,RL,if_true,if_false,forall_const,implies_true,Nat.reduceLeDiff,Nat.reduceLT,pureOp,binPure,intBin,strBin,eqPure,isConstO,unPure,sliceLo,sliceHi,slicePure,lenPure,minPure,maxPure,buildP,resK,endV,yieldE,↓reduceIte,Nat.reduceEqDiff,reduceCtorEq,Nat.reduceAdd,Nat.reduceMul,Nat.reduceSub,Int.reduceLT,Int.reduceLE,Int.reduceToNat,Int.reduceAdd,Int.reduceSub,Int.reduceMul,ne_eq,decide_true,decide_false,tf48, he0]
    refine hB.aggK (by simp) ?_
    simp only [List.drop_zero, List.take_succ_cons, List.take_zero]
    simp -dsimp only [↓RE,↓c_seq,RU,RL,if_true,if_false,forall_const,implies_true,Nat.reduceLeDiff,Nat.reduceLT,pureOp,binPure,intBin,strBin,eqPure,isConstO,unPure,sliceLo,sliceHi,slicePure,lenPure,minPure,maxPure,buildP,resK,endV,yieldE,↓reduceIte,Nat.reduceEqDiff,reduceCtorEq,Nat.reduceAdd,Nat.reduceMul,Nat.reduceSub,Int.reduceLT,Int.reduceLE,Int.reduceToNat,Int.reduceAdd,Int.reduceSub,Int.reduceMul,ne_eq,decide_true,decide_false,tf48, he0]
    have hz0 := Blk.new' w1 110 #[.slice none 0 0, .int .i64 0, .int .i64 0]
    have ga := Grow.alloc w1 (.cells #[.slice none 0 0, .int .i64 0, .int .i64 0] 110)
    refine hz0.stAgg (by simp) (by simp [Value.oneCell']) (fun w2 hK0 kk2 => ?_)
    have hK : Blk w2 w1.heap.size 110 [.slice A s.xs.length c, .int .i64 s.pos, .int .i64 s.bits] := by simpa using hK0
    have g2 : Grow w1 w2 := ga.above kk2 (fun i hi e => by omega)
    have hpl : p < w1.heap.size := hB.lt
    have hR2 := hR1.grow g2
    have hlim : 0 ≤ rLim most := by unfold rLim; split <;> omega
    have hwl : IntKind.u64.wrap (if 0 > most then 0 else most) = rLim most := by
      unfold rLim
      split <;> split <;> (rw [wrap_u64]; omega)
    have kp : ∀ i, i < w.heap.size → i = p → i = p := fun _ _ h => h
    have kw2 : Keep (fun k => k = p) w1 w2 := Keep.mono g2 (fun _ _ h => h.elim)
    simp -dsimp only [↓RE,RU,RL,if_true,if_false,forall_const,implies_true,Nat.reduceLeDiff,Nat.reduceLT,pureOp,binPure,intBin,strBin,eqPure,isConstO,unPure,sliceLo,sliceHi,slicePure,lenPure,minPure,maxPure,buildP,resK,endV,yieldE,↓reduceIte,Nat.reduceEqDiff,reduceCtorEq,Nat.reduceAdd,Nat.reduceMul,Nat.reduceSub,Int.reduceLT,Int.reduceLE,Int.reduceToNat,Int.reduceAdd,Int.reduceSub,Int.reduceMul,ne_eq,decide_true,decide_false,tf48, he0, he1, hwl]
    rw [c_seq]
    simp -dsimp only [↓RE,RU,RL,if_true,if_false,forall_const,implies_true,Nat.reduceLeDiff,Nat.reduceLT,pureOp,binPure,intBin,strBin,eqPure,isConstO,unPure,sliceLo,sliceHi,slicePure,lenPure,minPure,maxPure,buildP,resK,endV,yieldE,↓reduceIte,Nat.reduceEqDiff,reduceCtorEq,Nat.reduceAdd,Nat.reduceMul,Nat.reduceSub,Int.reduceLT,Int.reduceLE,Int.reduceToNat,Int.reduceAdd,Int.reduceSub,Int.reduceMul,ne_eq,decide_true,decide_false,tf48, he0, he1, hwl]
    refine number_ok hR2 ok hlim (by decide) (fun w3 hR3 k3 => ?_)
    have kw3 : Keep (fun k => k = p) w1 w3 := kw2.trans k3 (fun _ _ h => h) (fun _ _ h => h)
    have hK3 := hK.keep k3 (by omega)
    have okq := ok.number (rLim most) 6
    have hnr := rNumber_range ok (rLim most) 6
    have hqx := rNumber_xs (rLim most) 6 s
    have hS : rLoadS most s = rShort (rNumber (rLim most) 6 s).2 (rLong most s (rNumber (rLim most) 6 s).1) := rfl
    have hN : rLoadN most s = (rNumber (rLim most) 6 s).2 := rfl
    rw [hS, hN] at h
    generalize hq : (rNumber (rLim most) 6 s).1 = q at hR3 okq h hqx
    generalize (rNumber (rLim most) 6 s).2 = n at hnr h
    simp -dsimp only [↓RE,RU,RL,if_true,if_false,forall_const,implies_true,Nat.reduceLeDiff,Nat.reduceLT,pureOp,binPure,intBin,strBin,eqPure,isConstO,unPure,sliceLo,sliceHi,slicePure,lenPure,minPure,maxPure,buildP,resK,endV,yieldE,↓reduceIte,Nat.reduceEqDiff,reduceCtorEq,Nat.reduceAdd,Nat.reduceMul,Nat.reduceSub,Int.reduceLT,Int.reduceLE,Int.reduceToNat,Int.reduceAdd,Int.reduceSub,Int.reduceMul,ne_eq,decide_true,decide_false,tf48, he0, he1]
    refine c_seq_cut (fun e' w' => e' 0 = .pointer (some ⟨p, 0, none⟩) ∧ e' 5 = .pointer (some ⟨w1.heap.size, 0, none⟩) ∧ e' 6 = .int .u64 n ∧ RAt w' F p (rLong most s q) ∧ Blk w' w1.heap.size 110 [.slice A s.xs.length c, .int .i64 s.pos, .int .i64 s.bits] ∧ Keep (fun k => k = p) w1 w') ?_ ?_
    · obtain ⟨A3, c3, hB3, hRd3, hp3, hc3, hF3⟩ := id hR3
      unfold rLong
      cases hf : q.fault with
      | some x =>
        rw [if_neg (by simp [hf])]
        simp -dsimp only [↓RE,↓c_seq,RU,RL,if_true,if_false,forall_const,implies_true,Nat.reduceLeDiff,Nat.reduceLT,pureOp,binPure,intBin,strBin,eqPure,isConstO,unPure,sliceLo,sliceHi,slicePure,lenPure,minPure,maxPure,buildP,resK,endV,yieldE,↓reduceIte,Nat.reduceEqDiff,reduceCtorEq,Nat.reduceAdd,Nat.reduceMul,Nat.reduceSub,Int.reduceLT,Int.reduceLE,Int.reduceToNat,Int.reduceAdd,Int.reduceSub,Int.reduceMul,ne_eq,decide_true,decide_false,tf48, he0, he1, hB3.cell, hf, errV]
        refine hold_intro ⟨?_, ?_, ?_, hR3, hK3, kw3⟩ <;> simp -dsimp only [↓RE,↓c_seq,RU,RL,if_true,if_false,forall_const,implies_true,Nat.reduceLeDiff,Nat.reduceLT,pureOp,binPure,intBin,strBin,eqPure,isConstO,unPure,sliceLo,sliceHi,slicePure,lenPure,minPure,maxPure,buildP,resK,endV,yieldE,↓reduceIte,Nat.reduceEqDiff,reduceCtorEq,Nat.reduceAdd,Nat.reduceMul,Nat.reduceSub,Int.reduceLT,Int.reduceLE,Int.reduceToNat,Int.reduceAdd,Int.reduceSub,Int.reduceMul,ne_eq,decide_true,decide_false,tf48, he0, he1]
      | none =>
        by_cases hneg : most < 0
        · rw [if_pos ⟨rfl, hneg⟩]
          simp -dsimp only [↓RE,↓c_seq,RU,RL,if_true,if_false,forall_const,implies_true,Nat.reduceLeDiff,Nat.reduceLT,pureOp,binPure,intBin,strBin,eqPure,isConstO,unPure,sliceLo,sliceHi,slicePure,lenPure,minPure,maxPure,buildP,resK,endV,yieldE,↓reduceIte,Nat.reduceEqDiff,reduceCtorEq,Nat.reduceAdd,Nat.reduceMul,Nat.reduceSub,Int.reduceLT,Int.reduceLE,Int.reduceToNat,Int.reduceAdd,Int.reduceSub,Int.reduceMul,ne_eq,decide_true,decide_false,tf48, he0, he1, hB3.cell, hf, errV, hneg, hK3.cell]
          refine fat_ok (by decide) ?_
          simp -dsimp only [↓RE,↓c_seq,RU,RL,if_true,if_false,forall_const,implies_true,Nat.reduceLeDiff,Nat.reduceLT,pureOp,binPure,intBin,strBin,eqPure,isConstO,unPure,sliceLo,sliceHi,slicePure,lenPure,minPure,maxPure,buildP,resK,endV,yieldE,↓reduceIte,Nat.reduceEqDiff,reduceCtorEq,Nat.reduceAdd,Nat.reduceMul,Nat.reduceSub,Int.reduceLT,Int.reduceLE,Int.reduceToNat,Int.reduceAdd,Int.reduceSub,Int.reduceMul,ne_eq,decide_true,decide_false,tf48, he0, he1]
          refine fail_ok hR3 (fun w4 hR4 k4 => ?_)
          simp -dsimp only [↓RE,↓c_seq,RU,RL,if_true,if_false,forall_const,implies_true,Nat.reduceLeDiff,Nat.reduceLT,pureOp,binPure,intBin,strBin,eqPure,isConstO,unPure,sliceLo,sliceHi,slicePure,lenPure,minPure,maxPure,buildP,resK,endV,yieldE,↓reduceIte,Nat.reduceEqDiff,reduceCtorEq,Nat.reduceAdd,Nat.reduceMul,Nat.reduceSub,Int.reduceLT,Int.reduceLE,Int.reduceToNat,Int.reduceAdd,Int.reduceSub,Int.reduceMul,ne_eq,decide_true,decide_false,tf48, he0, he1]
          refine hold_intro ⟨?_, ?_, ?_, hR4, hK3.keep k4 (by omega), kw3.trans k4 (fun _ _ h => h) (fun _ _ h => h)⟩ <;> simp -dsimp only [↓RE,↓c_seq,RU,RL,if_true,if_false,forall_const,implies_true,Nat.reduceLeDiff,Nat.reduceLT,pureOp,binPure,intBin,strBin,eqPure,isConstO,unPure,sliceLo,sliceHi,slicePure,lenPure,minPure,maxPure,buildP,resK,endV,yieldE,↓reduceIte,Nat.reduceEqDiff,reduceCtorEq,Nat.reduceAdd,Nat.reduceMul,Nat.reduceSub,Int.reduceLT,Int.reduceLE,Int.reduceToNat,Int.reduceAdd,Int.reduceSub,Int.reduceMul,ne_eq,decide_true,decide_false,tf48, he0, he1]
        · rw [if_neg (by simp [hneg])]
          simp -dsimp only [↓RE,↓c_seq,RU,RL,if_true,if_false,forall_const,implies_true,Nat.reduceLeDiff,Nat.reduceLT,pureOp,binPure,intBin,strBin,eqPure,isConstO,unPure,sliceLo,sliceHi,slicePure,lenPure,minPure,maxPure,buildP,resK,endV,yieldE,↓reduceIte,Nat.reduceEqDiff,reduceCtorEq,Nat.reduceAdd,Nat.reduceMul,Nat.reduceSub,Int.reduceLT,Int.reduceLE,Int.reduceToNat,Int.reduceAdd,Int.reduceSub,Int.reduceMul,ne_eq,decide_true,decide_false,tf48, he0, he1, hB3.cell, hf, errV, hneg]
          refine hold_intro ⟨?_, ?_, ?_, hR3, hK3, kw3⟩ <;> simp -dsimp only [↓RE,↓c_seq,RU,RL,if_true,if_false,forall_const,implies_true,Nat.reduceLeDiff,Nat.reduceLT,pureOp,binPure,intBin,strBin,eqPure,isConstO,unPure,sliceLo,sliceHi,slicePure,lenPure,minPure,maxPure,buildP,resK,endV,yieldE,↓reduceIte,Nat.reduceEqDiff,reduceCtorEq,Nat.reduceAdd,Nat.reduceMul,Nat.reduceSub,Int.reduceLT,Int.reduceLE,Int.reduceToNat,Int.reduceAdd,Int.reduceSub,Int.reduceMul,ne_eq,decide_true,decide_false,tf48, he0, he1]
    rintro e4 w4 ⟨g0, g5, g6, hR4, hK4, kw4⟩
    have okl := okq.long most s
    have hlx := rLong_xs most s q
    generalize rLong most s q = ql at hR4 okl h hlx
    refine c_seq_cut (fun e' w' => e' 0 = .pointer (some ⟨p, 0, none⟩) ∧ e' 5 = .pointer (some ⟨w1.heap.size, 0, none⟩) ∧ e' 6 = .int .u64 n ∧ RAt w' F p (rShort n ql) ∧ Blk w' w1.heap.size 110 [.slice A s.xs.length c, .int .i64 s.pos, .int .i64 s.bits] ∧ Keep (fun k => k = p) w1 w') ?_ ?_
    · obtain ⟨A3, c3, hB3, hRd3, hp3, hc3, hF3⟩ := id hR4
      have hqln := okl.len
      unfold rShort
      cases hf : ql.fault with
      | some x =>
        rw [if_neg (by simp [hf])]
        simp -dsimp only [↓RE,↓c_seq,RU,RL,if_true,if_false,forall_const,implies_true,Nat.reduceLeDiff,Nat.reduceLT,pureOp,binPure,intBin,strBin,eqPure,isConstO,unPure,sliceLo,sliceHi,slicePure,lenPure,minPure,maxPure,buildP,resK,endV,yieldE,↓reduceIte,Nat.reduceEqDiff,reduceCtorEq,Nat.reduceAdd,Nat.reduceMul,Nat.reduceSub,Int.reduceLT,Int.reduceLE,Int.reduceToNat,Int.reduceAdd,Int.reduceSub,Int.reduceMul,ne_eq,decide_true,decide_false,tf48, g0, g5, g6, hB3.cell, hf, errV]
        refine hold_intro ⟨?_, ?_, ?_, hR4, hK4, kw4⟩ <;> simp -dsimp only [↓RE,↓c_seq,RU,RL,if_true,if_false,forall_const,implies_true,Nat.reduceLeDiff,Nat.reduceLT,pureOp,binPure,intBin,strBin,eqPure,isConstO,unPure,sliceLo,sliceHi,slicePure,lenPure,minPure,maxPure,buildP,resK,endV,yieldE,↓reduceIte,Nat.reduceEqDiff,reduceCtorEq,Nat.reduceAdd,Nat.reduceMul,Nat.reduceSub,Int.reduceLT,Int.reduceLE,Int.reduceToNat,Int.reduceAdd,Int.reduceSub,Int.reduceMul,ne_eq,decide_true,decide_false,tf48, g0, g5, g6]
      | none =>
        simp -dsimp only [↓RE,↓c_seq,RU,RL,if_true,if_false,forall_const,implies_true,Nat.reduceLeDiff,Nat.reduceLT,pureOp,binPure,intBin,strBin,eqPure,isConstO,unPure,sliceLo,sliceHi,slicePure,lenPure,minPure,maxPure,buildP,resK,endV,yieldE,↓reduceIte,Nat.reduceEqDiff,reduceCtorEq,Nat.reduceAdd,Nat.reduceMul,Nat.reduceSub,Int.reduceLT,Int.reduceLE,Int.reduceToNat,Int.reduceAdd,Int.reduceSub,Int.reduceMul,ne_eq,decide_true,decide_false,tf48, g0, g5, g6, hB3.cell, hf, errV]
        refine left_ok hR4 okl (fun w5 g5' => ?_)
        have hR5 := hR4.grow g5'
        have hK5 := hK4.grow g5'
        have kw5 := kw4.then_grow g5'
        have hwc : IntKind.u64.wrap ((ql.xs.length - ql.pos : Nat) : Int) = ((ql.xs.length - ql.pos : Nat) : Int) := by rw [wrap_u64]; omega
        by_cases hsh : ((ql.xs.length - ql.pos : Nat) : Int) < n
        · rw [if_pos ⟨rfl, hsh⟩]
          simp -dsimp only [↓RE,↓c_seq,RU,RL,if_true,if_false,forall_const,implies_true,Nat.reduceLeDiff,Nat.reduceLT,pureOp,binPure,intBin,strBin,eqPure,isConstO,unPure,sliceLo,sliceHi,slicePure,lenPure,minPure,maxPure,buildP,resK,endV,yieldE,↓reduceIte,Nat.reduceEqDiff,reduceCtorEq,Nat.reduceAdd,Nat.reduceMul,Nat.reduceSub,Int.reduceLT,Int.reduceLE,Int.reduceToNat,Int.reduceAdd,Int.reduceSub,Int.reduceMul,ne_eq,decide_true,decide_false,tf48, g0, g5, g6, hwc, hsh, (hB3.grow g5').cell]
          refine fat_ok (by decide) ?_
          simp -dsimp only [↓RE,↓c_seq,RU,RL,if_true,if_false,forall_const,implies_true,Nat.reduceLeDiff,Nat.reduceLT,pureOp,binPure,intBin,strBin,eqPure,isConstO,unPure,sliceLo,sliceHi,slicePure,lenPure,minPure,maxPure,buildP,resK,endV,yieldE,↓reduceIte,Nat.reduceEqDiff,reduceCtorEq,Nat.reduceAdd,Nat.reduceMul,Nat.reduceSub,Int.reduceLT,Int.reduceLE,Int.reduceToNat,Int.reduceAdd,Int.reduceSub,Int.reduceMul,ne_eq,decide_true,decide_false,tf48, g0, g5, g6]
          refine fail_ok hR5 (fun w6 hR6 k6 => ?_)
          simp -dsimp only [↓RE,↓c_seq,RU,RL,if_true,if_false,forall_const,implies_true,Nat.reduceLeDiff,Nat.reduceLT,pureOp,binPure,intBin,strBin,eqPure,isConstO,unPure,sliceLo,sliceHi,slicePure,lenPure,minPure,maxPure,buildP,resK,endV,yieldE,↓reduceIte,Nat.reduceEqDiff,reduceCtorEq,Nat.reduceAdd,Nat.reduceMul,Nat.reduceSub,Int.reduceLT,Int.reduceLE,Int.reduceToNat,Int.reduceAdd,Int.reduceSub,Int.reduceMul,ne_eq,decide_true,decide_false,tf48, g0, g5, g6]
          refine hold_intro ⟨?_, ?_, ?_, hR6, hK5.keep k6 (by omega), kw5.trans k6 (fun _ _ h => h) (fun _ _ h => h)⟩ <;> simp -dsimp only [↓RE,↓c_seq,RU,RL,if_true,if_false,forall_const,implies_true,Nat.reduceLeDiff,Nat.reduceLT,pureOp,binPure,intBin,strBin,eqPure,isConstO,unPure,sliceLo,sliceHi,slicePure,lenPure,minPure,maxPure,buildP,resK,endV,yieldE,↓reduceIte,Nat.reduceEqDiff,reduceCtorEq,Nat.reduceAdd,Nat.reduceMul,Nat.reduceSub,Int.reduceLT,Int.reduceLE,Int.reduceToNat,Int.reduceAdd,Int.reduceSub,Int.reduceMul,ne_eq,decide_true,decide_false,tf48, g0, g5, g6]
        · rw [if_neg (by simp [hsh])]
          simp -dsimp only [↓RE,↓c_seq,RU,RL,if_true,if_false,forall_const,implies_true,Nat.reduceLeDiff,Nat.reduceLT,pureOp,binPure,intBin,strBin,eqPure,isConstO,unPure,sliceLo,sliceHi,slicePure,lenPure,minPure,maxPure,buildP,resK,endV,yieldE,↓reduceIte,Nat.reduceEqDiff,reduceCtorEq,Nat.reduceAdd,Nat.reduceMul,Nat.reduceSub,Int.reduceLT,Int.reduceLE,Int.reduceToNat,Int.reduceAdd,Int.reduceSub,Int.reduceMul,ne_eq,decide_true,decide_false,tf48, g0, g5, g6, hwc, hsh]
          refine hold_intro ⟨?_, ?_, ?_, hR5, hK5, kw5⟩ <;> simp -dsimp only [↓RE,↓c_seq,RU,RL,if_true,if_false,forall_const,implies_true,Nat.reduceLeDiff,Nat.reduceLT,pureOp,binPure,intBin,strBin,eqPure,isConstO,unPure,sliceLo,sliceHi,slicePure,lenPure,minPure,maxPure,buildP,resK,endV,yieldE,↓reduceIte,Nat.reduceEqDiff,reduceCtorEq,Nat.reduceAdd,Nat.reduceMul,Nat.reduceSub,Int.reduceLT,Int.reduceLE,Int.reduceToNat,Int.reduceAdd,Int.reduceSub,Int.reduceMul,ne_eq,decide_true,decide_false,tf48, g0, g5, g6]
    rintro e5 w5 ⟨f0, f5, f6, hR5, hK5, kw5⟩
    have oks := okl.short n
    have hsx : (rShort n ql).xs = s.xs := by rw [rShort_xs, hlx, hqx]
    have hle2 : (rShort n ql).fault = none → n ≤ ((rShort n ql).xs.length : Nat) := fun hz => by
      unfold rShort at hz ⊢
      split at hz
      · rename_i hh
        unfold rFail at hz
        rw [if_pos hh.1] at hz
        simp [errAt] at hz
      · rename_i hh
        rw [if_neg hh]
        have : ¬ ((ql.xs.length - ql.pos : Nat) : Int) < n := fun h3 => hh ⟨hz, h3⟩
        omega
    generalize rShort n ql = qs at hR5 oks h hsx hle2
    obtain ⟨A5, c5, hB5, hRd5, hp5, hc5, hF5⟩ := id hR5
    have hln5 := oks.len
    cases hf : qs.fault with
    | some x =>
      rw [if_pos (by simp [hf])] at h
      simp -dsimp only [↓RE,↓c_seq,RU,RL,if_true,if_false,forall_const,implies_true,Nat.reduceLeDiff,Nat.reduceLT,pureOp,binPure,intBin,strBin,eqPure,isConstO,unPure,sliceLo,sliceHi,slicePure,lenPure,minPure,maxPure,buildP,resK,endV,yieldE,↓reduceIte,Nat.reduceEqDiff,reduceCtorEq,Nat.reduceAdd,Nat.reduceMul,Nat.reduceSub,Int.reduceLT,Int.reduceLE,Int.reduceToNat,Int.reduceAdd,Int.reduceSub,Int.reduceMul,ne_eq,decide_true,decide_false,tf48, f0, f5, f6, hB5.cell, hf, errV]
      refine hK5.aggK (by simp) ?_
      simp only [List.drop_zero, List.take_succ_cons, List.take_zero]
      simp -dsimp only [↓RE,↓c_seq,RU,RL,if_true,if_false,forall_const,implies_true,Nat.reduceLeDiff,Nat.reduceLT,pureOp,binPure,intBin,strBin,eqPure,isConstO,unPure,sliceLo,sliceHi,slicePure,lenPure,minPure,maxPure,buildP,resK,endV,yieldE,↓reduceIte,Nat.reduceEqDiff,reduceCtorEq,Nat.reduceAdd,Nat.reduceMul,Nat.reduceSub,Int.reduceLT,Int.reduceLE,Int.reduceToNat,Int.reduceAdd,Int.reduceSub,Int.reduceMul,ne_eq,decide_true,decide_false,tf48, f0, f5, f6]
      refine hB5.stAgg (by simp) (by simp [Value.oneCell']) (fun w6 hB6 k6 => ?_)
      simp -dsimp only [↓RE,↓c_seq,RU,RL,if_true,if_false,forall_const,implies_true,Nat.reduceLeDiff,Nat.reduceLT,pureOp,binPure,intBin,strBin,eqPure,isConstO,unPure,sliceLo,sliceHi,slicePure,lenPure,minPure,maxPure,buildP,resK,endV,yieldE,↓reduceIte,Nat.reduceEqDiff,reduceCtorEq,Nat.reduceAdd,Nat.reduceMul,Nat.reduceSub,Int.reduceLT,Int.reduceLE,Int.reduceToNat,Int.reduceAdd,Int.reduceSub,Int.reduceMul,ne_eq,decide_true,decide_false,tf48, f0, f5, f6]
      have kw6 := kw5.trans k6 (H := fun k => k = p) (fun _ _ h => h) (fun _ _ h => h)
      refine h w6 none 0 ⟨A, c, ?_, ?_, ?_, ?_, ?_⟩ (Rd.nil _ _ _) (fun h0 => absurd h0 (by simp)) (k1.trans kw6 (fun _ _ h => h) (fun _ _ h => h))
      · simpa [rBack, hsx, hf] using hB6
      · have := hRd.keep0 kw6 (fun h0 k hk e => hp h0 (e ▸ hk))
        simpa [rBack, hsx] using this
      · simpa [rBack, hsx] using hp
      · simpa [rBack, hsx] using hc
      · simpa [rBack, hsx] using hF
    | none =>
      rw [if_neg (by simp [hf])] at h
      have hcn : IntKind.i64.wrap n = ((n.toNat : Nat) : Int) := by have := hle2 hf; rw [wrap_i64_in (by omega) (by omega)]; omega
      simp -dsimp only [↓RE,↓c_seq,RU,RL,if_true,if_false,forall_const,implies_true,Nat.reduceLeDiff,Nat.reduceLT,pureOp,binPure,intBin,strBin,eqPure,isConstO,unPure,sliceLo,sliceHi,slicePure,lenPure,minPure,maxPure,buildP,resK,endV,yieldE,↓reduceIte,Nat.reduceEqDiff,reduceCtorEq,Nat.reduceAdd,Nat.reduceMul,Nat.reduceSub,Int.reduceLT,Int.reduceLE,Int.reduceToNat,Int.reduceAdd,Int.reduceSub,Int.reduceMul,ne_eq,decide_true,decide_false,tf48, f0, f5, f6, hB5.cell, hf, errV, hcn]
      refine take_ok hR5 oks (by have := hle2 hf; omega) (fun w6 A6 c6 hR6 hRd6 hF6 k6 => ?_)
      simp -dsimp only [↓RE,↓c_seq,RU,RL,if_true,if_false,forall_const,implies_true,Nat.reduceLeDiff,Nat.reduceLT,pureOp,binPure,intBin,strBin,eqPure,isConstO,unPure,sliceLo,sliceHi,slicePure,lenPure,minPure,maxPure,buildP,resK,endV,yieldE,↓reduceIte,Nat.reduceEqDiff,reduceCtorEq,Nat.reduceAdd,Nat.reduceMul,Nat.reduceSub,Int.reduceLT,Int.reduceLE,Int.reduceToNat,Int.reduceAdd,Int.reduceSub,Int.reduceMul,ne_eq,decide_true,decide_false,tf48, f0, f5, f6]
      exact h w6 A6 c6 hR6 hRd6 hF6 (k1.trans (kw5.trans k6 (H := fun k => k = p) (fun _ _ h => h) (fun _ _ h => h)) (fun _ _ h => h) (fun _ _ h => h))

theorem rawR_ok {w : World} {F : Nat → Prop} {p : Nat} {s : RS} (hR : RAt w F p s) (ok : RSok s) {most : Int} (m0 : -9223372036854775808 ≤ most) (m1 : most < 9223372036854775808) {R : VWK}
    (h : ∀ w' A' c', RAt w' F p (rLoad most s).1 → w'.ownsRow 0 5 1 (.slice A' (rLoad most s).2.length c') (rLoad most s).2.length ((rLoad most s).2.map (Value.int .u8)) → (∀ k, fpA A' k → w.heap.size ≤ k) → Keep (fun k => k = p) w w' →
      R (.slice A' (rLoad most s).2.length c') w') :
    CallsV Try.prog 20 [.pointer (some ⟨p, 0, none⟩), .int .i64 most] w R := by
  refine calls_of_wpC mixed Try.func20 rfl (by kernel_rfl) ?_
  intro e he
  have he0 := he 0
  have he1 := he 1
  simp only [List.getD_cons_zero, List.getD_cons_succ] at he0 he1
  clear he
  simp -dsimp only [↓RE,↓c_seq,RU,RL,if_true,if_false,forall_const,implies_true,Nat.reduceLeDiff,Nat.reduceLT,pureOp,binPure,intBin,strBin,eqPure,isConstO,unPure,sliceLo,sliceHi,slicePure,lenPure,minPure,maxPure,buildP,resK,endV,yieldE,↓reduceIte,Nat.reduceEqDiff,reduceCtorEq,Nat.reduceAdd,Nat.reduceMul,Nat.reduceSub,Int.reduceLT,Int.reduceLE,Int.reduceToNat,Int.reduceAdd,Int.reduceSub,Int.reduceMul,ne_eq,decide_true,decide_false,tf20, he0, he1]
  refine load_ok hR ok m0 m1 (fun w1 A1 c1 hR1 hRd1 _ k1 => ?_)
  simp -dsimp only [↓RE,↓c_seq,RU,RL,if_true,if_false,forall_const,implies_true,Nat.reduceLeDiff,Nat.reduceLT,pureOp,binPure,intBin,strBin,eqPure,isConstO,unPure,sliceLo,sliceHi,slicePure,lenPure,minPure,maxPure,buildP,resK,endV,yieldE,↓reduceIte,Nat.reduceEqDiff,reduceCtorEq,Nat.reduceAdd,Nat.reduceMul,Nat.reduceSub,Int.reduceLT,Int.reduceLE,Int.reduceToNat,Int.reduceAdd,Int.reduceSub,Int.reduceMul,ne_eq,decide_true,decide_false,tf20, he0]
  have hlen : (rLoad most s).2.length ≤ 140737488355328 := by
    have hl := ok.len
    have t : ∀ (n : Nat) (q : RS), (rTake n q).2.length ≤ q.xs.length := fun n q => by
      unfold rTake
      split
      · split
        · simp
        · rw [List.length_take, List.length_drop]; omega
      · simp
    unfold rLoad
    split
    · split
      · simp
      · have := t (rLoadN most s).toNat (rLoadS most s)
        rw [rLoadS_xs] at this
        omega
    · simp
  refine clone_ok hRd1 hlen (fun w2 A2 c2 hO2 g2 hF2 => ?_)
  simp -dsimp only [↓RE,↓c_seq,RU,RL,if_true,if_false,forall_const,implies_true,Nat.reduceLeDiff,Nat.reduceLT,pureOp,binPure,intBin,strBin,eqPure,isConstO,unPure,sliceLo,sliceHi,slicePure,lenPure,minPure,maxPure,buildP,resK,endV,yieldE,↓reduceIte,Nat.reduceEqDiff,reduceCtorEq,Nat.reduceAdd,Nat.reduceMul,Nat.reduceSub,Int.reduceLT,Int.reduceLE,Int.reduceToNat,Int.reduceAdd,Int.reduceSub,Int.reduceMul,ne_eq,decide_true,decide_false,tf20, he0]
  exact h w2 A2 c2 (hR1.grow g2) hO2 (fun k hk => Nat.le_trans k1.size (hF2 k hk)) (k1.then_grow g2)

theorem textR_ok {w : World} {F : Nat → Prop} {p : Nat} {s : RS} (hR : RAt w F p s) (ok : RSok s) {most : Int} (m0 : -9223372036854775808 ≤ most) (m1 : most < 9223372036854775808) {R : VWK}
    (h : ∀ w', RAt w' F p (rLoad most s).1 → Keep (fun k => k = p) w w' → R (.string (strOfNums (rLoad most s).2)) w') :
    CallsV Try.prog 26 [.pointer (some ⟨p, 0, none⟩), .int .i64 most] w R := by
  refine calls_of_wpC mixed Try.func26 rfl (by kernel_rfl) ?_
  intro e he
  have he0 := he 0
  have he1 := he 1
  simp only [List.getD_cons_zero, List.getD_cons_succ] at he0 he1
  clear he
  simp -dsimp only [↓RE,↓c_seq,RU,RL,if_true,if_false,forall_const,implies_true,Nat.reduceLeDiff,Nat.reduceLT,pureOp,binPure,intBin,strBin,eqPure,isConstO,unPure,sliceLo,sliceHi,slicePure,lenPure,minPure,maxPure,buildP,resK,endV,yieldE,↓reduceIte,Nat.reduceEqDiff,reduceCtorEq,Nat.reduceAdd,Nat.reduceMul,Nat.reduceSub,Int.reduceLT,Int.reduceLE,Int.reduceToNat,Int.reduceAdd,Int.reduceSub,Int.reduceMul,ne_eq,decide_true,decide_false,tf26, he0, he1]
  refine load_ok hR ok m0 m1 (fun w1 A1 c1 hR1 hRd1 _ k1 => ?_)
  simp -dsimp only [↓RE,↓c_seq,RU,RL,if_true,if_false,forall_const,implies_true,Nat.reduceLeDiff,Nat.reduceLT,pureOp,binPure,intBin,strBin,eqPure,isConstO,unPure,sliceLo,sliceHi,slicePure,lenPure,minPure,maxPure,buildP,resK,endV,yieldE,↓reduceIte,Nat.reduceEqDiff,reduceCtorEq,Nat.reduceAdd,Nat.reduceMul,Nat.reduceSub,Int.reduceLT,Int.reduceLE,Int.reduceToNat,Int.reduceAdd,Int.reduceSub,Int.reduceMul,ne_eq,decide_true,decide_false,tf26, he0]
  refine genK_totext rfl Try.underlying22 Try.underlying5 Try.underlying9 (A := A1) (n := (rLoad most s).2.length) (c := c1) (xs := (rLoad most s).2) (by simp -dsimp only [↓RE,RU,RL,if_true,if_false,↓reduceIte,Nat.reduceEqDiff,reduceCtorEq,decide_true,decide_false, he0]) hRd1 ?_
  simp -dsimp only [↓RE,↓c_seq,RU,RL,if_true,if_false,forall_const,implies_true,Nat.reduceLeDiff,Nat.reduceLT,pureOp,binPure,intBin,strBin,eqPure,isConstO,unPure,sliceLo,sliceHi,slicePure,lenPure,minPure,maxPure,buildP,resK,endV,yieldE,↓reduceIte,Nat.reduceEqDiff,reduceCtorEq,Nat.reduceAdd,Nat.reduceMul,Nat.reduceSub,Int.reduceLT,Int.reduceLE,Int.reduceToNat,Int.reduceAdd,Int.reduceSub,Int.reduceMul,ne_eq,decide_true,decide_false,tf26, he0]
  exact h w1 hR1 k1

end Go.Proofs.Ytcjlhfmjcioeeaa
