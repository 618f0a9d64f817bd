/- block.UnTimes: what it reads, or what is wrong. -/
import Derived.Test.YtmgiichlccdcfaaUndiff
import Derived.Test.YtmgiichlccdcfaaEqual
import Derived.Test.YtmgiichlccdcfaaHo9
set_option linter.unusedVariables false
set_option linter.unusedSimpArgs false
set_option maxRecDepth 100000
namespace Go.Proofs.Ytmgiichlccdcfaa
open Go

/-- the list so far, a row of one's own, beside a Reader. -/
structure UT (w : World) (b1 : Nat) (F : Nat → Prop) (p : Nat) (t : TS) (sv : Value) (w' : World) : Prop where
  r : RAt w' F p t.s
  o : w'.ownsRow 0 2 1 sv t.l.length (t.l.map (Value.int .i64))
  f : ∀ i, fpV sv i → b1 ≤ i
  g : Grow w w'
  b : w.heap.size ≤ b1
  lo : ∀ i, F i → w.heap.size ≤ i
  hi : ∀ i, F i → i < b1
  sz : b1 ≤ w'.heap.size
theorem UT.read {w : World} {b1 : Nat} {F : Nat → Prop} {p : Nat} {t : TS} {sv : Value} {w' w2 : World} (h : UT w b1 F p t sv w') {s : RS} {g : Int} (hR : RAt w2 F p s) (k : Keep (fun k => k = p) w' w2) : UT w b1 F p ⟨s, g, t.l⟩ sv w2 := by
  have hp : F p := h.r.at
  have h1 := h.lo p hp
  have h2 := h.hi p hp
  exact ⟨hR, own_keep h.o k (fun i hi e => by have := h.f i hi; omega), h.f, h.g.above k (fun i hi e => by omega), h.b, h.lo, h.hi, Nat.le_trans h.sz k.size⟩

theorem UT.push {w : World} {b1 : Nat} {F : Nat → Prop} {p : Nat} {s : RS} {g : Int} {l : List Int} {sv : Value} {w' : World} (h : UT w b1 F p ⟨s, g, l⟩ sv w') {x : Int} (hl : l.length ≤ 1048576) {K : VWK} {tk : Tok K}
    (hk : ∀ sv' w2, UT w b1 F p ⟨s, g, l ++ [x]⟩ sv' w2 → K sv' w2) : appK Try.prog [77, 77] 77 [sv, .slice (some ⟨w'.heap.size, 0, none⟩) 1 1] (w'.alloc (.cells #[.int .i64 x] 2)) K tk := by
  have hb1 := Blk.new' w' 2 #[.int .i64 x]
  have ga1 := Grow.alloc w' (.cells #[.int .i64 x] 2)
  have hr1 : Rd (w'.alloc (.cells #[.int .i64 x] 2)) (some ⟨w'.heap.size, 0, none⟩) 1 1 (([x] : List Int).map (Value.int .i64)) := Rd.of_cells _ _ _ _ _ hb1 rfl
  have ho := h.o
  have hgs := h.g.size
  have hb := h.b
  have hpl := h.r.lt p h.r.at
  simp only at ho
  refine appK_own (m := 1) (bytes := 8) (by kernel_rfl) (own_grow ho ga1) hr1 (ints_one _ _) (by show l.length + 1 ≤ maxLen; simp only [maxLen]; omega) (by show (l.length + 1) * 8 ≤ 140737488355328; omega) (fun A3 c3 w3 hO3 hK3 hF3 => ?_)
  refine hk _ w3 ⟨(h.r.grow ga1).keep hK3 (fun i hi hf => by have := h.hi i hi; have := h.f i hf; omega), ?_, fun i hi => (hF3 i hi).elim (h.f i) (fun q => ?_), (h.g.trans ga1).above hK3 (fun i hi hf => by have := h.f i hf; omega), h.b, h.lo, h.hi, by have := h.sz; have := ga1.size; have := hK3.size; omega⟩
  · simp only [List.length_append, List.length_cons, List.length_nil, List.map_append]; exact hO3
  · have := h.sz
    have := ga1.size
    omega

theorem untimes_ok {w : World} {A : Option Addr} {n c : Nat} {b : List Int} (hR : Rd w A n 1 (b.map (Value.int .u8))) (hb : ∀ z ∈ b, 0 ≤ z ∧ z < 256) (hn : n ≤ 140737488355328) {R : VWK}
    (h1 : ∀ x w', rDone (uT b).s = some x → Grow w w' → R (.tuple #[.slice none 0 0, errV (some x)]) w')
    (h2 : ∀ w', rDone (uT b).s = none → ¬ TGood b → Grow w w' → R (.tuple #[.slice none 0 0, .iface 35 (.int .i64 90)]) w')
    (h : rDone (uT b).s = none → TGood b → ∀ w' A' c', w'.ownsRow 0 2 1 (.slice A' (uT b).l.length c') (uT b).l.length ((uT b).l.map (Value.int .i64)) → Grow w w' → (∀ k, fpA A' k → w.heap.size ≤ k) →
      R (.tuple #[.slice A' (uT b).l.length c', .nilIface]) w') :
    CallsV Try.prog 16 [.slice A n c] w R := by
  have hl := hR.len1
  have hN := uN_le b
  refine calls_of_wpC mixed Try.func16 rfl (by kernel_rfl) ?_
  intro e he
  have he0 := he 0
  simp only [List.getD_cons_zero, List.getD_cons_succ] at he0
  clear he
  rw [c_seq]
  simp -dsimp only [↓RE,RU,RL,if_true,if_false,forall_const,implies_true,Nat.reduceLeDiff,Nat.reduceLT,pureOp,binPure,intBin,strBin,eqPure,isConstO,unPure,sliceLo,sliceHi,slicePure,lenPure,minPure,maxPure,buildP,resK,endV,yieldE,↓reduceIte,Nat.reduceEqDiff,reduceCtorEq,Nat.reduceAdd,Nat.reduceMul,Nat.reduceSub,Int.reduceLT,Int.reduceLE,Int.reduceToNat,Int.reduceAdd,Int.reduceSub,Int.reduceMul,ne_eq,decide_true,decide_false,tf16, he0]
  rw [c_seq]
  simp -dsimp only [↓RE,RU,RL,if_true,if_false,forall_const,implies_true,Nat.reduceLeDiff,Nat.reduceLT,pureOp,binPure,intBin,strBin,eqPure,isConstO,unPure,sliceLo,sliceHi,slicePure,lenPure,minPure,maxPure,buildP,resK,endV,yieldE,↓reduceIte,Nat.reduceEqDiff,reduceCtorEq,Nat.reduceAdd,Nat.reduceMul,Nat.reduceSub,Int.reduceLT,Int.reduceLE,Int.reduceToNat,Int.reduceAdd,Int.reduceSub,Int.reduceMul,ne_eq,decide_true,decide_false,tf16, he0]
  refine newReader_ok hR hn (fun w1 F p hR1 g1 hF1 => ?_)
  have hF1' := hR1.lt
  simp -dsimp only [↓RE,RU,RL,if_true,if_false,forall_const,implies_true,Nat.reduceLeDiff,Nat.reduceLT,pureOp,binPure,intBin,strBin,eqPure,isConstO,unPure,sliceLo,sliceHi,slicePure,lenPure,minPure,maxPure,buildP,resK,endV,yieldE,↓reduceIte,Nat.reduceEqDiff,reduceCtorEq,Nat.reduceAdd,Nat.reduceMul,Nat.reduceSub,Int.reduceLT,Int.reduceLE,Int.reduceToNat,Int.reduceAdd,Int.reduceSub,Int.reduceMul,ne_eq,decide_true,decide_false,tf16, he0]
  rw [c_seq]
  simp -dsimp only [↓RE,RU,RL,if_true,if_false,forall_const,implies_true,Nat.reduceLeDiff,Nat.reduceLT,pureOp,binPure,intBin,strBin,eqPure,isConstO,unPure,sliceLo,sliceHi,slicePure,lenPure,minPure,maxPure,buildP,resK,endV,yieldE,↓reduceIte,Nat.reduceEqDiff,reduceCtorEq,Nat.reduceAdd,Nat.reduceMul,Nat.reduceSub,Int.reduceLT,Int.reduceLE,Int.reduceToNat,Int.reduceAdd,Int.reduceSub,Int.reduceMul,ne_eq,decide_true,decide_false,tf16, he0]
  have ok0 := rs0_ok hb (by omega)
  refine uintR_ok hR1 ok0 (by omega) (fun w2 hR2 hK2 => ?_)
  have hn0 := rNumber_range ok0 1048576 2
  have hnm := rNumber_most (s := ⟨b, 0, 0, none⟩) (most := 1048576) (by omega) 2
  have hNe : IntKind.i64.wrap (rNumber 1048576 2 ⟨b, 0, 0, none⟩).2 = ((uN b : Nat) : Int) := by rw [wrap_i64_in (by omega) (by omega)]; unfold uN; omega
  simp -dsimp only [↓RE,RU,RL,if_true,if_false,forall_const,implies_true,Nat.reduceLeDiff,Nat.reduceLT,pureOp,binPure,intBin,strBin,eqPure,isConstO,unPure,sliceLo,sliceHi,slicePure,lenPure,minPure,maxPure,buildP,resK,endV,yieldE,↓reduceIte,Nat.reduceEqDiff,reduceCtorEq,Nat.reduceAdd,Nat.reduceMul,Nat.reduceSub,Int.reduceLT,Int.reduceLE,Int.reduceToNat,Int.reduceAdd,Int.reduceSub,Int.reduceMul,ne_eq,decide_true,decide_false,tf16, he0, hNe]
  rw [c_seq]
  simp -dsimp only [↓RE,RU,RL,if_true,if_false,forall_const,implies_true,Nat.reduceLeDiff,Nat.reduceLT,pureOp,binPure,intBin,strBin,eqPure,isConstO,unPure,sliceLo,sliceHi,slicePure,lenPure,minPure,maxPure,buildP,resK,endV,yieldE,↓reduceIte,Nat.reduceEqDiff,reduceCtorEq,Nat.reduceAdd,Nat.reduceMul,Nat.reduceSub,Int.reduceLT,Int.reduceLE,Int.reduceToNat,Int.reduceAdd,Int.reduceSub,Int.reduceMul,ne_eq,decide_true,decide_false,tf16, he0]
  rw [c_seq]
  simp -dsimp only [↓RE,RU,RL,if_true,if_false,forall_const,implies_true,Nat.reduceLeDiff,Nat.reduceLT,pureOp,binPure,intBin,strBin,eqPure,isConstO,unPure,sliceLo,sliceHi,slicePure,lenPure,minPure,maxPure,buildP,resK,endV,yieldE,↓reduceIte,Nat.reduceEqDiff,reduceCtorEq,Nat.reduceAdd,Nat.reduceMul,Nat.reduceSub,Int.reduceLT,Int.reduceLE,Int.reduceToNat,Int.reduceAdd,Int.reduceSub,Int.reduceMul,ne_eq,decide_true,decide_false,tf16, he0]
  have hs1 := g1.size
  have hp1 := hR1.at
  have hU0 : UT w w1.heap.size F p (uT0 b) (.slice none 0 0) w2 := ⟨hR2, own_nil _ _ _, fun i hi => absurd hi (fpV_none _), g1.above hK2 (fun i hi e => by have := hF1 p hp1; omega), hs1, hF1, hF1', hK2.size⟩
  refine c_seq_cut (fun e' w' => e' 0 = .slice A n c ∧ e' 4 = .pointer (some ⟨p, 0, none⟩) ∧ ∃ sv, e' 6 = sv ∧ UT w w1.heap.size F p (uT b) sv w') ?_ ?_
  · try simp -dsimp only [↓RE,↓c_seq,RU,RL,if_true,if_false,forall_const,implies_true,Nat.reduceLeDiff,Nat.reduceLT,pureOp,binPure,intBin,strBin,eqPure,isConstO,unPure,sliceLo,sliceHi,slicePure,lenPure,minPure,maxPure,buildP,resK,endV,yieldE,↓reduceIte,Nat.reduceEqDiff,reduceCtorEq,Nat.reduceAdd,Nat.reduceMul,Nat.reduceSub,Int.reduceLT,Int.reduceLE,Int.reduceToNat,Int.reduceAdd,Int.reduceSub,Int.reduceMul,ne_eq,decide_true,decide_false,tf16, he0]
    refine wpLoop_intro (fun e' w' => e' 0 = .slice A n c ∧ e' 4 = .pointer (some ⟨p, 0, none⟩) ∧ e' 5 = .int .i64 (uN b : Nat) ∧ ∃ (t : TS) (sv : Value), t.l.length ≤ uN b ∧ e' 8 = .int .i64 (t.l.length : Nat) ∧ e' 6 = sv ∧ e' 7 = .int .u64 t.g ∧
        TSok t ∧ tsRun (uN b - t.l.length) t = uT b ∧ UT w w1.heap.size F p t sv w')
      (fun e' _ => uN b - (envInt (e' 8)).toNat) ⟨?_, ?_, ?_, uT0 b, .slice none 0 0, Nat.zero_le _, ?_, ?_, ?_, uT0_ok hb (by omega), rfl, hU0⟩ ?_
    · simp -dsimp only [↓RE,RU,RL,if_true,if_false,↓reduceIte,Nat.reduceEqDiff,reduceCtorEq,decide_true,decide_false, he0]
    · simp -dsimp only [↓RE,RU,RL,if_true,if_false,↓reduceIte,Nat.reduceEqDiff,reduceCtorEq,decide_true,decide_false, he0]
    · simp -dsimp only [↓RE,RU,RL,if_true,if_false,↓reduceIte,Nat.reduceEqDiff,reduceCtorEq,decide_true,decide_false, he0]
    · simp -dsimp only [↓RE,RU,RL,if_true,if_false,↓reduceIte,Nat.reduceEqDiff,reduceCtorEq,decide_true,decide_false, he0, Int.cast_ofNat_Int]
      rfl
    · simp -dsimp only [↓RE,RU,RL,if_true,if_false,↓reduceIte,Nat.reduceEqDiff,reduceCtorEq,decide_true,decide_false, he0]
    · simp -dsimp only [↓RE,RU,RL,if_true,if_false,↓reduceIte,Nat.reduceEqDiff,reduceCtorEq,decide_true,decide_false, he0]
      rfl
    rintro e' w' ⟨h0, h4, h5, t, sv, hk, h8, h6, h7, hok, hrun, hU⟩
    by_cases hlt : t.l.length < uN b
    · have d1 : decide ((t.l.length : Int) < ((uN b : Nat) : Int)) = true := decide_eq_true (by omega)
      try simp -dsimp only [↓RE,↓c_seq,RU,RL,if_true,if_false,forall_const,implies_true,Nat.reduceLeDiff,Nat.reduceLT,pureOp,binPure,intBin,strBin,eqPure,isConstO,unPure,sliceLo,sliceHi,slicePure,lenPure,minPure,maxPure,buildP,resK,endV,yieldE,↓reduceIte,Nat.reduceEqDiff,reduceCtorEq,Nat.reduceAdd,Nat.reduceMul,Nat.reduceSub,Int.reduceLT,Int.reduceLE,Int.reduceToNat,Int.reduceAdd,Int.reduceSub,Int.reduceMul,ne_eq,decide_true,decide_false,tf16, h0, h4, h5, h6, h7, h8, d1]
      refine faultR_ok hU.r ?_
      cases hf : t.s.fault with
      | some x =>
        have he : uT b = t := by rw [← hrun]; exact tsRun_fault (by rw [hf]; simp)
        try simp -dsimp only [↓RE,↓c_seq,RU,RL,if_true,if_false,forall_const,implies_true,Nat.reduceLeDiff,Nat.reduceLT,pureOp,binPure,intBin,strBin,eqPure,isConstO,unPure,sliceLo,sliceHi,slicePure,lenPure,minPure,maxPure,buildP,resK,endV,yieldE,↓reduceIte,Nat.reduceEqDiff,reduceCtorEq,Nat.reduceAdd,Nat.reduceMul,Nat.reduceSub,Int.reduceLT,Int.reduceLE,Int.reduceToNat,Int.reduceAdd,Int.reduceSub,Int.reduceMul,ne_eq,decide_true,decide_false,tf16, h0, h4, h5, h6, h7, h8, errV]
        refine hold_intro ⟨?_, ?_, sv, ?_, by rw [he]; exact hU⟩
        · simp -dsimp only [↓RE,RU,RL,if_true,if_false,↓reduceIte,Nat.reduceEqDiff,reduceCtorEq,decide_true,decide_false, h0]
        · simp -dsimp only [↓RE,RU,RL,if_true,if_false,↓reduceIte,Nat.reduceEqDiff,reduceCtorEq,decide_true,decide_false, h4]
        · simp -dsimp only [↓RE,RU,RL,if_true,if_false,↓reduceIte,Nat.reduceEqDiff,reduceCtorEq,decide_true,decide_false, h6]
      | none =>
        obtain ⟨m, hm⟩ : ∃ m, uN b - t.l.length = m + 1 := ⟨uN b - t.l.length - 1, by omega⟩
        rw [hm, tsRun_step hf] at hrun
        have hlen := tsStep_len t
        have hrun' : tsRun (uN b - (tsStep t).l.length) (tsStep t) = uT b := by rw [hlen, show uN b - (t.l.length + 1) = m by omega]; exact hrun
        have hok' := hok.step
        try simp -dsimp only [↓RE,↓c_seq,RU,RL,if_true,if_false,forall_const,implies_true,Nat.reduceLeDiff,Nat.reduceLT,pureOp,binPure,intBin,strBin,eqPure,isConstO,unPure,sliceLo,sliceHi,slicePure,lenPure,minPure,maxPure,buildP,resK,endV,yieldE,↓reduceIte,Nat.reduceEqDiff,reduceCtorEq,Nat.reduceAdd,Nat.reduceMul,Nat.reduceSub,Int.reduceLT,Int.reduceLE,Int.reduceToNat,Int.reduceAdd,Int.reduceSub,Int.reduceMul,ne_eq,decide_true,decide_false,tf16, h0, h4, h5, h6, h7, h8, errV]
        refine ⟨fun hk0 => ?_, fun hk0 => ?_⟩
        · have hst : tsStep t = ⟨(rNumber 18446744073709551615 2 t.s).1, t.g, t.l ++ [unfoldI (rNumber 18446744073709551615 2 t.s).2]⟩ := if_pos (by omega)
          refine intR_ok hU.r hok.s (fun w3 hR3 hK3 => ?_)
          have hU3 := hU.read (g := t.g) hR3 hK3
          try simp -dsimp only [↓RE,↓c_seq,RU,RL,if_true,if_false,forall_const,implies_true,Nat.reduceLeDiff,Nat.reduceLT,pureOp,binPure,intBin,strBin,eqPure,isConstO,unPure,sliceLo,sliceHi,slicePure,lenPure,minPure,maxPure,buildP,resK,endV,yieldE,↓reduceIte,Nat.reduceEqDiff,reduceCtorEq,Nat.reduceAdd,Nat.reduceMul,Nat.reduceSub,Int.reduceLT,Int.reduceLE,Int.reduceToNat,Int.reduceAdd,Int.reduceSub,Int.reduceMul,ne_eq,decide_true,decide_false,tf16, h0, h4, h5, h6, h7, h8]
          refine hU3.push (by show t.l.length ≤ 1048576; omega) (fun sv5 w5 hU5 => ?_)
          try simp -dsimp only [↓RE,↓c_seq,RU,RL,if_true,if_false,forall_const,implies_true,Nat.reduceLeDiff,Nat.reduceLT,pureOp,binPure,intBin,strBin,eqPure,isConstO,unPure,sliceLo,sliceHi,slicePure,lenPure,minPure,maxPure,buildP,resK,endV,yieldE,↓reduceIte,Nat.reduceEqDiff,reduceCtorEq,Nat.reduceAdd,Nat.reduceMul,Nat.reduceSub,Int.reduceLT,Int.reduceLE,Int.reduceToNat,Int.reduceAdd,Int.reduceSub,Int.reduceMul,ne_eq,decide_true,decide_false,tf16, h0, h4, h5, h6, h7, h8]
          refine hold_intro ⟨⟨?_, ?_, ?_, tsStep t, sv5, by rw [hlen]; omega, ?_, ?_, ?_, hok', hrun', by rw [hst]; exact hU5⟩, ?_⟩
          · simp -dsimp only [↓RE,RU,RL,if_true,if_false,↓reduceIte,Nat.reduceEqDiff,reduceCtorEq,decide_true,decide_false, h0]
          · simp -dsimp only [↓RE,RU,RL,if_true,if_false,↓reduceIte,Nat.reduceEqDiff,reduceCtorEq,decide_true,decide_false, h4]
          · simp -dsimp only [↓RE,RU,RL,if_true,if_false,↓reduceIte,Nat.reduceEqDiff,reduceCtorEq,decide_true,decide_false, h5]
          · simp -dsimp only [↓RE,RU,RL,if_true,if_false,↓reduceIte,Nat.reduceEqDiff,reduceCtorEq,decide_true,decide_false, h8]
            rw [wrap_i64_in (by omega) (by omega), hlen]; rfl
          · simp -dsimp only [↓RE,RU,RL,if_true,if_false,↓reduceIte,Nat.reduceEqDiff,reduceCtorEq,decide_true,decide_false, h6]
          · simp -dsimp only [↓RE,RU,RL,if_true,if_false,↓reduceIte,Nat.reduceEqDiff,reduceCtorEq,decide_true,decide_false, h7]
            rw [hst]
          · simp -dsimp only [↓RE,RU,RL,if_true,if_false,↓reduceIte,Nat.reduceEqDiff,reduceCtorEq,decide_true,decide_false, h8]
            rw [wrap_i64_in (by omega) (by omega), envInt_int, envInt_int]; omega
        try simp -dsimp only [↓RE,↓c_seq,RU,RL,if_true,if_false,forall_const,implies_true,Nat.reduceLeDiff,Nat.reduceLT,pureOp,binPure,intBin,strBin,eqPure,isConstO,unPure,sliceLo,sliceHi,slicePure,lenPure,minPure,maxPure,buildP,resK,endV,yieldE,↓reduceIte,Nat.reduceEqDiff,reduceCtorEq,Nat.reduceAdd,Nat.reduceMul,Nat.reduceSub,Int.reduceLT,Int.reduceLE,Int.reduceToNat,Int.reduceAdd,Int.reduceSub,Int.reduceMul,ne_eq,decide_true,decide_false,tf16, h0, h4, h5, h6, h7, h8]
        refine ⟨fun hk1 => ?_, fun hk1 => ?_⟩
        · have hst : tsStep t = ⟨(rNumber 18446744073709551615 2 t.s).1, (rNumber 18446744073709551615 2 t.s).2, t.l ++ [tNext t.l (rNumber 18446744073709551615 2 t.s).2]⟩ := by
            unfold tsStep; rw [if_neg (by omega), if_pos (by omega)]
          refine uintR_ok hU.r hok.s (by omega) (fun w3 hR3 hK3 => ?_)
          have hU3 := hU.read (g := (rNumber 18446744073709551615 2 t.s).2) hR3 hK3
          have v2 : IntKind.i64.wrap (IntKind.u64.wrap (IntKind.u64.wrap (t.l.getD (t.l.length - 1) 0) + (rNumber 18446744073709551615 2 t.s).2)) = tNext t.l (rNumber 18446744073709551615 2 t.s).2 := by
            unfold tNext; simp only [wrap_u64, wrap_i64]; omega
          try simp -dsimp only [↓RE,↓c_seq,RU,RL,if_true,if_false,forall_const,implies_true,Nat.reduceLeDiff,Nat.reduceLT,pureOp,binPure,intBin,strBin,eqPure,isConstO,unPure,sliceLo,sliceHi,slicePure,lenPure,minPure,maxPure,buildP,resK,endV,yieldE,↓reduceIte,Nat.reduceEqDiff,reduceCtorEq,Nat.reduceAdd,Nat.reduceMul,Nat.reduceSub,Int.reduceLT,Int.reduceLE,Int.reduceToNat,Int.reduceAdd,Int.reduceSub,Int.reduceMul,ne_eq,decide_true,decide_false,tf16, h0, h4, h5, h6, h7, h8]
          obtain ⟨A6, c6, rfl, _, _⟩ := own_form hU3.o
          obtain ⟨ad, hA6, hca⟩ := (Rd.of_own hU3.o).int (k := t.l.length - 1) (by show t.l.length - 1 < t.l.length; omega)
          subst hA6
          have v1 : IntKind.i64.wrap ((t.l.length : Int) - 1) = ((t.l.length - 1 : Nat) : Int) := by rw [wrap_i64_in (by omega) (by omega)]; omega
          try simp -dsimp only [↓RE,↓c_seq,RU,RL,if_true,if_false,forall_const,implies_true,Nat.reduceLeDiff,Nat.reduceLT,pureOp,binPure,intBin,strBin,eqPure,isConstO,unPure,sliceLo,sliceHi,slicePure,lenPure,minPure,maxPure,buildP,resK,endV,yieldE,↓reduceIte,Nat.reduceEqDiff,reduceCtorEq,Nat.reduceAdd,Nat.reduceMul,Nat.reduceSub,Int.reduceLT,Int.reduceLE,Int.reduceToNat,Int.reduceAdd,Int.reduceSub,Int.reduceMul,ne_eq,decide_true,decide_false,tf16, h0, h4, h5, h6, h7, h8, v1]
          refine ⟨⟨by omega, by omega⟩, ?_⟩
          try simp -dsimp only [↓RE,↓c_seq,RU,RL,if_true,if_false,forall_const,implies_true,Nat.reduceLeDiff,Nat.reduceLT,pureOp,binPure,intBin,strBin,eqPure,isConstO,unPure,sliceLo,sliceHi,slicePure,lenPure,minPure,maxPure,buildP,resK,endV,yieldE,↓reduceIte,Nat.reduceEqDiff,reduceCtorEq,Nat.reduceAdd,Nat.reduceMul,Nat.reduceSub,Int.reduceLT,Int.reduceLE,Int.reduceToNat,Int.reduceAdd,Int.reduceSub,Int.reduceMul,ne_eq,decide_true,decide_false,tf16, h0, h4, h5, h6, h7, h8, v1, hca, Int.toNat_natCast, v2]
          refine hU3.push (by show t.l.length ≤ 1048576; omega) (fun sv5 w5 hU5 => ?_)
          try simp -dsimp only [↓RE,↓c_seq,RU,RL,if_true,if_false,forall_const,implies_true,Nat.reduceLeDiff,Nat.reduceLT,pureOp,binPure,intBin,strBin,eqPure,isConstO,unPure,sliceLo,sliceHi,slicePure,lenPure,minPure,maxPure,buildP,resK,endV,yieldE,↓reduceIte,Nat.reduceEqDiff,reduceCtorEq,Nat.reduceAdd,Nat.reduceMul,Nat.reduceSub,Int.reduceLT,Int.reduceLE,Int.reduceToNat,Int.reduceAdd,Int.reduceSub,Int.reduceMul,ne_eq,decide_true,decide_false,tf16, h0, h4, h5, h6, h7, h8]
          refine hold_intro ⟨⟨?_, ?_, ?_, tsStep t, sv5, by rw [hlen]; omega, ?_, ?_, ?_, hok', hrun', by rw [hst]; exact hU5⟩, ?_⟩
          · simp -dsimp only [↓RE,RU,RL,if_true,if_false,↓reduceIte,Nat.reduceEqDiff,reduceCtorEq,decide_true,decide_false, h0]
          · simp -dsimp only [↓RE,RU,RL,if_true,if_false,↓reduceIte,Nat.reduceEqDiff,reduceCtorEq,decide_true,decide_false, h4]
          · simp -dsimp only [↓RE,RU,RL,if_true,if_false,↓reduceIte,Nat.reduceEqDiff,reduceCtorEq,decide_true,decide_false, h5]
          · simp -dsimp only [↓RE,RU,RL,if_true,if_false,↓reduceIte,Nat.reduceEqDiff,reduceCtorEq,decide_true,decide_false, h8]
            rw [wrap_i64_in (by omega) (by omega), hlen]; rfl
          · simp -dsimp only [↓RE,RU,RL,if_true,if_false,↓reduceIte,Nat.reduceEqDiff,reduceCtorEq,decide_true,decide_false, h6]
          · simp -dsimp only [↓RE,RU,RL,if_true,if_false,↓reduceIte,Nat.reduceEqDiff,reduceCtorEq,decide_true,decide_false, h7]
            rw [hst]
          · simp -dsimp only [↓RE,RU,RL,if_true,if_false,↓reduceIte,Nat.reduceEqDiff,reduceCtorEq,decide_true,decide_false, h8]
            rw [wrap_i64_in (by omega) (by omega), envInt_int, envInt_int]; omega
        · have hst : tsStep t = ⟨(rDelta t.s).1, IntKind.u64.wrap (t.g + (rDelta t.s).2), t.l ++ [tNext t.l (IntKind.u64.wrap (t.g + (rDelta t.s).2))]⟩ := by
            unfold tsStep; rw [if_neg (by omega), if_neg (by omega)]
          try simp -dsimp only [↓RE,↓c_seq,RU,RL,if_true,if_false,forall_const,implies_true,Nat.reduceLeDiff,Nat.reduceLT,pureOp,binPure,intBin,strBin,eqPure,isConstO,unPure,sliceLo,sliceHi,slicePure,lenPure,minPure,maxPure,buildP,resK,endV,yieldE,↓reduceIte,Nat.reduceEqDiff,reduceCtorEq,Nat.reduceAdd,Nat.reduceMul,Nat.reduceSub,Int.reduceLT,Int.reduceLE,Int.reduceToNat,Int.reduceAdd,Int.reduceSub,Int.reduceMul,ne_eq,decide_true,decide_false,tf16, h0, h4, h5, h6, h7, h8]
          refine undiff_ok hU.r hok.s (fun w3 hR3 hK3 => ?_)
          have hU3 := hU.read (g := IntKind.u64.wrap (t.g + (rDelta t.s).2)) hR3 hK3
          have v3 : IntKind.u64.wrap (t.g + IntKind.u64.wrap (rDelta t.s).2) = IntKind.u64.wrap (t.g + (rDelta t.s).2) := by simp only [wrap_u64]; omega
          have v2 : IntKind.i64.wrap (IntKind.u64.wrap (IntKind.u64.wrap (t.l.getD (t.l.length - 1) 0) + IntKind.u64.wrap (t.g + (rDelta t.s).2))) = tNext t.l (IntKind.u64.wrap (t.g + (rDelta t.s).2)) := by
            unfold tNext; simp only [wrap_u64, wrap_i64]; omega
          try simp -dsimp only [↓RE,↓c_seq,RU,RL,if_true,if_false,forall_const,implies_true,Nat.reduceLeDiff,Nat.reduceLT,pureOp,binPure,intBin,strBin,eqPure,isConstO,unPure,sliceLo,sliceHi,slicePure,lenPure,minPure,maxPure,buildP,resK,endV,yieldE,↓reduceIte,Nat.reduceEqDiff,reduceCtorEq,Nat.reduceAdd,Nat.reduceMul,Nat.reduceSub,Int.reduceLT,Int.reduceLE,Int.reduceToNat,Int.reduceAdd,Int.reduceSub,Int.reduceMul,ne_eq,decide_true,decide_false,tf16, h0, h4, h5, h6, h7, h8, v3]
          obtain ⟨A6, c6, rfl, _, _⟩ := own_form hU3.o
          obtain ⟨ad, hA6, hca⟩ := (Rd.of_own hU3.o).int (k := t.l.length - 1) (by show t.l.length - 1 < t.l.length; omega)
          subst hA6
          have v1 : IntKind.i64.wrap ((t.l.length : Int) - 1) = ((t.l.length - 1 : Nat) : Int) := by rw [wrap_i64_in (by omega) (by omega)]; omega
          try simp -dsimp only [↓RE,↓c_seq,RU,RL,if_true,if_false,forall_const,implies_true,Nat.reduceLeDiff,Nat.reduceLT,pureOp,binPure,intBin,strBin,eqPure,isConstO,unPure,sliceLo,sliceHi,slicePure,lenPure,minPure,maxPure,buildP,resK,endV,yieldE,↓reduceIte,Nat.reduceEqDiff,reduceCtorEq,Nat.reduceAdd,Nat.reduceMul,Nat.reduceSub,Int.reduceLT,Int.reduceLE,Int.reduceToNat,Int.reduceAdd,Int.reduceSub,Int.reduceMul,ne_eq,decide_true,decide_false,tf16, h0, h4, h5, h6, h7, h8, v3, v1]
          refine ⟨⟨by omega, by omega⟩, ?_⟩
          try simp -dsimp only [↓RE,↓c_seq,RU,RL,if_true,if_false,forall_const,implies_true,Nat.reduceLeDiff,Nat.reduceLT,pureOp,binPure,intBin,strBin,eqPure,isConstO,unPure,sliceLo,sliceHi,slicePure,lenPure,minPure,maxPure,buildP,resK,endV,yieldE,↓reduceIte,Nat.reduceEqDiff,reduceCtorEq,Nat.reduceAdd,Nat.reduceMul,Nat.reduceSub,Int.reduceLT,Int.reduceLE,Int.reduceToNat,Int.reduceAdd,Int.reduceSub,Int.reduceMul,ne_eq,decide_true,decide_false,tf16, h0, h4, h5, h6, h7, h8, v3, v1, hca, Int.toNat_natCast, v2]
          refine hU3.push (by show t.l.length ≤ 1048576; omega) (fun sv5 w5 hU5 => ?_)
          try simp -dsimp only [↓RE,↓c_seq,RU,RL,if_true,if_false,forall_const,implies_true,Nat.reduceLeDiff,Nat.reduceLT,pureOp,binPure,intBin,strBin,eqPure,isConstO,unPure,sliceLo,sliceHi,slicePure,lenPure,minPure,maxPure,buildP,resK,endV,yieldE,↓reduceIte,Nat.reduceEqDiff,reduceCtorEq,Nat.reduceAdd,Nat.reduceMul,Nat.reduceSub,Int.reduceLT,Int.reduceLE,Int.reduceToNat,Int.reduceAdd,Int.reduceSub,Int.reduceMul,ne_eq,decide_true,decide_false,tf16, h0, h4, h5, h6, h7, h8]
          refine hold_intro ⟨⟨?_, ?_, ?_, tsStep t, sv5, by rw [hlen]; omega, ?_, ?_, ?_, hok', hrun', by rw [hst]; exact hU5⟩, ?_⟩
          · simp -dsimp only [↓RE,RU,RL,if_true,if_false,↓reduceIte,Nat.reduceEqDiff,reduceCtorEq,decide_true,decide_false, h0]
          · simp -dsimp only [↓RE,RU,RL,if_true,if_false,↓reduceIte,Nat.reduceEqDiff,reduceCtorEq,decide_true,decide_false, h4]
          · simp -dsimp only [↓RE,RU,RL,if_true,if_false,↓reduceIte,Nat.reduceEqDiff,reduceCtorEq,decide_true,decide_false, h5]
          · simp -dsimp only [↓RE,RU,RL,if_true,if_false,↓reduceIte,Nat.reduceEqDiff,reduceCtorEq,decide_true,decide_false, h8]
            rw [wrap_i64_in (by omega) (by omega), hlen]; rfl
          · simp -dsimp only [↓RE,RU,RL,if_true,if_false,↓reduceIte,Nat.reduceEqDiff,reduceCtorEq,decide_true,decide_false, h6]
          · simp -dsimp only [↓RE,RU,RL,if_true,if_false,↓reduceIte,Nat.reduceEqDiff,reduceCtorEq,decide_true,decide_false, h7, v3]
            rw [hst]
          · simp -dsimp only [↓RE,RU,RL,if_true,if_false,↓reduceIte,Nat.reduceEqDiff,reduceCtorEq,decide_true,decide_false, h8]
            rw [wrap_i64_in (by omega) (by omega), envInt_int, envInt_int]; omega
    · have he : uT b = t := by rw [← hrun, show uN b - t.l.length = 0 by omega]; rfl
      have d1 : decide ((t.l.length : Int) < ((uN b : Nat) : Int)) = false := decide_eq_false (by omega)
      try simp -dsimp only [↓RE,↓c_seq,RU,RL,if_true,if_false,forall_const,implies_true,Nat.reduceLeDiff,Nat.reduceLT,pureOp,binPure,intBin,strBin,eqPure,isConstO,unPure,sliceLo,sliceHi,slicePure,lenPure,minPure,maxPure,buildP,resK,endV,yieldE,↓reduceIte,Nat.reduceEqDiff,reduceCtorEq,Nat.reduceAdd,Nat.reduceMul,Nat.reduceSub,Int.reduceLT,Int.reduceLE,Int.reduceToNat,Int.reduceAdd,Int.reduceSub,Int.reduceMul,ne_eq,decide_true,decide_false,tf16, h0, h4, h5, h6, h7, h8, d1, undef]
      refine hold_intro ⟨?_, ?_, sv, ?_, by rw [he]; exact hU⟩
      · simp -dsimp only [↓RE,RU,RL,if_true,if_false,↓reduceIte,Nat.reduceEqDiff,reduceCtorEq,decide_true,decide_false, h0]
      · simp -dsimp only [↓RE,RU,RL,if_true,if_false,↓reduceIte,Nat.reduceEqDiff,reduceCtorEq,decide_true,decide_false, h4]
      · simp -dsimp only [↓RE,RU,RL,if_true,if_false,↓reduceIte,Nat.reduceEqDiff,reduceCtorEq,decide_true,decide_false, h6]
  · rintro e3 w3 ⟨h0, h4, sv, h6, hU⟩
    try simp -dsimp only [↓RE,↓c_seq,RU,RL,if_true,if_false,forall_const,implies_true,Nat.reduceLeDiff,Nat.reduceLT,pureOp,binPure,intBin,strBin,eqPure,isConstO,unPure,sliceLo,sliceHi,slicePure,lenPure,minPure,maxPure,buildP,resK,endV,yieldE,↓reduceIte,Nat.reduceEqDiff,reduceCtorEq,Nat.reduceAdd,Nat.reduceMul,Nat.reduceSub,Int.reduceLT,Int.reduceLE,Int.reduceToNat,Int.reduceAdd,Int.reduceSub,Int.reduceMul,ne_eq,decide_true,decide_false,tf16, h0, h4, h6]
    refine doneR_ok hU.r (uT_ok hb (by omega)).s (fun w4 g4 => ?_)
    have hg4 := hU.g.trans g4
    cases hd : rDone (uT b).s with
    | some x =>
      try simp -dsimp only [↓RE,↓c_seq,RU,RL,if_true,if_false,forall_const,implies_true,Nat.reduceLeDiff,Nat.reduceLT,pureOp,binPure,intBin,strBin,eqPure,isConstO,unPure,sliceLo,sliceHi,slicePure,lenPure,minPure,maxPure,buildP,resK,endV,yieldE,↓reduceIte,Nat.reduceEqDiff,reduceCtorEq,Nat.reduceAdd,Nat.reduceMul,Nat.reduceSub,Int.reduceLT,Int.reduceLE,Int.reduceToNat,Int.reduceAdd,Int.reduceSub,Int.reduceMul,ne_eq,decide_true,decide_false,tf16, h0, h4, h6, hd, errV]
      exact h1 x w4 hd hg4
    | none =>
      obtain ⟨A6, c6, rfl, _, _⟩ := own_form hU.o
      have hO4 := own_grow hU.o g4
      have hln := uT_len b
      have htok := uT_ok hb (b := b) (by omega)
      try simp -dsimp only [↓RE,↓c_seq,RU,RL,if_true,if_false,forall_const,implies_true,Nat.reduceLeDiff,Nat.reduceLT,pureOp,binPure,intBin,strBin,eqPure,isConstO,unPure,sliceLo,sliceHi,slicePure,lenPure,minPure,maxPure,buildP,resK,endV,yieldE,↓reduceIte,Nat.reduceEqDiff,reduceCtorEq,Nat.reduceAdd,Nat.reduceMul,Nat.reduceSub,Int.reduceLT,Int.reduceLE,Int.reduceToNat,Int.reduceAdd,Int.reduceSub,Int.reduceMul,ne_eq,decide_true,decide_false,tf16, h0, h4, h6, hd, errV]
      refine times_ok (Rd.of_own hO4) htok.l (by omega) (fun er w5 hte g5 => ?_) (fun hte w5 A5 c5 hO5 g5 hF5 => ?_)
      · try simp -dsimp only [↓RE,↓c_seq,RU,RL,if_true,if_false,forall_const,implies_true,Nat.reduceLeDiff,Nat.reduceLT,pureOp,binPure,intBin,strBin,eqPure,isConstO,unPure,sliceLo,sliceHi,slicePure,lenPure,minPure,maxPure,buildP,resK,endV,yieldE,↓reduceIte,Nat.reduceEqDiff,reduceCtorEq,Nat.reduceAdd,Nat.reduceMul,Nat.reduceSub,Int.reduceLT,Int.reduceLE,Int.reduceToNat,Int.reduceAdd,Int.reduceSub,Int.reduceMul,ne_eq,decide_true,decide_false,tf16, h0, h4, h6, undef]
        refine fnew_ok (by decide) ?_
        try simp -dsimp only [↓RE,↓c_seq,RU,RL,if_true,if_false,forall_const,implies_true,Nat.reduceLeDiff,Nat.reduceLT,pureOp,binPure,intBin,strBin,eqPure,isConstO,unPure,sliceLo,sliceHi,slicePure,lenPure,minPure,maxPure,buildP,resK,endV,yieldE,↓reduceIte,Nat.reduceEqDiff,reduceCtorEq,Nat.reduceAdd,Nat.reduceMul,Nat.reduceSub,Int.reduceLT,Int.reduceLE,Int.reduceToNat,Int.reduceAdd,Int.reduceSub,Int.reduceMul,ne_eq,decide_true,decide_false,tf16, h0, h4, h6]
        exact h2 w5 hd (fun hq => by rw [hq.1] at hte; cases hte) (hg4.trans g5)
      have hwb := (tW_ok (uT b).l (uT b).l.length).2.1
      try simp -dsimp only [↓RE,↓c_seq,RU,RL,if_true,if_false,forall_const,implies_true,Nat.reduceLeDiff,Nat.reduceLT,pureOp,binPure,intBin,strBin,eqPure,isConstO,unPure,sliceLo,sliceHi,slicePure,lenPure,minPure,maxPure,buildP,resK,endV,yieldE,↓reduceIte,Nat.reduceEqDiff,reduceCtorEq,Nat.reduceAdd,Nat.reduceMul,Nat.reduceSub,Int.reduceLT,Int.reduceLE,Int.reduceToNat,Int.reduceAdd,Int.reduceSub,Int.reduceMul,ne_eq,decide_true,decide_false,tf16, h0, h4, h6]
      refine equal_ok (Rd.of_own hO5) (hR.grow (hg4.trans g5)) hwb hb (fun w6 g6 => ?_)
      by_cases hq : (tW (uT b).l (uT b).l.length).1 = b
      · have d6 : decide ((tW (uT b).l (uT b).l.length).1 = b) = true := decide_eq_true hq
        try simp -dsimp only [↓RE,↓c_seq,RU,RL,if_true,if_false,forall_const,implies_true,Nat.reduceLeDiff,Nat.reduceLT,pureOp,binPure,intBin,strBin,eqPure,isConstO,unPure,sliceLo,sliceHi,slicePure,lenPure,minPure,maxPure,buildP,resK,endV,yieldE,↓reduceIte,Nat.reduceEqDiff,reduceCtorEq,Nat.reduceAdd,Nat.reduceMul,Nat.reduceSub,Int.reduceLT,Int.reduceLE,Int.reduceToNat,Int.reduceAdd,Int.reduceSub,Int.reduceMul,ne_eq,decide_true,decide_false,tf16, h0, h4, h6, d6]
        exact h hd ⟨hte, hq⟩ w6 A6 c6 (own_grow (own_grow hO4 g5) g6) ((hg4.trans g5).trans g6) (fun k hk => Nat.le_trans hs1 (hU.f k ((fpV_fpA _ _ _ _).2 hk)))
      · have d6 : decide ((tW (uT b).l (uT b).l.length).1 = b) = false := decide_eq_false hq
        try simp -dsimp only [↓RE,↓c_seq,RU,RL,if_true,if_false,forall_const,implies_true,Nat.reduceLeDiff,Nat.reduceLT,pureOp,binPure,intBin,strBin,eqPure,isConstO,unPure,sliceLo,sliceHi,slicePure,lenPure,minPure,maxPure,buildP,resK,endV,yieldE,↓reduceIte,Nat.reduceEqDiff,reduceCtorEq,Nat.reduceAdd,Nat.reduceMul,Nat.reduceSub,Int.reduceLT,Int.reduceLE,Int.reduceToNat,Int.reduceAdd,Int.reduceSub,Int.reduceMul,ne_eq,decide_true,decide_false,tf16, h0, h4, h6, d6]
        refine fnew_ok (by decide) ?_
        try simp -dsimp only [↓RE,↓c_seq,RU,RL,if_true,if_false,forall_const,implies_true,Nat.reduceLeDiff,Nat.reduceLT,pureOp,binPure,intBin,strBin,eqPure,isConstO,unPure,sliceLo,sliceHi,slicePure,lenPure,minPure,maxPure,buildP,resK,endV,yieldE,↓reduceIte,Nat.reduceEqDiff,reduceCtorEq,Nat.reduceAdd,Nat.reduceMul,Nat.reduceSub,Int.reduceLT,Int.reduceLE,Int.reduceToNat,Int.reduceAdd,Int.reduceSub,Int.reduceMul,ne_eq,decide_true,decide_false,tf16, h0, h4, h6]
        exact h2 w6 hd (fun hg => hq hg.2) ((hg4.trans g5).trans g6)

end Go.Proofs.Ytmgiichlccdcfaa
