/- block.UnValues: what it reads, or what is wrong. -/
import Derived.Test.YtmgiichlccdcfaaUnval
import Derived.Test.YtmgiichlccdcfaaEqual
import Derived.Test.YtmgiichlccdcfaaHo9
set_option linter.unusedVariables false
set_option linter.unusedSimpArgs false
set_option maxRecDepth 100000
namespace Go.Proofs.Ytmgiichlccdcfaa
open Go

/-- the list so far, a row of one's own, beside a Reader and the last value. -/
structure UV (w : World) (lb : Nat) (F : Nat → Prop) (p : Nat) (t : US) (sv : Value) (w' : World) : Prop where
  r : RAt w' F p t.s
  o : w'.ownsRow 0 26 2 sv t.l.length (t.l.flatMap vcells)
  f : ∀ i, fpV sv i → lb < i
  g : Grow w w'
  b : w.heap.size ≤ lb
  lo : ∀ i, F i → w.heap.size ≤ i
  hi : ∀ i, F i → i < lb
  last : Blk w' lb 26 (vcells t.last)
theorem UV.read {w : World} {lb : Nat} {F : Nat → Prop} {p : Nat} {t : US} {sv : Value} {w' w2 : World} (h : UV w lb F p t sv w') {s : RS} (hR : RAt w2 F p s) (k : Keep (fun k => k = p) w' w2) : UV w lb F p ⟨s, t.last, t.ahead, t.l⟩ sv w2 := by
  have hp : F p := h.r.at
  have h1 := h.lo p hp
  have h2 := h.hi p hp
  exact ⟨hR, own_keep h.o k (fun i hi e => by have := h.f i hi; omega), h.f, h.g.above k (fun i hi e => by omega), h.b, h.lo, h.hi, h.last.keep k (by omega)⟩
theorem UV.put {w : World} {lb : Nat} {F : Nat → Prop} {p : Nat} {s : RS} {last : Int × Int} {ahead : Int} {l : List (Int × Int)} {sv : Value} {w' : World} (h : UV w lb F p ⟨s, last, ahead, l⟩ sv w') {v : Int × Int} {K : WK} {tk : Tok K}
    (hk : ∀ w2, (∀ ah, UV w lb F p ⟨s, v, ah, l⟩ sv w2) → K w2) : aggSt Try.prog w' ⟨lb, 0, none⟩ [.int .u8 v.1, .int .i64 v.2] K tk := by
  have hb := h.b
  refine h.last.stAgg (by simp [vcells]) (by simp [Value.oneCell']) (fun w2 hB2 hK2 => hk w2 (fun ah => ⟨h.r.keep hK2 (fun i hi e => by have := h.hi i hi; omega), own_keep h.o hK2 (fun i hi e => by have := h.f i hi; omega), h.f, h.g.above hK2 (fun i hi e => by omega), h.b, h.lo, h.hi, by simpa [vcells] using hB2⟩))
theorem UV.push {w : World} {lb : Nat} {F : Nat → Prop} {p : Nat} {s : RS} {last : Int × Int} {ahead : Int} {l : List (Int × Int)} {sv : Value} {w' : World} (h : UV w lb F p ⟨s, last, ahead, l⟩ sv w') (hl : l.length ≤ 1048576) {v : Int × Int} {K : VWK} {tk : Tok K}
    (hk : ∀ sv' w2, UV w lb F p ⟨s, last, ahead, l ++ [v]⟩ sv' w2 → K sv' w2) : appK Try.prog [78, 78] 78 [sv, .slice (some ⟨w'.heap.size, 0, none⟩) 1 1] (w'.alloc (.cells #[.int .u8 v.1, .int .i64 v.2] 26)) K tk := by
  have hb1 := Blk.new' w' 26 #[.int .u8 v.1, .int .i64 v.2]
  have ga1 := Grow.alloc w' (.cells #[.int .u8 v.1, .int .i64 v.2] 26)
  have hr1 : Rd (w'.alloc (.cells #[.int .u8 v.1, .int .i64 v.2] 26)) (some ⟨w'.heap.size, 0, none⟩) 1 2 (([v] : List (Int × Int)).flatMap vcells) := Rd.of_blk hb1 rfl
  have ho := h.o
  have hgs := h.g.size
  have hb := h.b
  have hlt := h.last.lt
  simp only at ho
  refine appK_own (m := 1) (bytes := 16) (by kernel_rfl) (own_grow ho ga1) hr1 (vcells_one _) (by show l.length + 1 ≤ maxLen; simp only [maxLen]; omega) (by show (l.length + 1) * 16 ≤ 140737488355328; omega) (fun A3 c3 w3 hO3 hK3 hF3 => ?_)
  refine hk _ w3 ⟨(h.r.grow ga1).keep hK3 (fun i hi hf => by have := h.hi i hi; have := h.f i hf; omega), ?_, fun i hi => (hF3 i hi).elim (h.f i) (fun q => ?_), (h.g.trans ga1).above hK3 (fun i hi hf => by have := h.f i hf; omega), h.b, h.lo, h.hi, (h.last.grow ga1).keep hK3 (fun hf => by have := h.f lb hf; omega)⟩
  · simp only [List.length_append, List.length_cons, List.length_nil, List.flatMap_append]; exact hO3
  · have := ga1.size
    omega

theorem unvalues_ok {w : World} {A : Option Addr} {n c : Nat} {b : List Int} (hR : Rd w A n 1 (b.map (Value.int .u8))) (hb : ∀ z ∈ b, 0 ≤ z ∧ z < 256) (hn : n ≤ 140737488355328) {R : VWK}
    (h1 : ∀ x w', rDone (uV b).s = some x → Grow w w' → R (.tuple #[.slice none 0 0, errV (some x)]) w')
    (h2 : ∀ w', rDone (uV b).s = none → ¬ VGood b → Grow w w' → R (.tuple #[.slice none 0 0, .iface 35 (.int .i64 90)]) w')
    (h : rDone (uV b).s = none → VGood b → ∀ w' A' c', w'.ownsRow 0 26 2 (.slice A' (uV b).l.length c') (uV b).l.length ((uV b).l.flatMap vcells) → Grow w w' → (∀ k, fpA A' k → w.heap.size ≤ k) →
      R (.tuple #[.slice A' (uV b).l.length c', .nilIface]) w') :
    CallsV Try.prog 29 [.slice A n c] w R := by
  have hl := hR.len1
  have hN := uN_le b
  refine calls_of_wpC mixed Try.func29 rfl (by kernel_rfl) ?_
  intro e he
  have he0 := he 0
  simp only [List.getD_cons_zero, List.getD_cons_succ] at he0
  clear he
  rw [c_seq]
  simp -dsimp only [↓RE,RU,RL,if_true,if_false,forall_const,implies_true,Nat.reduceLeDiff,Nat.reduceLT,pureOp,binPure,intBin,strBin,eqPure,isConstO,unPure,sliceLo,sliceHi,slicePure,lenPure,minPure,maxPure,buildP,resK,endV,yieldE,↓reduceIte,Nat.reduceEqDiff,reduceCtorEq,Nat.reduceAdd,Nat.reduceMul,Nat.reduceSub,Int.reduceLT,Int.reduceLE,Int.reduceToNat,Int.reduceAdd,Int.reduceSub,Int.reduceMul,ne_eq,decide_true,decide_false,tf29, he0]
  rw [c_seq]
  simp -dsimp only [↓RE,RU,RL,if_true,if_false,forall_const,implies_true,Nat.reduceLeDiff,Nat.reduceLT,pureOp,binPure,intBin,strBin,eqPure,isConstO,unPure,sliceLo,sliceHi,slicePure,lenPure,minPure,maxPure,buildP,resK,endV,yieldE,↓reduceIte,Nat.reduceEqDiff,reduceCtorEq,Nat.reduceAdd,Nat.reduceMul,Nat.reduceSub,Int.reduceLT,Int.reduceLE,Int.reduceToNat,Int.reduceAdd,Int.reduceSub,Int.reduceMul,ne_eq,decide_true,decide_false,tf29, he0]
  refine newReader_ok hR hn (fun w1 F p hR1 g1 hF1 => ?_)
  have hF1' := hR1.lt
  simp -dsimp only [↓RE,RU,RL,if_true,if_false,forall_const,implies_true,Nat.reduceLeDiff,Nat.reduceLT,pureOp,binPure,intBin,strBin,eqPure,isConstO,unPure,sliceLo,sliceHi,slicePure,lenPure,minPure,maxPure,buildP,resK,endV,yieldE,↓reduceIte,Nat.reduceEqDiff,reduceCtorEq,Nat.reduceAdd,Nat.reduceMul,Nat.reduceSub,Int.reduceLT,Int.reduceLE,Int.reduceToNat,Int.reduceAdd,Int.reduceSub,Int.reduceMul,ne_eq,decide_true,decide_false,tf29, he0]
  rw [c_seq]
  simp -dsimp only [↓RE,RU,RL,if_true,if_false,forall_const,implies_true,Nat.reduceLeDiff,Nat.reduceLT,pureOp,binPure,intBin,strBin,eqPure,isConstO,unPure,sliceLo,sliceHi,slicePure,lenPure,minPure,maxPure,buildP,resK,endV,yieldE,↓reduceIte,Nat.reduceEqDiff,reduceCtorEq,Nat.reduceAdd,Nat.reduceMul,Nat.reduceSub,Int.reduceLT,Int.reduceLE,Int.reduceToNat,Int.reduceAdd,Int.reduceSub,Int.reduceMul,ne_eq,decide_true,decide_false,tf29, he0]
  have ok0 := rs0_ok hb (by omega)
  refine uintR_ok hR1 ok0 (by omega) (fun w2 hR2 hK2 => ?_)
  have hn0 := rNumber_range ok0 1048576 2
  have hnm := rNumber_most (s := ⟨b, 0, 0, none⟩) (most := 1048576) (by omega) 2
  have hNe : IntKind.i64.wrap (rNumber 1048576 2 ⟨b, 0, 0, none⟩).2 = ((uN b : Nat) : Int) := by rw [wrap_i64_in (by omega) (by omega)]; unfold uN; omega
  simp -dsimp only [↓RE,RU,RL,if_true,if_false,forall_const,implies_true,Nat.reduceLeDiff,Nat.reduceLT,pureOp,binPure,intBin,strBin,eqPure,isConstO,unPure,sliceLo,sliceHi,slicePure,lenPure,minPure,maxPure,buildP,resK,endV,yieldE,↓reduceIte,Nat.reduceEqDiff,reduceCtorEq,Nat.reduceAdd,Nat.reduceMul,Nat.reduceSub,Int.reduceLT,Int.reduceLE,Int.reduceToNat,Int.reduceAdd,Int.reduceSub,Int.reduceMul,ne_eq,decide_true,decide_false,tf29, he0, hNe]
  rw [c_seq]
  simp -dsimp only [↓RE,RU,RL,if_true,if_false,forall_const,implies_true,Nat.reduceLeDiff,Nat.reduceLT,pureOp,binPure,intBin,strBin,eqPure,isConstO,unPure,sliceLo,sliceHi,slicePure,lenPure,minPure,maxPure,buildP,resK,endV,yieldE,↓reduceIte,Nat.reduceEqDiff,reduceCtorEq,Nat.reduceAdd,Nat.reduceMul,Nat.reduceSub,Int.reduceLT,Int.reduceLE,Int.reduceToNat,Int.reduceAdd,Int.reduceSub,Int.reduceMul,ne_eq,decide_true,decide_false,tf29, he0]
  rw [c_seq]
  simp -dsimp only [↓RE,RU,RL,if_true,if_false,forall_const,implies_true,Nat.reduceLeDiff,Nat.reduceLT,pureOp,binPure,intBin,strBin,eqPure,isConstO,unPure,sliceLo,sliceHi,slicePure,lenPure,minPure,maxPure,buildP,resK,endV,yieldE,↓reduceIte,Nat.reduceEqDiff,reduceCtorEq,Nat.reduceAdd,Nat.reduceMul,Nat.reduceSub,Int.reduceLT,Int.reduceLE,Int.reduceToNat,Int.reduceAdd,Int.reduceSub,Int.reduceMul,ne_eq,decide_true,decide_false,tf29, he0]
  have hs1 := g1.size
  have hs2 := hK2.size
  have hp1 := hR1.at
  have hz := Blk.new' w2 26 #[.int .u8 0, .int .i64 0]
  have ga := Grow.alloc w2 (.cells #[.int .u8 0, .int .i64 0] 26)
  have gw2 : Grow w w2 := g1.above hK2 (fun i hi e => by have := hF1 p hp1; omega)
  have hU0 : UV w w2.heap.size F p (uV0 b) (.slice none 0 0) (w2.alloc (.cells #[.int .u8 0, .int .i64 0] 26)) := ⟨hR2.grow ga, own_nil _ _ _, fun i hi => absurd hi (fpV_none _), gw2.trans ga, by omega, hF1, fun i hi => by have := hF1' i hi; omega, hz⟩
  rw [c_seq]
  simp -dsimp only [↓RE,RU,RL,if_true,if_false,forall_const,implies_true,Nat.reduceLeDiff,Nat.reduceLT,pureOp,binPure,intBin,strBin,eqPure,isConstO,unPure,sliceLo,sliceHi,slicePure,lenPure,minPure,maxPure,buildP,resK,endV,yieldE,↓reduceIte,Nat.reduceEqDiff,reduceCtorEq,Nat.reduceAdd,Nat.reduceMul,Nat.reduceSub,Int.reduceLT,Int.reduceLE,Int.reduceToNat,Int.reduceAdd,Int.reduceSub,Int.reduceMul,ne_eq,decide_true,decide_false,tf29, he0]
  generalize hw3 : w2.alloc (.cells #[.int .u8 0, .int .i64 0] 26) = w3 at *
  refine c_seq_cut (fun e' w' => e' 0 = .slice A n c ∧ e' 4 = .pointer (some ⟨p, 0, none⟩) ∧ ∃ sv, e' 6 = sv ∧ UV w w2.heap.size F p (uV b) sv w') ?_ ?_
  · try simp -dsimp only [↓RE,↓c_seq,RU,RL,if_true,if_false,forall_const,implies_true,Nat.reduceLeDiff,Nat.reduceLT,pureOp,binPure,intBin,strBin,eqPure,isConstO,unPure,sliceLo,sliceHi,slicePure,lenPure,minPure,maxPure,buildP,resK,endV,yieldE,↓reduceIte,Nat.reduceEqDiff,reduceCtorEq,Nat.reduceAdd,Nat.reduceMul,Nat.reduceSub,Int.reduceLT,Int.reduceLE,Int.reduceToNat,Int.reduceAdd,Int.reduceSub,Int.reduceMul,ne_eq,decide_true,decide_false,tf29, he0]
    refine wpLoop_intro (fun e' w' => e' 0 = .slice A n c ∧ e' 4 = .pointer (some ⟨p, 0, none⟩) ∧ e' 5 = .int .i64 (uN b : Nat) ∧ e' 7 = .pointer (some ⟨w2.heap.size, 0, none⟩) ∧ ∃ (t : US) (sv : Value), t.l.length ≤ uN b ∧ e' 6 = sv ∧ sv = .slice (match sv with | .slice a _ _ => a | _ => none) t.l.length (match sv with | .slice _ _ c => c | _ => 0) ∧ e' 8 = .int .i64 t.ahead ∧
        USok t ∧ usRun (uN b - t.l.length) t = uV b ∧ UV w w2.heap.size F p t sv w')
      (fun e' _ => uN b - (match e' 6 with | .slice _ m _ => m | _ => 0)) ⟨?_, ?_, ?_, ?_, uV0 b, .slice none 0 0, Nat.zero_le _, ?_, rfl, ?_, uV0_ok hb (by omega), rfl, hU0⟩ ?_
    · simp -dsimp only [↓RE,RU,RL,if_true,if_false,↓reduceIte,Nat.reduceEqDiff,reduceCtorEq,decide_true,decide_false, he0]
    · simp -dsimp only [↓RE,RU,RL,if_true,if_false,↓reduceIte,Nat.reduceEqDiff,reduceCtorEq,decide_true,decide_false, he0]
    · simp -dsimp only [↓RE,RU,RL,if_true,if_false,↓reduceIte,Nat.reduceEqDiff,reduceCtorEq,decide_true,decide_false, he0]
    · simp -dsimp only [↓RE,RU,RL,if_true,if_false,↓reduceIte,Nat.reduceEqDiff,reduceCtorEq,decide_true,decide_false, he0]
    · simp -dsimp only [↓RE,RU,RL,if_true,if_false,↓reduceIte,Nat.reduceEqDiff,reduceCtorEq,decide_true,decide_false, he0]
    · simp -dsimp only [↓RE,RU,RL,if_true,if_false,↓reduceIte,Nat.reduceEqDiff,reduceCtorEq,decide_true,decide_false, he0]
      rfl
    rintro e' w' ⟨h0, h4, h5, h7, t, sv, hk, h6, hsv, h8, hok, hrun, hU⟩
    obtain ⟨A6, c6, hq6, _, _⟩ := own_form hU.o
    subst hq6
    by_cases hlt : t.l.length < uN b
    · have d1 : decide ((t.l.length : Int) < ((uN b : Nat) : Int)) = true := decide_eq_true (by omega)
      try simp -dsimp only [↓RE,↓c_seq,RU,RL,if_true,if_false,forall_const,implies_true,Nat.reduceLeDiff,Nat.reduceLT,pureOp,binPure,intBin,strBin,eqPure,isConstO,unPure,sliceLo,sliceHi,slicePure,lenPure,minPure,maxPure,buildP,resK,endV,yieldE,↓reduceIte,Nat.reduceEqDiff,reduceCtorEq,Nat.reduceAdd,Nat.reduceMul,Nat.reduceSub,Int.reduceLT,Int.reduceLE,Int.reduceToNat,Int.reduceAdd,Int.reduceSub,Int.reduceMul,ne_eq,decide_true,decide_false,tf29, h0, h4, h5, h6, h7, h8, d1]
      refine faultR_ok hU.r ?_
      cases hf : t.s.fault with
      | some x =>
        have he : uV b = t := by rw [← hrun]; exact usRun_fault (by rw [hf]; simp)
        try simp -dsimp only [↓RE,↓c_seq,RU,RL,if_true,if_false,forall_const,implies_true,Nat.reduceLeDiff,Nat.reduceLT,pureOp,binPure,intBin,strBin,eqPure,isConstO,unPure,sliceLo,sliceHi,slicePure,lenPure,minPure,maxPure,buildP,resK,endV,yieldE,↓reduceIte,Nat.reduceEqDiff,reduceCtorEq,Nat.reduceAdd,Nat.reduceMul,Nat.reduceSub,Int.reduceLT,Int.reduceLE,Int.reduceToNat,Int.reduceAdd,Int.reduceSub,Int.reduceMul,ne_eq,decide_true,decide_false,tf29, h0, h4, h5, h6, h7, h8, errV]
        refine hold_intro ⟨?_, ?_, .slice A6 t.l.length c6, ?_, by rw [he]; exact hU⟩
        · simp -dsimp only [↓RE,RU,RL,if_true,if_false,↓reduceIte,Nat.reduceEqDiff,reduceCtorEq,decide_true,decide_false, h0]
        · simp -dsimp only [↓RE,RU,RL,if_true,if_false,↓reduceIte,Nat.reduceEqDiff,reduceCtorEq,decide_true,decide_false, h4]
        · simp -dsimp only [↓RE,RU,RL,if_true,if_false,↓reduceIte,Nat.reduceEqDiff,reduceCtorEq,decide_true,decide_false, h6]
      | none =>
        obtain ⟨m, hm⟩ : ∃ m, uN b - t.l.length = m + 1 := ⟨uN b - t.l.length - 1, by omega⟩
        rw [hm, usRun_step hf] at hrun
        have hlen := usStep_len t
        have hrun' : usRun (uN b - (usStep t).l.length) (usStep t) = uV b := by rw [hlen, show uN b - (t.l.length + 1) = m by omega]; exact hrun
        have hok' := hok.step
        try simp -dsimp only [↓RE,↓c_seq,RU,RL,if_true,if_false,forall_const,implies_true,Nat.reduceLeDiff,Nat.reduceLT,pureOp,binPure,intBin,strBin,eqPure,isConstO,unPure,sliceLo,sliceHi,slicePure,lenPure,minPure,maxPure,buildP,resK,endV,yieldE,↓reduceIte,Nat.reduceEqDiff,reduceCtorEq,Nat.reduceAdd,Nat.reduceMul,Nat.reduceSub,Int.reduceLT,Int.reduceLE,Int.reduceToNat,Int.reduceAdd,Int.reduceSub,Int.reduceMul,ne_eq,decide_true,decide_false,tf29, h0, h4, h5, h6, h7, h8, errV]
        refine hU.last.aggK (by simp [vcells]) ?_
        try simp -dsimp only [↓RE,↓c_seq,RU,RL,if_true,if_false,forall_const,implies_true,Nat.reduceLeDiff,Nat.reduceLT,pureOp,binPure,intBin,strBin,eqPure,isConstO,unPure,sliceLo,sliceHi,slicePure,lenPure,minPure,maxPure,buildP,resK,endV,yieldE,↓reduceIte,Nat.reduceEqDiff,reduceCtorEq,Nat.reduceAdd,Nat.reduceMul,Nat.reduceSub,Int.reduceLT,Int.reduceLE,Int.reduceToNat,Int.reduceAdd,Int.reduceSub,Int.reduceMul,ne_eq,decide_true,decide_false,tf29, h0, h4, h5, h6, h7, h8, vcells, List.drop_zero, List.take_succ_cons, List.take_zero]
        refine unvalue_ok hU.r hok.s hok.last hok.ahead.1 hok.ahead.2 (fun w4 hR4 hK4 => ?_)
        have hU4 := hU.read hR4 hK4
        have hst : usStep t = ⟨(rVal t.s t.last t.ahead).1, (rVal t.s t.last t.ahead).2, if (rVal t.s t.last t.ahead).2.1 = 0 then (rVal t.s t.last t.ahead).2.2 else t.ahead, t.l ++ [(rVal t.s t.last t.ahead).2]⟩ := rfl
        generalize (rVal t.s t.last t.ahead).1 = s4 at *
        generalize (rVal t.s t.last t.ahead).2 = v4 at *
        try simp -dsimp only [↓RE,↓c_seq,RU,RL,if_true,if_false,forall_const,implies_true,Nat.reduceLeDiff,Nat.reduceLT,pureOp,binPure,intBin,strBin,eqPure,isConstO,unPure,sliceLo,sliceHi,slicePure,lenPure,minPure,maxPure,buildP,resK,endV,yieldE,↓reduceIte,Nat.reduceEqDiff,reduceCtorEq,Nat.reduceAdd,Nat.reduceMul,Nat.reduceSub,Int.reduceLT,Int.reduceLE,Int.reduceToNat,Int.reduceAdd,Int.reduceSub,Int.reduceMul,ne_eq,decide_true,decide_false,tf29, h0, h4, h5, h6, h7, h8]
        refine hU4.put (v := v4) (fun w5 hU5 => ?_)
        have hl5 := (hU5 0).last
        try simp -dsimp only [↓RE,↓c_seq,RU,RL,if_true,if_false,forall_const,implies_true,Nat.reduceLeDiff,Nat.reduceLT,pureOp,binPure,intBin,strBin,eqPure,isConstO,unPure,sliceLo,sliceHi,slicePure,lenPure,minPure,maxPure,buildP,resK,endV,yieldE,↓reduceIte,Nat.reduceEqDiff,reduceCtorEq,Nat.reduceAdd,Nat.reduceMul,Nat.reduceSub,Int.reduceLT,Int.reduceLE,Int.reduceToNat,Int.reduceAdd,Int.reduceSub,Int.reduceMul,ne_eq,decide_true,decide_false,tf29, h0, h4, h5, h6, h7, h8, hl5.cell, vcells]
        refine ⟨fun hz0 => ?_, fun hz0 => ?_⟩
        all_goals
          try simp -dsimp only [↓RE,↓c_seq,RU,RL,if_true,if_false,forall_const,implies_true,Nat.reduceLeDiff,Nat.reduceLT,pureOp,binPure,intBin,strBin,eqPure,isConstO,unPure,sliceLo,sliceHi,slicePure,lenPure,minPure,maxPure,buildP,resK,endV,yieldE,↓reduceIte,Nat.reduceEqDiff,reduceCtorEq,Nat.reduceAdd,Nat.reduceMul,Nat.reduceSub,Int.reduceLT,Int.reduceLE,Int.reduceToNat,Int.reduceAdd,Int.reduceSub,Int.reduceMul,ne_eq,decide_true,decide_false,tf29, h0, h4, h5, h6, h7, h8, hl5.cell, vcells]
          refine hl5.aggK (by simp [vcells]) ?_
          try simp -dsimp only [↓RE,↓c_seq,RU,RL,if_true,if_false,forall_const,implies_true,Nat.reduceLeDiff,Nat.reduceLT,pureOp,binPure,intBin,strBin,eqPure,isConstO,unPure,sliceLo,sliceHi,slicePure,lenPure,minPure,maxPure,buildP,resK,endV,yieldE,↓reduceIte,Nat.reduceEqDiff,reduceCtorEq,Nat.reduceAdd,Nat.reduceMul,Nat.reduceSub,Int.reduceLT,Int.reduceLE,Int.reduceToNat,Int.reduceAdd,Int.reduceSub,Int.reduceMul,ne_eq,decide_true,decide_false,tf29, h0, h4, h5, h6, h7, h8, vcells, List.drop_zero, List.take_succ_cons, List.take_zero]
        · rw [if_pos hz0] at hst
          refine (hU5 v4.2).push (v := v4) (by omega) (fun sv6 w6 hU6 => ?_)
          obtain ⟨A7, c7, hq7, _, _⟩ := own_form hU6.o
          subst hq7
          have hlq : (t.l ++ [v4]).length = t.l.length + 1 := by simp
          try simp -dsimp only [↓RE,↓c_seq,RU,RL,if_true,if_false,forall_const,implies_true,Nat.reduceLeDiff,Nat.reduceLT,pureOp,binPure,intBin,strBin,eqPure,isConstO,unPure,sliceLo,sliceHi,slicePure,lenPure,minPure,maxPure,buildP,resK,endV,yieldE,↓reduceIte,Nat.reduceEqDiff,reduceCtorEq,Nat.reduceAdd,Nat.reduceMul,Nat.reduceSub,Int.reduceLT,Int.reduceLE,Int.reduceToNat,Int.reduceAdd,Int.reduceSub,Int.reduceMul,ne_eq,decide_true,decide_false,tf29, h0, h4, h5, h6, h7, h8]
          refine hold_intro ⟨⟨?_, ?_, ?_, ?_, usStep t, .slice A7 (t.l ++ [v4]).length c7, by rw [hlen]; omega, ?_, ?_, ?_, hok', hrun', by rw [hst]; exact hU6⟩, ?_⟩
          · simp -dsimp only [↓RE,RU,RL,if_true,if_false,↓reduceIte,Nat.reduceEqDiff,reduceCtorEq,decide_true,decide_false, h0]
          · simp -dsimp only [↓RE,RU,RL,if_true,if_false,↓reduceIte,Nat.reduceEqDiff,reduceCtorEq,decide_true,decide_false, h4]
          · simp -dsimp only [↓RE,RU,RL,if_true,if_false,↓reduceIte,Nat.reduceEqDiff,reduceCtorEq,decide_true,decide_false, h5]
          · simp -dsimp only [↓RE,RU,RL,if_true,if_false,↓reduceIte,Nat.reduceEqDiff,reduceCtorEq,decide_true,decide_false, h7]
          · simp -dsimp only [↓RE,RU,RL,if_true,if_false,↓reduceIte,Nat.reduceEqDiff,reduceCtorEq,decide_true,decide_false, h6]
          · rw [hst]
          · simp -dsimp only [↓RE,RU,RL,if_true,if_false,↓reduceIte,Nat.reduceEqDiff,reduceCtorEq,decide_true,decide_false, h8]
            rw [hst]
          · simp -dsimp only [↓RE,RU,RL,if_true,if_false,↓reduceIte,Nat.reduceEqDiff,reduceCtorEq,decide_true,decide_false, h6]
            rw [hlq]; omega
        · rw [if_neg hz0] at hst
          refine (hU5 t.ahead).push (v := v4) (by omega) (fun sv6 w6 hU6 => ?_)
          obtain ⟨A7, c7, hq7, _, _⟩ := own_form hU6.o
          subst hq7
          have hlq : (t.l ++ [v4]).length = t.l.length + 1 := by simp
          try simp -dsimp only [↓RE,↓c_seq,RU,RL,if_true,if_false,forall_const,implies_true,Nat.reduceLeDiff,Nat.reduceLT,pureOp,binPure,intBin,strBin,eqPure,isConstO,unPure,sliceLo,sliceHi,slicePure,lenPure,minPure,maxPure,buildP,resK,endV,yieldE,↓reduceIte,Nat.reduceEqDiff,reduceCtorEq,Nat.reduceAdd,Nat.reduceMul,Nat.reduceSub,Int.reduceLT,Int.reduceLE,Int.reduceToNat,Int.reduceAdd,Int.reduceSub,Int.reduceMul,ne_eq,decide_true,decide_false,tf29, h0, h4, h5, h6, h7, h8]
          refine hold_intro ⟨⟨?_, ?_, ?_, ?_, usStep t, .slice A7 (t.l ++ [v4]).length c7, by rw [hlen]; omega, ?_, ?_, ?_, hok', hrun', by rw [hst]; exact hU6⟩, ?_⟩
          · simp -dsimp only [↓RE,RU,RL,if_true,if_false,↓reduceIte,Nat.reduceEqDiff,reduceCtorEq,decide_true,decide_false, h0]
          · simp -dsimp only [↓RE,RU,RL,if_true,if_false,↓reduceIte,Nat.reduceEqDiff,reduceCtorEq,decide_true,decide_false, h4]
          · simp -dsimp only [↓RE,RU,RL,if_true,if_false,↓reduceIte,Nat.reduceEqDiff,reduceCtorEq,decide_true,decide_false, h5]
          · simp -dsimp only [↓RE,RU,RL,if_true,if_false,↓reduceIte,Nat.reduceEqDiff,reduceCtorEq,decide_true,decide_false, h7]
          · simp -dsimp only [↓RE,RU,RL,if_true,if_false,↓reduceIte,Nat.reduceEqDiff,reduceCtorEq,decide_true,decide_false, h6]
          · rw [hst]
          · simp -dsimp only [↓RE,RU,RL,if_true,if_false,↓reduceIte,Nat.reduceEqDiff,reduceCtorEq,decide_true,decide_false, h8]
            rw [hst]
          · simp -dsimp only [↓RE,RU,RL,if_true,if_false,↓reduceIte,Nat.reduceEqDiff,reduceCtorEq,decide_true,decide_false, h6]
            rw [hlq]; omega
    · have he : uV b = t := by rw [← hrun, show uN b - t.l.length = 0 by omega]; rfl
      have d1 : decide ((t.l.length : Int) < ((uN b : Nat) : Int)) = false := decide_eq_false (by omega)
      try simp -dsimp only [↓RE,↓c_seq,RU,RL,if_true,if_false,forall_const,implies_true,Nat.reduceLeDiff,Nat.reduceLT,pureOp,binPure,intBin,strBin,eqPure,isConstO,unPure,sliceLo,sliceHi,slicePure,lenPure,minPure,maxPure,buildP,resK,endV,yieldE,↓reduceIte,Nat.reduceEqDiff,reduceCtorEq,Nat.reduceAdd,Nat.reduceMul,Nat.reduceSub,Int.reduceLT,Int.reduceLE,Int.reduceToNat,Int.reduceAdd,Int.reduceSub,Int.reduceMul,ne_eq,decide_true,decide_false,tf29, h0, h4, h5, h6, h7, h8, d1, undef]
      refine hold_intro ⟨?_, ?_, .slice A6 t.l.length c6, ?_, by rw [he]; exact hU⟩
      · simp -dsimp only [↓RE,RU,RL,if_true,if_false,↓reduceIte,Nat.reduceEqDiff,reduceCtorEq,decide_true,decide_false, h0]
      · simp -dsimp only [↓RE,RU,RL,if_true,if_false,↓reduceIte,Nat.reduceEqDiff,reduceCtorEq,decide_true,decide_false, h4]
      · simp -dsimp only [↓RE,RU,RL,if_true,if_false,↓reduceIte,Nat.reduceEqDiff,reduceCtorEq,decide_true,decide_false, h6]
  · rintro e3 w3 ⟨h0, h4, sv, h6, hU⟩
    try simp -dsimp only [↓RE,↓c_seq,RU,RL,if_true,if_false,forall_const,implies_true,Nat.reduceLeDiff,Nat.reduceLT,pureOp,binPure,intBin,strBin,eqPure,isConstO,unPure,sliceLo,sliceHi,slicePure,lenPure,minPure,maxPure,buildP,resK,endV,yieldE,↓reduceIte,Nat.reduceEqDiff,reduceCtorEq,Nat.reduceAdd,Nat.reduceMul,Nat.reduceSub,Int.reduceLT,Int.reduceLE,Int.reduceToNat,Int.reduceAdd,Int.reduceSub,Int.reduceMul,ne_eq,decide_true,decide_false,tf29, h0, h4, h6]
    refine doneR_ok hU.r (uV_ok hb (by omega)).s (fun w4 g4 => ?_)
    have hg4 := hU.g.trans g4
    cases hd : rDone (uV b).s with
    | some x =>
      try simp -dsimp only [↓RE,↓c_seq,RU,RL,if_true,if_false,forall_const,implies_true,Nat.reduceLeDiff,Nat.reduceLT,pureOp,binPure,intBin,strBin,eqPure,isConstO,unPure,sliceLo,sliceHi,slicePure,lenPure,minPure,maxPure,buildP,resK,endV,yieldE,↓reduceIte,Nat.reduceEqDiff,reduceCtorEq,Nat.reduceAdd,Nat.reduceMul,Nat.reduceSub,Int.reduceLT,Int.reduceLE,Int.reduceToNat,Int.reduceAdd,Int.reduceSub,Int.reduceMul,ne_eq,decide_true,decide_false,tf29, h0, h4, h6, hd, errV]
      exact h1 x w4 hd hg4
    | none =>
      obtain ⟨A6, c6, rfl, _, _⟩ := own_form hU.o
      have hO4 := own_grow hU.o g4
      have hln := uV_len b
      have htok := uV_ok hb (b := b) (by omega)
      try simp -dsimp only [↓RE,↓c_seq,RU,RL,if_true,if_false,forall_const,implies_true,Nat.reduceLeDiff,Nat.reduceLT,pureOp,binPure,intBin,strBin,eqPure,isConstO,unPure,sliceLo,sliceHi,slicePure,lenPure,minPure,maxPure,buildP,resK,endV,yieldE,↓reduceIte,Nat.reduceEqDiff,reduceCtorEq,Nat.reduceAdd,Nat.reduceMul,Nat.reduceSub,Int.reduceLT,Int.reduceLE,Int.reduceToNat,Int.reduceAdd,Int.reduceSub,Int.reduceMul,ne_eq,decide_true,decide_false,tf29, h0, h4, h6, hd, errV]
      refine values_ok (Rd.of_own hO4) htok.l (by omega) (fun er w5 hte g5 => ?_) (fun hte w5 A5 c5 hO5 g5 hF5 => ?_)
      · try simp -dsimp only [↓RE,↓c_seq,RU,RL,if_true,if_false,forall_const,implies_true,Nat.reduceLeDiff,Nat.reduceLT,pureOp,binPure,intBin,strBin,eqPure,isConstO,unPure,sliceLo,sliceHi,slicePure,lenPure,minPure,maxPure,buildP,resK,endV,yieldE,↓reduceIte,Nat.reduceEqDiff,reduceCtorEq,Nat.reduceAdd,Nat.reduceMul,Nat.reduceSub,Int.reduceLT,Int.reduceLE,Int.reduceToNat,Int.reduceAdd,Int.reduceSub,Int.reduceMul,ne_eq,decide_true,decide_false,tf29, h0, h4, h6, undef]
        refine fnew_ok (by decide) ?_
        try simp -dsimp only [↓RE,↓c_seq,RU,RL,if_true,if_false,forall_const,implies_true,Nat.reduceLeDiff,Nat.reduceLT,pureOp,binPure,intBin,strBin,eqPure,isConstO,unPure,sliceLo,sliceHi,slicePure,lenPure,minPure,maxPure,buildP,resK,endV,yieldE,↓reduceIte,Nat.reduceEqDiff,reduceCtorEq,Nat.reduceAdd,Nat.reduceMul,Nat.reduceSub,Int.reduceLT,Int.reduceLE,Int.reduceToNat,Int.reduceAdd,Int.reduceSub,Int.reduceMul,ne_eq,decide_true,decide_false,tf29, h0, h4, h6]
        exact h2 w5 hd (fun hq => by rw [hq.1] at hte; cases hte) (hg4.trans g5)
      have hwb := (vS_ok (uV b).l (uV b).l.length).2.1
      try simp -dsimp only [↓RE,↓c_seq,RU,RL,if_true,if_false,forall_const,implies_true,Nat.reduceLeDiff,Nat.reduceLT,pureOp,binPure,intBin,strBin,eqPure,isConstO,unPure,sliceLo,sliceHi,slicePure,lenPure,minPure,maxPure,buildP,resK,endV,yieldE,↓reduceIte,Nat.reduceEqDiff,reduceCtorEq,Nat.reduceAdd,Nat.reduceMul,Nat.reduceSub,Int.reduceLT,Int.reduceLE,Int.reduceToNat,Int.reduceAdd,Int.reduceSub,Int.reduceMul,ne_eq,decide_true,decide_false,tf29, h0, h4, h6]
      refine equal_ok (Rd.of_own hO5) (hR.grow (hg4.trans g5)) hwb hb (fun w6 g6 => ?_)
      by_cases hq : (vS (uV b).l (uV b).l.length).q.1 = b
      · have d6 : decide ((vS (uV b).l (uV b).l.length).q.1 = b) = true := decide_eq_true hq
        try simp -dsimp only [↓RE,↓c_seq,RU,RL,if_true,if_false,forall_const,implies_true,Nat.reduceLeDiff,Nat.reduceLT,pureOp,binPure,intBin,strBin,eqPure,isConstO,unPure,sliceLo,sliceHi,slicePure,lenPure,minPure,maxPure,buildP,resK,endV,yieldE,↓reduceIte,Nat.reduceEqDiff,reduceCtorEq,Nat.reduceAdd,Nat.reduceMul,Nat.reduceSub,Int.reduceLT,Int.reduceLE,Int.reduceToNat,Int.reduceAdd,Int.reduceSub,Int.reduceMul,ne_eq,decide_true,decide_false,tf29, h0, h4, h6, d6]
        exact h hd ⟨hte, hq⟩ w6 A6 c6 (own_grow (own_grow hO4 g5) g6) ((hg4.trans g5).trans g6) (fun k hk => by have := hU.f k ((fpV_fpA _ _ _ _).2 hk); omega)
      · have d6 : decide ((vS (uV b).l (uV b).l.length).q.1 = b) = false := decide_eq_false hq
        try simp -dsimp only [↓RE,↓c_seq,RU,RL,if_true,if_false,forall_const,implies_true,Nat.reduceLeDiff,Nat.reduceLT,pureOp,binPure,intBin,strBin,eqPure,isConstO,unPure,sliceLo,sliceHi,slicePure,lenPure,minPure,maxPure,buildP,resK,endV,yieldE,↓reduceIte,Nat.reduceEqDiff,reduceCtorEq,Nat.reduceAdd,Nat.reduceMul,Nat.reduceSub,Int.reduceLT,Int.reduceLE,Int.reduceToNat,Int.reduceAdd,Int.reduceSub,Int.reduceMul,ne_eq,decide_true,decide_false,tf29, h0, h4, h6, d6]
        refine fnew_ok (by decide) ?_
        try simp -dsimp only [↓RE,↓c_seq,RU,RL,if_true,if_false,forall_const,implies_true,Nat.reduceLeDiff,Nat.reduceLT,pureOp,binPure,intBin,strBin,eqPure,isConstO,unPure,sliceLo,sliceHi,slicePure,lenPure,minPure,maxPure,buildP,resK,endV,yieldE,↓reduceIte,Nat.reduceEqDiff,reduceCtorEq,Nat.reduceAdd,Nat.reduceMul,Nat.reduceSub,Int.reduceLT,Int.reduceLE,Int.reduceToNat,Int.reduceAdd,Int.reduceSub,Int.reduceMul,ne_eq,decide_true,decide_false,tf29, h0, h4, h6]
        exact h2 w6 hd (fun hg => hq hg.2) ((hg4.trans g5).trans g6)

end Go.Proofs.Ytmgiichlccdcfaa
