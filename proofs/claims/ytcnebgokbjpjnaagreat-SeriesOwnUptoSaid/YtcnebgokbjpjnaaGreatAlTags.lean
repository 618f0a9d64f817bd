/- weirmem.Book.aloneTags: lists that are each in memory of their own show in no other. -/
import Derived.Test.YtcnebgokbjpjnaaGreatShelfL
import Derived.Test.YtcnebgokbjpjnaaGreatSame
import Derived.Test.YtcnebgokbjpjnaaGreatTab
import Derived.Test.YtcnebgokbjpjnaaGreatArith
import Derived.Test.YtcnebgokbjpjnaaGreatMarkT
set_option linter.unusedVariables false
set_option linter.unusedSimpArgs false
set_option maxRecDepth 100000
set_option maxHeartbeats 1000000
namespace Go.Proofs.YtcnebgokbjpjnaaGreat
open Go

def markTags (i : Nat) : List Value := [.string (textS i), .string .empty]
theorem alTags_ok {w : World} {p : Nat} {cs : List Value} (hB : Blk w p 58 cs) {vs : List Value} {B : Option Addr} {C : Nat} (hi : cs[5]? = some (.slice B vs.length C)) (hO : LRow w 91 1 (.slice B vs.length C) vs.length vs)
    {cont : Nat → List Value} (hS : Held w 119 2 32 vs cont) (hN : vs.length ≤ 1099511627776) {R : VWK} (h : ∀ w', Keep (fpL vs) w w' → R (.bool true) w') :
    CallsV Tryz.prog 42 [.pointer (some ⟨p, 0, none⟩)] w R := by
  have hm1 : ∀ i, ∀ u ∈ markTags i, u.oneCell' = true := by intro i; simp [markTags, Value.oneCell']
  have hml : ∀ i, (markTags i).length = 2 := fun i => rfl
  -- the book and its list stay, whatever of the rows is turned
  have hpb : ¬ fpL vs p := by
    rintro ⟨v, hv, hk⟩
    obtain ⟨i, hi⟩ := List.mem_iff_getElem?.1 hv
    exact LRow.blk_ne (hS.own i v hi) hB (by decide) hk
  have hpl : ∀ k, fpV (.slice B vs.length C) k → ¬ fpL vs k := by
    rintro k hk ⟨v, hv, hk'⟩
    obtain ⟨i, hi⟩ := List.mem_iff_getElem?.1 hv
    exact LRow.ne (hS.own i v hi) hO (by decide) k hk' hk
  have stay : ∀ {w' : World}, Keep (fpL vs) w w' → w'.cell? ⟨p, 5, none⟩ = some (.slice B vs.length C) ∧ Rd w' B vs.length 1 vs := fun k =>
    ⟨((hB.keep k hpb).cell 5).trans hi, LRow.rd (LRow.keep hO k hpl)⟩
  have one : ∀ {w' : World} {i : Nat}, Keep (fpL vs) w w' → i < vs.length → ∃ bd, B = some bd ∧ ∃ v, vs[i]? = some v ∧ w'.cell? (bd.add i) = some v := by
    intro w' i k hi
    obtain ⟨bd, u, e, hu, hc⟩ := (stay k).2.cell1 hi
    exact ⟨bd, e, u, hu, hc⟩
  have hrep : ∀ {w' : World} {A : Option Addr} {m i k : Nat}, Rd w' A m 2 (rep m (markTags i)) → k < m → ∃ ad, A = some ad ∧ ∀ j u, (markTags i)[j]? = some u → w'.cell? (ad.add (k * 2 + j)) = some u := by
    intro w' A m i k hr hk
    obtain ⟨ad, e, hc⟩ := hr.2 (by omega)
    exact ⟨ad, e, fun j u hu => hc _ u (rep_get (hml i) hk hu)⟩
  refine calls_of_wpC mixed Tryz.func42 rfl (by kernel_rfl) ?_
  intro e he
  have he0 := he 0
  simp only [List.getD_cons_zero, List.getD_cons_succ] at he0
  clear he
  rw [c_seq]
  simp -dsimp only [↓RE,RU,RL,if_true,if_false,forall_const,implies_true,Nat.reduceLeDiff,Nat.reduceLT,pureOp,binPure,intBin,strBin,eqPure,isConstO,unPure,sliceLo,sliceHi,slicePure,slice3Pure,lenPure,capPure,minPure,maxPure,buildP,resK,endV,yieldE,↓reduceIte,Nat.reduceEqDiff,reduceCtorEq,Nat.reduceAdd,Nat.reduceMul,Nat.reduceSub,Int.reduceLT,Int.reduceLE,Int.reduceToNat,Int.reduceAdd,Int.reduceSub,Int.reduceMul,ne_eq,decide_true,decide_false,tf42, he0]
  -- written over
  refine c_seq_cut (fun e' w' => e' 0 = .pointer (some ⟨p, 0, none⟩) ∧ ∃ ct, Held w' 119 2 32 vs ct ∧ (∀ j, j < vs.length → ct j = rep (slen (vs.getD j .nilIface)) (markTags j)) ∧ Keep (fpL vs) w w') ?_ ?_
  · try simp -dsimp only [↓RE,↓c_seq,RU,RL,if_true,if_false,forall_const,implies_true,Nat.reduceLeDiff,Nat.reduceLT,pureOp,binPure,intBin,strBin,eqPure,isConstO,unPure,sliceLo,sliceHi,slicePure,slice3Pure,lenPure,capPure,minPure,maxPure,buildP,resK,endV,yieldE,↓reduceIte,Nat.reduceEqDiff,reduceCtorEq,Nat.reduceAdd,Nat.reduceMul,Nat.reduceSub,Int.reduceLT,Int.reduceLE,Int.reduceToNat,Int.reduceAdd,Int.reduceSub,Int.reduceMul,ne_eq,decide_true,decide_false,tf42, he0]
    refine wpLoop_intro (fun e' w' => e' 0 = .pointer (some ⟨p, 0, none⟩) ∧ ∃ (i : Nat) (ct : Nat → List Value), i ≤ vs.length ∧ e' 3 = .int .i64 i ∧ Held w' 119 2 32 vs ct ∧ (∀ j, j < i → ct j = rep (slen (vs.getD j .nilIface)) (markTags j)) ∧ Keep (fpL vs) w w')
      (fun e' _ => vs.length - (envInt (e' 3)).toNat) ⟨?_, 0, cont, Nat.zero_le _, ?_, hS, fun j hj => absurd hj (by omega), Keep.refl _ _⟩ ?_
    · simp -dsimp only [↓RE,RU,RL,if_true,if_false,↓reduceIte,Nat.reduceEqDiff,reduceCtorEq,decide_true,decide_false, he0]
    · simp -dsimp only [↓RE,RU,RL,if_true,if_false,↓reduceIte,Nat.reduceEqDiff,reduceCtorEq,decide_true,decide_false, he0, Int.cast_ofNat_Int]
    rintro e1 w1 ⟨h0, i, ct, hil, h3, hR1, hct, hk1⟩
    have hst := (stay hk1).1
    try simp -dsimp only [↓RE,↓c_seq,RU,RL,if_true,if_false,forall_const,implies_true,Nat.reduceLeDiff,Nat.reduceLT,pureOp,binPure,intBin,strBin,eqPure,isConstO,unPure,sliceLo,sliceHi,slicePure,slice3Pure,lenPure,capPure,minPure,maxPure,buildP,resK,endV,yieldE,↓reduceIte,Nat.reduceEqDiff,reduceCtorEq,Nat.reduceAdd,Nat.reduceMul,Nat.reduceSub,Int.reduceLT,Int.reduceLE,Int.reduceToNat,Int.reduceAdd,Int.reduceSub,Int.reduceMul,ne_eq,decide_true,decide_false,tf42, h0, h3, hst]
    refine ⟨fun hlt => ?_, fun hge => ?_⟩
    · obtain ⟨bd, hbd, v, hv, hcv⟩ := one hk1 (i := i) (by omega)
      subst hbd
      obtain ⟨A, c, hvA, _, _⟩ := LRow.form (hR1.own i v hv)
      have hbnd := (hS.bound i v hv).1
      simp only [maxLen] at hbnd
      generalize hn : slen v = n at *
      subst hvA
      have hog : vs.getD i .nilIface = .slice A n c := by rw [List.getD_eq_getElem?_getD, hv]; rfl
      have hX := (hR1.own i _ hv).1
      generalize hXe : ct i = X at hX
      try simp -dsimp only [↓RE,↓c_seq,RU,RL,if_true,if_false,forall_const,implies_true,Nat.reduceLeDiff,Nat.reduceLT,pureOp,binPure,intBin,strBin,eqPure,isConstO,unPure,sliceLo,sliceHi,slicePure,slice3Pure,lenPure,capPure,minPure,maxPure,buildP,resK,endV,yieldE,↓reduceIte,Nat.reduceEqDiff,reduceCtorEq,Nat.reduceAdd,Nat.reduceMul,Nat.reduceSub,Int.reduceLT,Int.reduceLE,Int.reduceToNat,Int.reduceAdd,Int.reduceSub,Int.reduceMul,ne_eq,decide_true,decide_false,tf42, h0, h3]
      refine wpLoop_intro (fun e' w' => e' 0 = .pointer (some ⟨p, 0, none⟩) ∧ e' 3 = .int .i64 i ∧ ∃ k : Nat, k ≤ n ∧ e' 4 = .int .i64 k ∧ Held w' 119 2 32 vs (fun j => if j = i then rep k (markTags i) ++ X.drop (k * 2) else ct j) ∧ Keep (fpL vs) w w')
        (fun e' _ => n - (envInt (e' 4)).toNat) ⟨?_, ?_, 0, Nat.zero_le _, ?_, hR1.congr (fun j hj => by
          by_cases hji : j = i
          · subst hji; rw [if_pos rfl, hXe]; simp [rep]
          · rw [if_neg hji]), hk1⟩ ?_
      · simp -dsimp only [↓RE,RU,RL,if_true,if_false,↓reduceIte,Nat.reduceEqDiff,reduceCtorEq,decide_true,decide_false, h0]
      · simp -dsimp only [↓RE,RU,RL,if_true,if_false,↓reduceIte,Nat.reduceEqDiff,reduceCtorEq,decide_true,decide_false, h3]
      · simp -dsimp only [↓RE,RU,RL,if_true,if_false,↓reduceIte,Nat.reduceEqDiff,reduceCtorEq,decide_true,decide_false, h0, Int.cast_ofNat_Int]
      rintro e2 w2 ⟨g0, g3, k, hkn, g4, hR2, hk2⟩
      have hst2 := (stay hk2).1
      obtain ⟨bd2, hbd2, v2, hv2, hcv2⟩ := one hk2 (i := i) (by omega)
      injection hbd2 with hbd2
      subst hbd2
      rw [hv] at hv2
      injection hv2 with hv2
      subst hv2
      try simp -dsimp only [↓RE,↓c_seq,RU,RL,if_true,if_false,forall_const,implies_true,Nat.reduceLeDiff,Nat.reduceLT,pureOp,binPure,intBin,strBin,eqPure,isConstO,unPure,sliceLo,sliceHi,slicePure,slice3Pure,lenPure,capPure,minPure,maxPure,buildP,resK,endV,yieldE,↓reduceIte,Nat.reduceEqDiff,reduceCtorEq,Nat.reduceAdd,Nat.reduceMul,Nat.reduceSub,Int.reduceLT,Int.reduceLE,Int.reduceToNat,Int.reduceAdd,Int.reduceSub,Int.reduceMul,ne_eq,decide_true,decide_false,tf42, g0, g3, g4, hst2]
      refine ⟨⟨by omega, by omega⟩, ?_⟩
      try simp -dsimp only [↓RE,↓c_seq,RU,RL,if_true,if_false,forall_const,implies_true,Nat.reduceLeDiff,Nat.reduceLT,pureOp,binPure,intBin,strBin,eqPure,isConstO,unPure,sliceLo,sliceHi,slicePure,slice3Pure,lenPure,capPure,minPure,maxPure,buildP,resK,endV,yieldE,↓reduceIte,Nat.reduceEqDiff,reduceCtorEq,Nat.reduceAdd,Nat.reduceMul,Nat.reduceSub,Int.reduceLT,Int.reduceLE,Int.reduceToNat,Int.reduceAdd,Int.reduceSub,Int.reduceMul,ne_eq,decide_true,decide_false,tf42, g0, g3, g4, hst2, Int.toNat_natCast, hcv2]
      refine ⟨fun hlt2 => ?_, fun hge2 => ?_⟩
      · have hO2 := hR2.own i _ hv
        simp only [if_true] at hO2
        have hO2 : LRow w2 119 2 (.slice A n c) n (rep k (markTags i) ++ X.drop (k * 2)) := hO2
        obtain ⟨G, rfl⟩ : ∃ G, A = some ⟨G, 0, none⟩ := lr_spot hO2 (by omega)
        have hel : ∀ w', Keep (fpL vs) w w' → w'.cell? (bd.add i) = some (.slice (some ⟨G, 0, none⟩) n c) := fun w' kk => by
          obtain ⟨bd3, e3, v3, hv3, hc3⟩ := one kk (i := i) (by omega)
          injection e3 with e3
          subst e3
          rw [hv] at hv3
          injection hv3 with hv3
          rw [← hv3] at hc3
          exact hc3
        have hkd := hk2.then_grow (Grow.drew w2)
        repeat (first | rw [c_seq] | simp -dsimp only [↓RE,RU,RL,if_true,if_false,forall_const,implies_true,Nat.reduceLeDiff,Nat.reduceLT,pureOp,binPure,intBin,strBin,eqPure,isConstO,unPure,sliceLo,sliceHi,slicePure,slice3Pure,lenPure,capPure,minPure,maxPure,buildP,resK,endV,yieldE,↓reduceIte,Nat.reduceEqDiff,reduceCtorEq,Nat.reduceAdd,Nat.reduceMul,Nat.reduceSub,Int.reduceLT,Int.reduceLE,Int.reduceToNat,Int.reduceAdd,Int.reduceSub,Int.reduceMul,ne_eq,decide_true,decide_false,tf42, g0])
        refine wpDraw_by (Keep (fpL vs) w ·) [(0, true), (1, true), (2, true), (3, true), (4, true), (5, true), (6, true), (7, true), (8, true), (9, false), (10, true), (11, true), (12, false)] (by kernel_rfl) hkd ?_
        simp only [planL, List.getElem?_toArray, List.getElem?_cons_zero, List.getElem?_cons_succ, Option.toList_some, List.map_cons, List.map_nil, List.cons_append, List.nil_append]
        repeat (first | rw [c_seq] | simp -dsimp only [↓RE,RU,RL,if_true,if_false,forall_const,implies_true,Nat.reduceLeDiff,Nat.reduceLT,pureOp,binPure,intBin,strBin,eqPure,isConstO,unPure,sliceLo,sliceHi,slicePure,slice3Pure,lenPure,capPure,minPure,maxPure,buildP,resK,endV,yieldE,↓reduceIte,Nat.reduceEqDiff,reduceCtorEq,Nat.reduceAdd,Nat.reduceMul,Nat.reduceSub,Int.reduceLT,Int.reduceLE,Int.reduceToNat,Int.reduceAdd,Int.reduceSub,Int.reduceMul,ne_eq,decide_true,decide_false,tf42, g0, g3, g4, add_lit', Nat.zero_add])
        refine ⟨_, fun w' kk => (stay kk).1, ?_⟩
        repeat (first | rw [c_seq] | simp -dsimp only [↓RE,RU,RL,if_true,if_false,forall_const,implies_true,Nat.reduceLeDiff,Nat.reduceLT,pureOp,binPure,intBin,strBin,eqPure,isConstO,unPure,sliceLo,sliceHi,slicePure,slice3Pure,lenPure,capPure,minPure,maxPure,buildP,resK,endV,yieldE,↓reduceIte,Nat.reduceEqDiff,reduceCtorEq,Nat.reduceAdd,Nat.reduceMul,Nat.reduceSub,Int.reduceLT,Int.reduceLE,Int.reduceToNat,Int.reduceAdd,Int.reduceSub,Int.reduceMul,ne_eq,decide_true,decide_false,tf42, g0, g3, g4, Int.toNat_natCast])
        refine ⟨⟨by omega, by omega⟩, _, hel, ?_⟩
        repeat (first | rw [c_seq] | simp -dsimp only [↓RE,RU,RL,if_true,if_false,forall_const,implies_true,Nat.reduceLeDiff,Nat.reduceLT,pureOp,binPure,intBin,strBin,eqPure,isConstO,unPure,sliceLo,sliceHi,slicePure,slice3Pure,lenPure,capPure,minPure,maxPure,buildP,resK,endV,yieldE,↓reduceIte,Nat.reduceEqDiff,reduceCtorEq,Nat.reduceAdd,Nat.reduceMul,Nat.reduceSub,Int.reduceLT,Int.reduceLE,Int.reduceToNat,Int.reduceAdd,Int.reduceSub,Int.reduceMul,ne_eq,decide_true,decide_false,tf42, g0, g3, g4])
        refine text_ok (by omega) (fun wu gu => ?_)
        have gdu := (Grow.drew w2).trans gu
        refine ⟨hk2.then_grow gdu, ?_⟩
        have hO2 := LRow.grow hO2 gdu
        have hR2 := hR2.keep gdu (fun _ _ q => q)
        have hk2 := hk2.then_grow gdu
        repeat (first | rw [c_seq] | simp -dsimp only [↓RE,RU,RL,if_true,if_false,forall_const,implies_true,Nat.reduceLeDiff,Nat.reduceLT,pureOp,binPure,intBin,strBin,eqPure,isConstO,unPure,sliceLo,sliceHi,slicePure,slice3Pure,lenPure,capPure,minPure,maxPure,buildP,resK,endV,yieldE,↓reduceIte,Nat.reduceEqDiff,reduceCtorEq,Nat.reduceAdd,Nat.reduceMul,Nat.reduceSub,Int.reduceLT,Int.reduceLE,Int.reduceToNat,Int.reduceAdd,Int.reduceSub,Int.reduceMul,ne_eq,decide_true,decide_false,tf42, g0, g3, g4, Int.toNat_natCast, add_lit', Nat.zero_add])
        refine ⟨⟨by omega, by omega⟩, lr_put hO2 (by omega) (hml i) (hm1 i) (fun w3 hO3 hK3 => ?_)⟩
        have hO3 : LRow w3 119 2 (.slice (some ⟨G, 0, none⟩) n c) n (rep (k + 1) (markTags i) ++ X.drop ((k + 1) * 2)) := by
          have hrp := rep_put (size := 2) (n := n) (k := k) (hml i) hX (by omega)
          rw [← hrp]
          exact hO3
        have hk3 : Keep (fpL vs) w w3 := hk2.trans hK3 (fun _ _ q => q) (fun x _ q => ⟨_, List.mem_of_getElem? hv, q⟩)
        have hR3 : Held w3 119 2 32 vs (fun j => if j = i then rep (k + 1) (markTags i) ++ X.drop ((k + 1) * 2) else ct j) := (hR2.turn hv hO3 hK3).congr (fun j _ => by
          by_cases hji : j = i
          · simp only [if_pos hji]
          · simp only [if_neg hji])
        refine ⟨hk3, ?_⟩
        try simp -dsimp only [↓RE,↓c_seq,RU,RL,if_true,if_false,forall_const,implies_true,Nat.reduceLeDiff,Nat.reduceLT,pureOp,binPure,intBin,strBin,eqPure,isConstO,unPure,sliceLo,sliceHi,slicePure,slice3Pure,lenPure,capPure,minPure,maxPure,buildP,resK,endV,yieldE,↓reduceIte,Nat.reduceEqDiff,reduceCtorEq,Nat.reduceAdd,Nat.reduceMul,Nat.reduceSub,Int.reduceLT,Int.reduceLE,Int.reduceToNat,Int.reduceAdd,Int.reduceSub,Int.reduceMul,ne_eq,decide_true,decide_false,tf42, g0, g3, g4]
        refine hold_intro ⟨⟨?_, ?_, k + 1, by omega, ?_, hR3, hk3⟩, ?_⟩
        · simp -dsimp only [↓RE,RU,RL,if_true,if_false,↓reduceIte,Nat.reduceEqDiff,reduceCtorEq,decide_true,decide_false, g0]
        · simp -dsimp only [↓RE,RU,RL,if_true,if_false,↓reduceIte,Nat.reduceEqDiff,reduceCtorEq,decide_true,decide_false, g3]
        · simp -dsimp only [↓RE,RU,RL,if_true,if_false,↓reduceIte,Nat.reduceEqDiff,reduceCtorEq,decide_true,decide_false, g4]
          rw [wrap_i64_in (by omega) (by omega)]; rfl
        · simp -dsimp only [↓RE,RU,RL,if_true,if_false,↓reduceIte,Nat.reduceEqDiff,reduceCtorEq,decide_true,decide_false, g4]
          rw [wrap_i64_in (by omega) (by omega), envInt_int, envInt_int]; omega
      · obtain rfl : k = n := by omega
        try simp -dsimp only [↓RE,↓c_seq,RU,RL,if_true,if_false,forall_const,implies_true,Nat.reduceLeDiff,Nat.reduceLT,pureOp,binPure,intBin,strBin,eqPure,isConstO,unPure,sliceLo,sliceHi,slicePure,slice3Pure,lenPure,capPure,minPure,maxPure,buildP,resK,endV,yieldE,↓reduceIte,Nat.reduceEqDiff,reduceCtorEq,Nat.reduceAdd,Nat.reduceMul,Nat.reduceSub,Int.reduceLT,Int.reduceLE,Int.reduceToNat,Int.reduceAdd,Int.reduceSub,Int.reduceMul,ne_eq,decide_true,decide_false,tf42, g0, g3, g4]
        refine hold_intro ⟨⟨?_, i + 1, (fun j => if j = i then rep k (markTags i) ++ X.drop (k * 2) else ct j), by omega, ?_, hR2, fun j hj => ?_, hk2⟩, ?_⟩
        · simp -dsimp only [↓RE,RU,RL,if_true,if_false,↓reduceIte,Nat.reduceEqDiff,reduceCtorEq,decide_true,decide_false, g0]
        · simp -dsimp only [↓RE,RU,RL,if_true,if_false,↓reduceIte,Nat.reduceEqDiff,reduceCtorEq,decide_true,decide_false, g3]
          rw [wrap_i64_in (by omega) (by omega)]; rfl
        · show (if j = i then rep k (markTags i) ++ X.drop (k * 2) else ct j) = _
          by_cases hji : j = i
          · subst hji
            rw [if_pos rfl, hog, List.drop_eq_nil_of_le (by omega), List.append_nil]; rfl
          · rw [if_neg hji]; exact hct j (by omega)
        · simp -dsimp only [↓RE,RU,RL,if_true,if_false,↓reduceIte,Nat.reduceEqDiff,reduceCtorEq,decide_true,decide_false, g3, h3]
          rw [wrap_i64_in (by omega) (by omega), envInt_int, envInt_int]; omega
    · obtain rfl : i = vs.length := by omega
      try simp -dsimp only [↓RE,↓c_seq,RU,RL,if_true,if_false,forall_const,implies_true,Nat.reduceLeDiff,Nat.reduceLT,pureOp,binPure,intBin,strBin,eqPure,isConstO,unPure,sliceLo,sliceHi,slicePure,slice3Pure,lenPure,capPure,minPure,maxPure,buildP,resK,endV,yieldE,↓reduceIte,Nat.reduceEqDiff,reduceCtorEq,Nat.reduceAdd,Nat.reduceMul,Nat.reduceSub,Int.reduceLT,Int.reduceLE,Int.reduceToNat,Int.reduceAdd,Int.reduceSub,Int.reduceMul,ne_eq,decide_true,decide_false,tf42, h0, h3]
      refine hold_intro ⟨?_, ct, hR1, hct, hk1⟩
      simp -dsimp only [↓RE,↓c_seq,RU,RL,if_true,if_false,forall_const,implies_true,Nat.reduceLeDiff,Nat.reduceLT,pureOp,binPure,intBin,strBin,eqPure,isConstO,unPure,sliceLo,sliceHi,slicePure,slice3Pure,lenPure,capPure,minPure,maxPure,buildP,resK,endV,yieldE,↓reduceIte,Nat.reduceEqDiff,reduceCtorEq,Nat.reduceAdd,Nat.reduceMul,Nat.reduceSub,Int.reduceLT,Int.reduceLE,Int.reduceToNat,Int.reduceAdd,Int.reduceSub,Int.reduceMul,ne_eq,decide_true,decide_false,tf42, h0]
  rintro e2 w2 ⟨h0, ct, hR2, hct, hk2⟩
  have hFam := (hR2.congr hct).fam
  have hcnt : ∀ i v, vs[i]? = some v → vs.getD i .nilIface = v := fun i v hv => by rw [List.getD_eq_getElem?_getD, hv]; rfl
  have hw2 := hk2.size
  rw [c_seq]
  simp -dsimp only [↓RE,RU,RL,if_true,if_false,forall_const,implies_true,Nat.reduceLeDiff,Nat.reduceLT,pureOp,binPure,intBin,strBin,eqPure,isConstO,unPure,sliceLo,sliceHi,slicePure,slice3Pure,lenPure,capPure,minPure,maxPure,buildP,resK,endV,yieldE,↓reduceIte,Nat.reduceEqDiff,reduceCtorEq,Nat.reduceAdd,Nat.reduceMul,Nat.reduceSub,Int.reduceLT,Int.reduceLE,Int.reduceToNat,Int.reduceAdd,Int.reduceSub,Int.reduceMul,ne_eq,decide_true,decide_false,tf42, h0]
  -- grown, one behind the other
  refine c_seq_cut (fun e' w' => e' 0 = .pointer (some ⟨p, 0, none⟩) ∧ ∃ (cur : Nat → Value) (cnt : Nat → Nat) (Ba : Option Addr) (Ca : Nat), e' 5 = .slice Ba vs.length Ca ∧ Fam w' 119 2 vs cur cnt markTags ∧ (∀ j v, vs[j]? = some v → slen (cur j) = cnt j) ∧
      LRow w' 91 1 (.slice Ba vs.length Ca) vs.length ((List.range vs.length).map cur) ∧ Keep (fpL vs) w w') ?_ ?_
  · try simp -dsimp only [↓RE,↓c_seq,RU,RL,if_true,if_false,forall_const,implies_true,Nat.reduceLeDiff,Nat.reduceLT,pureOp,binPure,intBin,strBin,eqPure,isConstO,unPure,sliceLo,sliceHi,slicePure,slice3Pure,lenPure,capPure,minPure,maxPure,buildP,resK,endV,yieldE,↓reduceIte,Nat.reduceEqDiff,reduceCtorEq,Nat.reduceAdd,Nat.reduceMul,Nat.reduceSub,Int.reduceLT,Int.reduceLE,Int.reduceToNat,Int.reduceAdd,Int.reduceSub,Int.reduceMul,ne_eq,decide_true,decide_false,tf42, h0]
    refine wpLoop_intro (fun e' w' => e' 0 = .pointer (some ⟨p, 0, none⟩) ∧ ∃ (i : Nat) (cur : Nat → Value) (cnt : Nat → Nat) (sa : Value), i ≤ vs.length ∧ e' 6 = .int .i64 i ∧ e' 5 = sa ∧ Fam w' 119 2 vs cur cnt markTags ∧ (∀ j v, vs[j]? = some v → slen (cur j) = cnt j) ∧
        (∀ j v, i ≤ j → vs[j]? = some v → cur j = v) ∧ (∀ j v, vs[j]? = some v → ∀ k, fpV (cur j) k → fpL vs k ∨ w.heap.size ≤ k) ∧ LRow w' 91 1 sa i ((List.range i).map cur) ∧ (∀ k, fpV sa k → w.heap.size ≤ k) ∧ Keep (fpL vs) w w')
      (fun e' _ => vs.length - (envInt (e' 6)).toNat) ⟨?_, 0, _, _, .slice none 0 0, Nat.zero_le _, ?_, ?_, hFam, fun j v hv => rfl, fun j v _ hv => hcnt j v hv, fun j v hv k hk => .inl (by rw [hcnt j v hv] at hk; exact ⟨v, List.mem_of_getElem? hv, hk⟩), LRow.nil _ _ _, fun k hk => absurd hk (fpV_none k), hk2⟩ ?_
    · simp -dsimp only [↓RE,RU,RL,if_true,if_false,↓reduceIte,Nat.reduceEqDiff,reduceCtorEq,decide_true,decide_false, h0]
    · simp -dsimp only [↓RE,RU,RL,if_true,if_false,↓reduceIte,Nat.reduceEqDiff,reduceCtorEq,decide_true,decide_false, h0, Int.cast_ofNat_Int]
    · simp -dsimp only [↓RE,RU,RL,if_true,if_false,↓reduceIte,Nat.reduceEqDiff,reduceCtorEq,decide_true,decide_false, h0]
    rintro e3 w3 ⟨h0, i, cur, cnt, sa, hil, h6, h5, hF3, hsl, hrest, hfp, hsa, hfsa, hk3⟩
    have hst := (stay hk3).1
    try simp -dsimp only [↓RE,↓c_seq,RU,RL,if_true,if_false,forall_const,implies_true,Nat.reduceLeDiff,Nat.reduceLT,pureOp,binPure,intBin,strBin,eqPure,isConstO,unPure,sliceLo,sliceHi,slicePure,slice3Pure,lenPure,capPure,minPure,maxPure,buildP,resK,endV,yieldE,↓reduceIte,Nat.reduceEqDiff,reduceCtorEq,Nat.reduceAdd,Nat.reduceMul,Nat.reduceSub,Int.reduceLT,Int.reduceLE,Int.reduceToNat,Int.reduceAdd,Int.reduceSub,Int.reduceMul,ne_eq,decide_true,decide_false,tf42, h0, h6, h5, hst]
    refine ⟨fun hlt => ?_, fun hge => ?_⟩
    · obtain ⟨bd, hbd, v, hv, hcv⟩ := one hk3 (i := i) (by omega)
      subst hbd
      have hbnd := hS.bound i v hv
      have hci := hrest i v (Nat.le_refl _) hv
      have hni : cnt i = slen v := by rw [← hsl i v hv, hci]
      try simp -dsimp only [↓RE,↓c_seq,RU,RL,if_true,if_false,forall_const,implies_true,Nat.reduceLeDiff,Nat.reduceLT,pureOp,binPure,intBin,strBin,eqPure,isConstO,unPure,sliceLo,sliceHi,slicePure,slice3Pure,lenPure,capPure,minPure,maxPure,buildP,resK,endV,yieldE,↓reduceIte,Nat.reduceEqDiff,reduceCtorEq,Nat.reduceAdd,Nat.reduceMul,Nat.reduceSub,Int.reduceLT,Int.reduceLE,Int.reduceToNat,Int.reduceAdd,Int.reduceSub,Int.reduceMul,ne_eq,decide_true,decide_false,tf42, h0, h6, h5, hst]
      refine ⟨⟨by omega, by omega⟩, ?_⟩
      try simp -dsimp only [↓RE,↓c_seq,RU,RL,if_true,if_false,forall_const,implies_true,Nat.reduceLeDiff,Nat.reduceLT,pureOp,binPure,intBin,strBin,eqPure,isConstO,unPure,sliceLo,sliceHi,slicePure,slice3Pure,lenPure,capPure,minPure,maxPure,buildP,resK,endV,yieldE,↓reduceIte,Nat.reduceEqDiff,reduceCtorEq,Nat.reduceAdd,Nat.reduceMul,Nat.reduceSub,Int.reduceLT,Int.reduceLE,Int.reduceToNat,Int.reduceAdd,Int.reduceSub,Int.reduceMul,ne_eq,decide_true,decide_false,tf42, h0, h6, h5, hst, Int.toNat_natCast, hcv]
      refine wpLoop_intro (fun e' w' => e' 0 = .pointer (some ⟨p, 0, none⟩) ∧ e' 6 = .int .i64 i ∧ e' 5 = sa ∧ ∃ (m : Nat) (g : Value), m ≤ 20 ∧ e' 8 = .int .i64 m ∧ e' 7 = g ∧ Fam w' 119 2 vs (fun j => if j = i then g else cur j) (fun j => if j = i then slen v + m else cnt j) markTags ∧ slen g = slen v + m ∧
          (∀ k, fpV g k → fpL vs k ∨ w.heap.size ≤ k) ∧ LRow w' 91 1 sa i ((List.range i).map cur) ∧ Keep (fpL vs) w w')
        (fun e' _ => 20 - (envInt (e' 8)).toNat) ⟨?_, ?_, ?_, 0, v, by omega, ?_, ?_, ?_, rfl, fun k hk => .inl ⟨v, List.mem_of_getElem? hv, hk⟩, hsa, hk3⟩ ?_
      · simp -dsimp only [↓RE,RU,RL,if_true,if_false,↓reduceIte,Nat.reduceEqDiff,reduceCtorEq,decide_true,decide_false, h0]
      · simp -dsimp only [↓RE,RU,RL,if_true,if_false,↓reduceIte,Nat.reduceEqDiff,reduceCtorEq,decide_true,decide_false, h6]
      · simp -dsimp only [↓RE,RU,RL,if_true,if_false,↓reduceIte,Nat.reduceEqDiff,reduceCtorEq,decide_true,decide_false, h5]
      · simp -dsimp only [↓RE,RU,RL,if_true,if_false,↓reduceIte,Nat.reduceEqDiff,reduceCtorEq,decide_true,decide_false, h0, Int.cast_ofNat_Int]
      · simp -dsimp only [↓RE,RU,RL,if_true,if_false,↓reduceIte,Nat.reduceEqDiff,reduceCtorEq,decide_true,decide_false, h0]
      · rw [show (fun j => if j = i then v else cur j) = cur from funext fun j => by by_cases hj : j = i <;> simp [hj, hci], show (fun j => if j = i then slen v + 0 else cnt j) = cnt from funext fun j => by by_cases hj : j = i <;> simp [hj, hni]]
        exact hF3
      rintro e4 w4 ⟨g0, g6, g5, m, g, hm, g8, g7, hF4, hslg, hfg, hsa4, hk4⟩
      try simp -dsimp only [↓RE,↓c_seq,RU,RL,if_true,if_false,forall_const,implies_true,Nat.reduceLeDiff,Nat.reduceLT,pureOp,binPure,intBin,strBin,eqPure,isConstO,unPure,sliceLo,sliceHi,slicePure,slice3Pure,lenPure,capPure,minPure,maxPure,buildP,resK,endV,yieldE,↓reduceIte,Nat.reduceEqDiff,reduceCtorEq,Nat.reduceAdd,Nat.reduceMul,Nat.reduceSub,Int.reduceLT,Int.reduceLE,Int.reduceToNat,Int.reduceAdd,Int.reduceSub,Int.reduceMul,ne_eq,decide_true,decide_false,tf42, g0, g5, g6, g7, g8]
      refine ⟨fun hlt2 => ?_, fun hge2 => ?_⟩
      · repeat (first | rw [c_seq] | simp -dsimp only [↓RE,RU,RL,if_true,if_false,forall_const,implies_true,Nat.reduceLeDiff,Nat.reduceLT,pureOp,binPure,intBin,strBin,eqPure,isConstO,unPure,sliceLo,sliceHi,slicePure,slice3Pure,lenPure,capPure,minPure,maxPure,buildP,resK,endV,yieldE,↓reduceIte,Nat.reduceEqDiff,reduceCtorEq,Nat.reduceAdd,Nat.reduceMul,Nat.reduceSub,Int.reduceLT,Int.reduceLE,Int.reduceToNat,Int.reduceAdd,Int.reduceSub,Int.reduceMul,ne_eq,decide_true,decide_false,tf42, g0, g5, g6, g7, g8])
        refine text_ok (by omega) (fun wt gt => ?_)
        have hF4 := hF4.keep gt (fun _ _ _ _ _ q => q)
        have hsa4 := LRow.grow hsa4 gt
        have hk4 := hk4.then_grow gt
        have hb1 := Blk.new' wt 119 (markTags i).toArray
        have ga1 := Grow.alloc wt (.cells (markTags i).toArray 119)
        have hr1 : Rd (wt.alloc (.cells (markTags i).toArray 119)) (some ⟨wt.heap.size, 0, none⟩) 1 2 (markTags i) := ⟨rfl, fun _ => ⟨_, rfl, fun j u hu => by rw [add_lit', Nat.zero_add, hb1.cell]; exact hu⟩⟩
        have hks4 := hk4.size
        have hgas := ga1.size
        have hpush := fun {K : VWK} {tk : Tok K} => hF4.push (P := Tryz.prog) (t := 91) (ty := 91) (bytes := 32) (c := 1) (K := K) (tk := tk) (by kernel_rfl) hv ga1 hr1 (hm1 i) (by simp only [if_true]; omega) (by simp only [if_true]; exact Nat.le_trans (Nat.mul_le_mul_right _ (by omega)) hbnd.2)
        simp only [if_true] at hpush
        try simp -dsimp only [↓RE,↓c_seq,RU,RL,if_true,if_false,forall_const,implies_true,Nat.reduceLeDiff,Nat.reduceLT,pureOp,binPure,intBin,strBin,eqPure,isConstO,unPure,sliceLo,sliceHi,slicePure,slice3Pure,lenPure,capPure,minPure,maxPure,buildP,resK,endV,yieldE,↓reduceIte,Nat.reduceEqDiff,reduceCtorEq,Nat.reduceAdd,Nat.reduceMul,Nat.reduceSub,Int.reduceLT,Int.reduceLE,Int.reduceToNat,Int.reduceAdd,Int.reduceSub,Int.reduceMul,ne_eq,decide_true,decide_false,tf42, g0, g5, g6, g7, g8]
        skip
        refine hpush (fun nv w5 hF5 hK5 hf5 hs5 => ?_)
        have hk5 : Keep (fpL vs) w w5 := (hk4.then_grow ga1).above hK5 (fun x hx hq => (hfg x hq).elim id (fun q => by omega))
        have hsa5 := LRow.keep (LRow.grow hsa4 ga1) hK5 (fun k hk hq => LRow.ne hsa4 (by have := hF4.own i v hv; simp only [if_true] at this; exact this) (by decide) k hk hq)
        have hF5' : Fam w5 119 2 vs (fun j => if j = i then nv else cur j) (fun j => if j = i then slen v + (m + 1) else cnt j) markTags := by
          have e1 : (fun j => if j = i then nv else if j = i then g else cur j) = (fun j => if j = i then nv else cur j) := funext fun j => by by_cases hj : j = i <;> simp [hj]
          have e2 : (fun j => if j = i then slen v + m + 1 else if j = i then slen v + m else cnt j) = (fun j => if j = i then slen v + (m + 1) else cnt j) := funext fun j => by by_cases hj : j = i <;> simp [hj, Nat.add_assoc]
          rw [← e1, ← e2]; exact hF5
        try simp -dsimp only [↓RE,↓c_seq,RU,RL,if_true,if_false,forall_const,implies_true,Nat.reduceLeDiff,Nat.reduceLT,pureOp,binPure,intBin,strBin,eqPure,isConstO,unPure,sliceLo,sliceHi,slicePure,slice3Pure,lenPure,capPure,minPure,maxPure,buildP,resK,endV,yieldE,↓reduceIte,Nat.reduceEqDiff,reduceCtorEq,Nat.reduceAdd,Nat.reduceMul,Nat.reduceSub,Int.reduceLT,Int.reduceLE,Int.reduceToNat,Int.reduceAdd,Int.reduceSub,Int.reduceMul,ne_eq,decide_true,decide_false,tf42, g0, g5, g6, g7, g8]
        refine hold_intro ⟨⟨?_, ?_, ?_, m + 1, nv, by omega, ?_, ?_, hF5', hs5, fun k hk => (hf5 k hk).elim (hfg k) (fun q => .inr (by omega)), hsa5, hk5⟩, ?_⟩
        · simp -dsimp only [↓RE,RU,RL,if_true,if_false,↓reduceIte,Nat.reduceEqDiff,reduceCtorEq,decide_true,decide_false, g0]
        · simp -dsimp only [↓RE,RU,RL,if_true,if_false,↓reduceIte,Nat.reduceEqDiff,reduceCtorEq,decide_true,decide_false, g6]
        · simp -dsimp only [↓RE,RU,RL,if_true,if_false,↓reduceIte,Nat.reduceEqDiff,reduceCtorEq,decide_true,decide_false, g5]
        · simp -dsimp only [↓RE,RU,RL,if_true,if_false,↓reduceIte,Nat.reduceEqDiff,reduceCtorEq,decide_true,decide_false, g8]
          rw [wrap_i64_in (by omega) (by omega)]; rfl
        · simp -dsimp only [↓RE,RU,RL,if_true,if_false,↓reduceIte,Nat.reduceEqDiff,reduceCtorEq,decide_true,decide_false, g7]
        · simp -dsimp only [↓RE,RU,RL,if_true,if_false,↓reduceIte,Nat.reduceEqDiff,reduceCtorEq,decide_true,decide_false, g8]
          rw [wrap_i64_in (by omega) (by omega), envInt_int, envInt_int]; omega
      · obtain rfl : m = 20 := by omega
        have hog := hF4.own i v hv
        simp only [if_true] at hog
        obtain ⟨Ag, cg, hgv, _, _⟩ := LRow.form hog
        subst hgv
        generalize hgE : Value.slice Ag (slen v + 20) cg = g at hog hF4 hslg hfg g7
        have hcl : g.cells = #[g] := by rw [← hgE]; rfl
        have hgc : g.oneCell' = true := by rw [← hgE]; rfl
        have hb1 := Blk.new' w4 91 #[g]
        have ga1 := Grow.alloc w4 (.cells #[g] 91)
        have hr1 : Rd (w4.alloc (.cells #[g] 91)) (some ⟨w4.heap.size, 0, none⟩) 1 1 [g] := Rd.of_cells _ _ _ _ _ hb1 rfl
        have hks4 := hk4.size
        have hgas := ga1.size
        have hslt := LRow.lt hsa4
        have hg1 : ∀ u ∈ [g], u.oneCell' = true := by intro u hu; rw [List.mem_singleton.1 hu]; exact hgc
        try simp -dsimp only [↓RE,↓c_seq,RU,RL,if_true,if_false,forall_const,implies_true,Nat.reduceLeDiff,Nat.reduceLT,pureOp,binPure,intBin,strBin,eqPure,isConstO,unPure,sliceLo,sliceHi,slicePure,slice3Pure,lenPure,capPure,minPure,maxPure,buildP,resK,endV,yieldE,↓reduceIte,Nat.reduceEqDiff,reduceCtorEq,Nat.reduceAdd,Nat.reduceMul,Nat.reduceSub,Int.reduceLT,Int.reduceLE,Int.reduceToNat,Int.reduceAdd,Int.reduceSub,Int.reduceMul,ne_eq,decide_true,decide_false,tf42, g0, g5, g6, g7, g8, hcl]
        refine appK_l3 (m := 1) (bytes := 24) (by kernel_rfl) (LRow.grow hsa4 ga1) hr1 hg1 (by show i + 1 ≤ maxLen; simp only [maxLen]; omega) (by show (i + 1) * 24 ≤ 140737488355328; omega) (fun A6 c6 w6 hO6 hK6 hF6 => ?_)
        have hk6 : Keep (fpL vs) w w6 := (hk4.then_grow ga1).above hK6 (fun x hx hq => absurd (hfsa x hq) (by omega))
        have hF6' := (hF4.grow ga1).keep hK6 (fun j u hu x hx hq => by
          have huo := (hF4.own j u hu)
          rcases hx with hx | hx
          · have hbi := hS.own j u hu
            exact absurd (hfsa x hq) (by have := LRow.lt hbi x hx; omega)
          · exact LRow.ne huo hsa4 (by decide) x hx hq)
        have hrow : (List.range (i + 1)).map (fun j => if j = i then g else cur j) = (List.range i).map cur ++ [g] := by
          rw [List.range_succ, List.map_append]
          congr 1
          · refine List.map_congr_left (fun j hj => ?_)
            have := List.mem_range.1 hj
            rw [if_neg (by omega)]
          · simp
        rw [← hrow] at hO6
        try simp -dsimp only [↓RE,↓c_seq,RU,RL,if_true,if_false,forall_const,implies_true,Nat.reduceLeDiff,Nat.reduceLT,pureOp,binPure,intBin,strBin,eqPure,isConstO,unPure,sliceLo,sliceHi,slicePure,slice3Pure,lenPure,capPure,minPure,maxPure,buildP,resK,endV,yieldE,↓reduceIte,Nat.reduceEqDiff,reduceCtorEq,Nat.reduceAdd,Nat.reduceMul,Nat.reduceSub,Int.reduceLT,Int.reduceLE,Int.reduceToNat,Int.reduceAdd,Int.reduceSub,Int.reduceMul,ne_eq,decide_true,decide_false,tf42, g0, g5, g6, g7, g8, hcl]
        refine hold_intro ⟨⟨?_, i + 1, _, _, .slice A6 (i + 1) c6, by omega, ?_, ?_, hF6', fun j u hu => ?_, fun j u hj hu => ?_, fun j u hu x hx => ?_, hO6, fun x hx => (hF6 x hx).elim (hfsa x) (fun q => by omega), hk6⟩, ?_⟩
        · simp -dsimp only [↓RE,RU,RL,if_true,if_false,↓reduceIte,Nat.reduceEqDiff,reduceCtorEq,decide_true,decide_false, g0]
        · simp -dsimp only [↓RE,RU,RL,if_true,if_false,↓reduceIte,Nat.reduceEqDiff,reduceCtorEq,decide_true,decide_false, g6]
          rw [wrap_i64_in (by omega) (by omega)]; rfl
        · simp -dsimp only [↓RE,RU,RL,if_true,if_false,↓reduceIte,Nat.reduceEqDiff,reduceCtorEq,decide_true,decide_false, g5]
        · by_cases hji : j = i
          · simp only [if_pos hji]; exact hslg
          · simp only [if_neg hji]; exact hsl j u hu
        · simp only [if_neg (show ¬ j = i by omega)]
          exact hrest j u (by omega) hu
        · by_cases hji : j = i
          · simp only [if_pos hji] at hx; exact hfg x hx
          · simp only [if_neg hji] at hx; exact hfp j u hu x hx
        · simp -dsimp only [↓RE,RU,RL,if_true,if_false,↓reduceIte,Nat.reduceEqDiff,reduceCtorEq,decide_true,decide_false, g6, h6]
          rw [wrap_i64_in (by omega) (by omega), envInt_int, envInt_int]; omega
    · obtain rfl : i = vs.length := by omega
      obtain ⟨Ba, Ca, rfl, _, _⟩ := LRow.form hsa
      try simp -dsimp only [↓RE,↓c_seq,RU,RL,if_true,if_false,forall_const,implies_true,Nat.reduceLeDiff,Nat.reduceLT,pureOp,binPure,intBin,strBin,eqPure,isConstO,unPure,sliceLo,sliceHi,slicePure,slice3Pure,lenPure,capPure,minPure,maxPure,buildP,resK,endV,yieldE,↓reduceIte,Nat.reduceEqDiff,reduceCtorEq,Nat.reduceAdd,Nat.reduceMul,Nat.reduceSub,Int.reduceLT,Int.reduceLE,Int.reduceToNat,Int.reduceAdd,Int.reduceSub,Int.reduceMul,ne_eq,decide_true,decide_false,tf42, h0, h6, h5]
      refine hold_intro ⟨?_, cur, cnt, Ba, Ca, ?_, hF3, hsl, hsa, hk3⟩
      · simp -dsimp only [↓RE,RU,RL,if_true,if_false,↓reduceIte,Nat.reduceEqDiff,reduceCtorEq,decide_true,decide_false, h0]
      · simp -dsimp only [↓RE,RU,RL,if_true,if_false,↓reduceIte,Nat.reduceEqDiff,reduceCtorEq,decide_true,decide_false, h5]
  rintro e3 w3 ⟨h0, cur, cnt, Ba, Ca, h5, hF3, hsl, hsa, hk3⟩
  have hRa := LRow.rd hsa
  have geta : ∀ {w' : World} {i : Nat}, Grow w3 w' → i < vs.length → ∃ ba, Ba = some ba ∧ w'.cell? (ba.add i) = some (cur i) := by
    intro w' i g hi
    obtain ⟨ba, u, e, hu, hc⟩ := (hRa.grow g).cell1 hi
    rw [List.getElem?_map, List.getElem?_range hi] at hu
    injection hu with hu
    subst hu
    exact ⟨ba, e, hc⟩
  -- looked at
  try simp -dsimp only [↓RE,↓c_seq,RU,RL,if_true,if_false,forall_const,implies_true,Nat.reduceLeDiff,Nat.reduceLT,pureOp,binPure,intBin,strBin,eqPure,isConstO,unPure,sliceLo,sliceHi,slicePure,slice3Pure,lenPure,capPure,minPure,maxPure,buildP,resK,endV,yieldE,↓reduceIte,Nat.reduceEqDiff,reduceCtorEq,Nat.reduceAdd,Nat.reduceMul,Nat.reduceSub,Int.reduceLT,Int.reduceLE,Int.reduceToNat,Int.reduceAdd,Int.reduceSub,Int.reduceMul,ne_eq,decide_true,decide_false,tf42, h0, h5]
  refine wpLoop_intro (fun e' w' => e' 0 = .pointer (some ⟨p, 0, none⟩) ∧ e' 5 = .slice Ba vs.length Ca ∧ ∃ i : Nat, i ≤ vs.length ∧ e' 9 = .int .i64 i ∧ Grow w3 w') (fun e' _ => vs.length - (envInt (e' 9)).toNat) ⟨?_, ?_, 0, Nat.zero_le _, ?_, Keep.refl _ _⟩ ?_
  · simp -dsimp only [↓RE,RU,RL,if_true,if_false,↓reduceIte,Nat.reduceEqDiff,reduceCtorEq,decide_true,decide_false, h0]
  · simp -dsimp only [↓RE,RU,RL,if_true,if_false,↓reduceIte,Nat.reduceEqDiff,reduceCtorEq,decide_true,decide_false, h5]
  · simp -dsimp only [↓RE,RU,RL,if_true,if_false,↓reduceIte,Nat.reduceEqDiff,reduceCtorEq,decide_true,decide_false, h0, Int.cast_ofNat_Int]
  rintro e4 w4 ⟨h0, h5, i, hil, h9, hg4⟩
  try simp -dsimp only [↓RE,↓c_seq,RU,RL,if_true,if_false,forall_const,implies_true,Nat.reduceLeDiff,Nat.reduceLT,pureOp,binPure,intBin,strBin,eqPure,isConstO,unPure,sliceLo,sliceHi,slicePure,slice3Pure,lenPure,capPure,minPure,maxPure,buildP,resK,endV,yieldE,↓reduceIte,Nat.reduceEqDiff,reduceCtorEq,Nat.reduceAdd,Nat.reduceMul,Nat.reduceSub,Int.reduceLT,Int.reduceLE,Int.reduceToNat,Int.reduceAdd,Int.reduceSub,Int.reduceMul,ne_eq,decide_true,decide_false,tf42, h0, h5, h9]
  refine ⟨fun hlt => ?_, fun hge => ?_⟩
  · obtain ⟨v, hv⟩ : ∃ v, vs[i]? = some v := ⟨vs[i]'(by omega), List.getElem?_eq_getElem (by omega)⟩
    have hog := hF3.own i v hv
    obtain ⟨Ag, cg, hcg, _, _⟩ := LRow.form hog
    have hRg := lr_rd hog
    rw [hcg] at hRg
    have hRg : Rd w3 Ag (cnt i) 2 (rep (cnt i) (markTags i)) := hRg
    have hRo := hF3.old i v hv
    obtain ⟨Av, cv, hcv, _, _⟩ := LRow.form (hS.own i v hv)
    have hsv : sptr v = Av := by rw [hcv]; rfl
    rw [hsv] at hRo
    have hsb := (hS.bound i v hv).1
    have hsc : cnt i ≤ maxLen := by
      rcases hog.2 with ⟨_, q⟩ | ⟨_, cap, _, _, _, q1, q2, _⟩
      · rw [q]; exact Nat.zero_le _
      · exact Nat.le_trans q1 q2
    simp only [maxLen] at hsb hsc
    generalize hn : slen v = n at *
    generalize hN2 : cnt i = N at *
    try simp -dsimp only [↓RE,↓c_seq,RU,RL,if_true,if_false,forall_const,implies_true,Nat.reduceLeDiff,Nat.reduceLT,pureOp,binPure,intBin,strBin,eqPure,isConstO,unPure,sliceLo,sliceHi,slicePure,slice3Pure,lenPure,capPure,minPure,maxPure,buildP,resK,endV,yieldE,↓reduceIte,Nat.reduceEqDiff,reduceCtorEq,Nat.reduceAdd,Nat.reduceMul,Nat.reduceSub,Int.reduceLT,Int.reduceLE,Int.reduceToNat,Int.reduceAdd,Int.reduceSub,Int.reduceMul,ne_eq,decide_true,decide_false,tf42, h0, h5, h9]
    refine wpLoop_intro (fun e' w' => e' 0 = .pointer (some ⟨p, 0, none⟩) ∧ e' 5 = .slice Ba vs.length Ca ∧ e' 9 = .int .i64 i ∧ ∃ k : Nat, k ≤ N ∧ e' 10 = .int .i64 k ∧ Grow w3 w') (fun e' _ => N - (envInt (e' 10)).toNat) ⟨?_, ?_, ?_, 0, Nat.zero_le _, ?_, hg4⟩ ?_
    · simp -dsimp only [↓RE,RU,RL,if_true,if_false,↓reduceIte,Nat.reduceEqDiff,reduceCtorEq,decide_true,decide_false, h0]
    · simp -dsimp only [↓RE,RU,RL,if_true,if_false,↓reduceIte,Nat.reduceEqDiff,reduceCtorEq,decide_true,decide_false, h5]
    · simp -dsimp only [↓RE,RU,RL,if_true,if_false,↓reduceIte,Nat.reduceEqDiff,reduceCtorEq,decide_true,decide_false, h9]
    · simp -dsimp only [↓RE,RU,RL,if_true,if_false,↓reduceIte,Nat.reduceEqDiff,reduceCtorEq,decide_true,decide_false, h0, Int.cast_ofNat_Int]
    rintro e5 w5 ⟨g0, g5, g9, k, hk, g10, hg5⟩
    obtain ⟨ba, hba, hca⟩ := geta hg5 (i := i) (by omega)
    subst hba
    rw [hcg] at hca
    try simp -dsimp only [↓RE,↓c_seq,RU,RL,if_true,if_false,forall_const,implies_true,Nat.reduceLeDiff,Nat.reduceLT,pureOp,binPure,intBin,strBin,eqPure,isConstO,unPure,sliceLo,sliceHi,slicePure,slice3Pure,lenPure,capPure,minPure,maxPure,buildP,resK,endV,yieldE,↓reduceIte,Nat.reduceEqDiff,reduceCtorEq,Nat.reduceAdd,Nat.reduceMul,Nat.reduceSub,Int.reduceLT,Int.reduceLE,Int.reduceToNat,Int.reduceAdd,Int.reduceSub,Int.reduceMul,ne_eq,decide_true,decide_false,tf42, g0, g5, g9, g10]
    refine ⟨⟨by omega, by omega⟩, ?_⟩
    try simp -dsimp only [↓RE,↓c_seq,RU,RL,if_true,if_false,forall_const,implies_true,Nat.reduceLeDiff,Nat.reduceLT,pureOp,binPure,intBin,strBin,eqPure,isConstO,unPure,sliceLo,sliceHi,slicePure,slice3Pure,lenPure,capPure,minPure,maxPure,buildP,resK,endV,yieldE,↓reduceIte,Nat.reduceEqDiff,reduceCtorEq,Nat.reduceAdd,Nat.reduceMul,Nat.reduceSub,Int.reduceLT,Int.reduceLE,Int.reduceToNat,Int.reduceAdd,Int.reduceSub,Int.reduceMul,ne_eq,decide_true,decide_false,tf42, g0, g5, g9, g10, Int.toNat_natCast, hca]
    refine ⟨fun hlt2 => ?_, fun hge2 => ?_⟩
    · obtain ⟨ga, hga, hcx⟩ := hrep (k := k) (hRg.grow hg5) (by omega)
      subst hga
      try simp -dsimp only [↓RE,↓c_seq,RU,RL,if_true,if_false,forall_const,implies_true,Nat.reduceLeDiff,Nat.reduceLT,pureOp,binPure,intBin,strBin,eqPure,isConstO,unPure,sliceLo,sliceHi,slicePure,slice3Pure,lenPure,capPure,minPure,maxPure,buildP,resK,endV,yieldE,↓reduceIte,Nat.reduceEqDiff,reduceCtorEq,Nat.reduceAdd,Nat.reduceMul,Nat.reduceSub,Int.reduceLT,Int.reduceLE,Int.reduceToNat,Int.reduceAdd,Int.reduceSub,Int.reduceMul,ne_eq,decide_true,decide_false,tf42, g0, g5, g9, g10, Int.toNat_natCast, hca]
      refine ⟨⟨by omega, by omega⟩, ⟨by omega, by omega⟩, ?_⟩
      refine ⟨markTags i, rfl, fun j u hu => by rw [add_add']; exact hcx j u hu, ?_⟩
      have hz := Blk.new' w5 119 #[.string .empty, .string .empty]
      have gz := Grow.alloc w5 (.cells #[.string .empty, .string .empty] 119)
      try simp -dsimp only [↓RE,↓c_seq,RU,RL,if_true,if_false,forall_const,implies_true,Nat.reduceLeDiff,Nat.reduceLT,pureOp,binPure,intBin,strBin,eqPure,isConstO,unPure,sliceLo,sliceHi,slicePure,slice3Pure,lenPure,capPure,minPure,maxPure,buildP,resK,endV,yieldE,↓reduceIte,Nat.reduceEqDiff,reduceCtorEq,Nat.reduceAdd,Nat.reduceMul,Nat.reduceSub,Int.reduceLT,Int.reduceLE,Int.reduceToNat,Int.reduceAdd,Int.reduceSub,Int.reduceMul,ne_eq,decide_true,decide_false,tf42, g0, g5, g9, g10, Int.toNat_natCast, hca, markTags]
      refine hz.stAgg (by simp) (by simp [Value.oneCell']) (fun wx hBx hKx => ?_)
      have gx : Grow w5 wx := gz.above hKx (fun i hi e => by omega)
      have hBx : Blk wx w5.heap.size 119 (markTags i) := by simpa [markTags] using hBx
      repeat (first | rw [c_seq] | simp -dsimp only [↓RE,RU,RL,if_true,if_false,forall_const,implies_true,Nat.reduceLeDiff,Nat.reduceLT,pureOp,binPure,intBin,strBin,eqPure,isConstO,unPure,sliceLo,sliceHi,slicePure,slice3Pure,lenPure,capPure,minPure,maxPure,buildP,resK,endV,yieldE,↓reduceIte,Nat.reduceEqDiff,reduceCtorEq,Nat.reduceAdd,Nat.reduceMul,Nat.reduceSub,Int.reduceLT,Int.reduceLE,Int.reduceToNat,Int.reduceAdd,Int.reduceSub,Int.reduceMul,ne_eq,decide_true,decide_false,tf42, g0, g5, g9, g10, Int.toNat_natCast, hca])
      refine wpDraw_by (Grow wx ·) [(0, true), (1, true), (2, false), (3, true), (4, true), (5, true)] (by kernel_rfl) (Grow.drew wx) ?_
      simp only [planL, List.getElem?_toArray, List.getElem?_cons_zero, List.getElem?_cons_succ, Option.toList_some, List.map_cons, List.map_nil, List.cons_append, List.nil_append]
      repeat (first | rw [c_seq] | simp -dsimp only [↓RE,RU,RL,if_true,if_false,forall_const,implies_true,Nat.reduceLeDiff,Nat.reduceLT,pureOp,binPure,intBin,strBin,eqPure,isConstO,unPure,sliceLo,sliceHi,slicePure,slice3Pure,lenPure,capPure,minPure,maxPure,buildP,resK,endV,yieldE,↓reduceIte,Nat.reduceEqDiff,reduceCtorEq,Nat.reduceAdd,Nat.reduceMul,Nat.reduceSub,Int.reduceLT,Int.reduceLE,Int.reduceToNat,Int.reduceAdd,Int.reduceSub,Int.reduceMul,ne_eq,decide_true,decide_false,tf42, g0, g5, g9, g10, Int.toNat_natCast, hca, add_lit', Nat.zero_add])
      refine ⟨markTags i, rfl, fun w' g j u hu => by rw [add_lit', Nat.zero_add, (hBx.grow g).cell]; exact hu, ?_⟩
      repeat (first | rw [c_seq] | simp -dsimp only [↓RE,RU,RL,if_true,if_false,forall_const,implies_true,Nat.reduceLeDiff,Nat.reduceLT,pureOp,binPure,intBin,strBin,eqPure,isConstO,unPure,sliceLo,sliceHi,slicePure,slice3Pure,lenPure,capPure,minPure,maxPure,buildP,resK,endV,yieldE,↓reduceIte,Nat.reduceEqDiff,reduceCtorEq,Nat.reduceAdd,Nat.reduceMul,Nat.reduceSub,Int.reduceLT,Int.reduceLE,Int.reduceToNat,Int.reduceAdd,Int.reduceSub,Int.reduceMul,ne_eq,decide_true,decide_false,tf42, g0, g5, g9, g10, Int.toNat_natCast, hca])
      refine text_ok (by omega) (fun wy gy => ?_)
      have gxy := (Grow.drew wx).trans gy
      refine ⟨gxy, ?_⟩
      have gx := gx.trans gxy
      try simp -dsimp only [↓RE,↓c_seq,RU,RL,if_true,if_false,forall_const,implies_true,Nat.reduceLeDiff,Nat.reduceLT,pureOp,binPure,intBin,strBin,eqPure,isConstO,unPure,sliceLo,sliceHi,slicePure,slice3Pure,lenPure,capPure,minPure,maxPure,buildP,resK,endV,yieldE,↓reduceIte,Nat.reduceEqDiff,reduceCtorEq,Nat.reduceAdd,Nat.reduceMul,Nat.reduceSub,Int.reduceLT,Int.reduceLE,Int.reduceToNat,Int.reduceAdd,Int.reduceSub,Int.reduceMul,ne_eq,decide_true,decide_false,tf42, g0, g5, g9, g10, markTags, eq_self, and_self, decide_true, Bool.not_true]
      try simp -dsimp only [↓RE,↓c_seq,RU,RL,if_true,if_false,forall_const,implies_true,Nat.reduceLeDiff,Nat.reduceLT,pureOp,binPure,intBin,strBin,eqPure,isConstO,unPure,sliceLo,sliceHi,slicePure,slice3Pure,lenPure,capPure,minPure,maxPure,buildP,resK,endV,yieldE,↓reduceIte,Nat.reduceEqDiff,reduceCtorEq,Nat.reduceAdd,Nat.reduceMul,Nat.reduceSub,Int.reduceLT,Int.reduceLE,Int.reduceToNat,Int.reduceAdd,Int.reduceSub,Int.reduceMul,ne_eq,decide_true,decide_false,tf42, g0, g5, g9, g10]
      refine hold_intro ⟨⟨?_, ?_, ?_, k + 1, by omega, ?_, hg5.trans gx⟩, ?_⟩
      · simp -dsimp only [↓RE,RU,RL,if_true,if_false,↓reduceIte,Nat.reduceEqDiff,reduceCtorEq,decide_true,decide_false, g0]
      · simp -dsimp only [↓RE,RU,RL,if_true,if_false,↓reduceIte,Nat.reduceEqDiff,reduceCtorEq,decide_true,decide_false, g5]
      · simp -dsimp only [↓RE,RU,RL,if_true,if_false,↓reduceIte,Nat.reduceEqDiff,reduceCtorEq,decide_true,decide_false, g9]
      · simp -dsimp only [↓RE,RU,RL,if_true,if_false,↓reduceIte,Nat.reduceEqDiff,reduceCtorEq,decide_true,decide_false, g10]
        rw [wrap_i64_in (by omega) (by omega)]; rfl
      · simp -dsimp only [↓RE,RU,RL,if_true,if_false,↓reduceIte,Nat.reduceEqDiff,reduceCtorEq,decide_true,decide_false, g10]
        rw [wrap_i64_in (by omega) (by omega), envInt_int, envInt_int]; omega
    · try simp -dsimp only [↓RE,↓c_seq,RU,RL,if_true,if_false,forall_const,implies_true,Nat.reduceLeDiff,Nat.reduceLT,pureOp,binPure,intBin,strBin,eqPure,isConstO,unPure,sliceLo,sliceHi,slicePure,slice3Pure,lenPure,capPure,minPure,maxPure,buildP,resK,endV,yieldE,↓reduceIte,Nat.reduceEqDiff,reduceCtorEq,Nat.reduceAdd,Nat.reduceMul,Nat.reduceSub,Int.reduceLT,Int.reduceLE,Int.reduceToNat,Int.reduceAdd,Int.reduceSub,Int.reduceMul,ne_eq,decide_true,decide_false,tf42, g0, g5, g9, g10]
      refine wpLoop_intro (fun e' w' => e' 0 = .pointer (some ⟨p, 0, none⟩) ∧ e' 5 = .slice (some ba) vs.length Ca ∧ e' 9 = .int .i64 i ∧ ∃ k : Nat, k ≤ n ∧ e' 12 = .int .i64 k ∧ Grow w3 w') (fun e' _ => n - (envInt (e' 12)).toNat) ⟨?_, ?_, ?_, 0, Nat.zero_le _, ?_, hg5⟩ ?_
      · simp -dsimp only [↓RE,RU,RL,if_true,if_false,↓reduceIte,Nat.reduceEqDiff,reduceCtorEq,decide_true,decide_false, g0]
      · simp -dsimp only [↓RE,RU,RL,if_true,if_false,↓reduceIte,Nat.reduceEqDiff,reduceCtorEq,decide_true,decide_false, g5]
      · simp -dsimp only [↓RE,RU,RL,if_true,if_false,↓reduceIte,Nat.reduceEqDiff,reduceCtorEq,decide_true,decide_false, g9]
      · simp -dsimp only [↓RE,RU,RL,if_true,if_false,↓reduceIte,Nat.reduceEqDiff,reduceCtorEq,decide_true,decide_false, g0, Int.cast_ofNat_Int]
      rintro e6 w6 ⟨f0, f5, f9, k2, hk2', f12, hg6⟩
      have hst := (stay (hk3.then_grow hg6)).1
      obtain ⟨bd, hbd, v', hv', hcv'⟩ := one (hk3.then_grow hg6) (i := i) (by omega)
      subst hbd
      rw [hv] at hv'
      injection hv' with hv'
      subst hv'
      rw [hcv] at hcv'
      try simp -dsimp only [↓RE,↓c_seq,RU,RL,if_true,if_false,forall_const,implies_true,Nat.reduceLeDiff,Nat.reduceLT,pureOp,binPure,intBin,strBin,eqPure,isConstO,unPure,sliceLo,sliceHi,slicePure,slice3Pure,lenPure,capPure,minPure,maxPure,buildP,resK,endV,yieldE,↓reduceIte,Nat.reduceEqDiff,reduceCtorEq,Nat.reduceAdd,Nat.reduceMul,Nat.reduceSub,Int.reduceLT,Int.reduceLE,Int.reduceToNat,Int.reduceAdd,Int.reduceSub,Int.reduceMul,ne_eq,decide_true,decide_false,tf42, f0, f5, f9, f12, hst]
      refine ⟨⟨by omega, by omega⟩, ?_⟩
      try simp -dsimp only [↓RE,↓c_seq,RU,RL,if_true,if_false,forall_const,implies_true,Nat.reduceLeDiff,Nat.reduceLT,pureOp,binPure,intBin,strBin,eqPure,isConstO,unPure,sliceLo,sliceHi,slicePure,slice3Pure,lenPure,capPure,minPure,maxPure,buildP,resK,endV,yieldE,↓reduceIte,Nat.reduceEqDiff,reduceCtorEq,Nat.reduceAdd,Nat.reduceMul,Nat.reduceSub,Int.reduceLT,Int.reduceLE,Int.reduceToNat,Int.reduceAdd,Int.reduceSub,Int.reduceMul,ne_eq,decide_true,decide_false,tf42, f0, f5, f9, f12, hst, Int.toNat_natCast, hcv']
      refine ⟨fun hlt3 => ?_, fun hge3 => ?_⟩
      · obtain ⟨va, hva, hcx⟩ := hrep (k := k2) (hRo.grow hg6) (by omega)
        subst hva
        try simp -dsimp only [↓RE,↓c_seq,RU,RL,if_true,if_false,forall_const,implies_true,Nat.reduceLeDiff,Nat.reduceLT,pureOp,binPure,intBin,strBin,eqPure,isConstO,unPure,sliceLo,sliceHi,slicePure,slice3Pure,lenPure,capPure,minPure,maxPure,buildP,resK,endV,yieldE,↓reduceIte,Nat.reduceEqDiff,reduceCtorEq,Nat.reduceAdd,Nat.reduceMul,Nat.reduceSub,Int.reduceLT,Int.reduceLE,Int.reduceToNat,Int.reduceAdd,Int.reduceSub,Int.reduceMul,ne_eq,decide_true,decide_false,tf42, f0, f5, f9, f12, Int.toNat_natCast, hst, hcv']
        refine ⟨⟨by omega, by omega⟩, ⟨by omega, by omega⟩, ?_⟩
        refine ⟨markTags i, rfl, fun j u hu => by rw [add_add']; exact hcx j u hu, ?_⟩
        have hz := Blk.new' w6 119 #[.string .empty, .string .empty]
        have gz := Grow.alloc w6 (.cells #[.string .empty, .string .empty] 119)
        try simp -dsimp only [↓RE,↓c_seq,RU,RL,if_true,if_false,forall_const,implies_true,Nat.reduceLeDiff,Nat.reduceLT,pureOp,binPure,intBin,strBin,eqPure,isConstO,unPure,sliceLo,sliceHi,slicePure,slice3Pure,lenPure,capPure,minPure,maxPure,buildP,resK,endV,yieldE,↓reduceIte,Nat.reduceEqDiff,reduceCtorEq,Nat.reduceAdd,Nat.reduceMul,Nat.reduceSub,Int.reduceLT,Int.reduceLE,Int.reduceToNat,Int.reduceAdd,Int.reduceSub,Int.reduceMul,ne_eq,decide_true,decide_false,tf42, f0, f5, f9, f12, Int.toNat_natCast, hst, hcv', markTags]
        refine hz.stAgg (by simp) (by simp [Value.oneCell']) (fun wx hBx hKx => ?_)
        have gx : Grow w6 wx := gz.above hKx (fun i hi e => by omega)
        have hBx : Blk wx w6.heap.size 119 (markTags i) := by simpa [markTags] using hBx
        repeat (first | rw [c_seq] | simp -dsimp only [↓RE,RU,RL,if_true,if_false,forall_const,implies_true,Nat.reduceLeDiff,Nat.reduceLT,pureOp,binPure,intBin,strBin,eqPure,isConstO,unPure,sliceLo,sliceHi,slicePure,slice3Pure,lenPure,capPure,minPure,maxPure,buildP,resK,endV,yieldE,↓reduceIte,Nat.reduceEqDiff,reduceCtorEq,Nat.reduceAdd,Nat.reduceMul,Nat.reduceSub,Int.reduceLT,Int.reduceLE,Int.reduceToNat,Int.reduceAdd,Int.reduceSub,Int.reduceMul,ne_eq,decide_true,decide_false,tf42, f0, f5, f9, f12, Int.toNat_natCast, hst, hcv'])
        refine wpDraw_by (Grow wx ·) [(0, true), (1, true), (2, false), (3, true), (4, true), (5, true)] (by kernel_rfl) (Grow.drew wx) ?_
        simp only [planL, List.getElem?_toArray, List.getElem?_cons_zero, List.getElem?_cons_succ, Option.toList_some, List.map_cons, List.map_nil, List.cons_append, List.nil_append]
        repeat (first | rw [c_seq] | simp -dsimp only [↓RE,RU,RL,if_true,if_false,forall_const,implies_true,Nat.reduceLeDiff,Nat.reduceLT,pureOp,binPure,intBin,strBin,eqPure,isConstO,unPure,sliceLo,sliceHi,slicePure,slice3Pure,lenPure,capPure,minPure,maxPure,buildP,resK,endV,yieldE,↓reduceIte,Nat.reduceEqDiff,reduceCtorEq,Nat.reduceAdd,Nat.reduceMul,Nat.reduceSub,Int.reduceLT,Int.reduceLE,Int.reduceToNat,Int.reduceAdd,Int.reduceSub,Int.reduceMul,ne_eq,decide_true,decide_false,tf42, f0, f5, f9, f12, Int.toNat_natCast, hst, hcv', add_lit', Nat.zero_add])
        refine ⟨markTags i, rfl, fun w' g j u hu => by rw [add_lit', Nat.zero_add, (hBx.grow g).cell]; exact hu, ?_⟩
        repeat (first | rw [c_seq] | simp -dsimp only [↓RE,RU,RL,if_true,if_false,forall_const,implies_true,Nat.reduceLeDiff,Nat.reduceLT,pureOp,binPure,intBin,strBin,eqPure,isConstO,unPure,sliceLo,sliceHi,slicePure,slice3Pure,lenPure,capPure,minPure,maxPure,buildP,resK,endV,yieldE,↓reduceIte,Nat.reduceEqDiff,reduceCtorEq,Nat.reduceAdd,Nat.reduceMul,Nat.reduceSub,Int.reduceLT,Int.reduceLE,Int.reduceToNat,Int.reduceAdd,Int.reduceSub,Int.reduceMul,ne_eq,decide_true,decide_false,tf42, f0, f5, f9, f12, Int.toNat_natCast, hst, hcv'])
        refine text_ok (by omega) (fun wy gy => ?_)
        have gxy := (Grow.drew wx).trans gy
        refine ⟨gxy, ?_⟩
        have gx := gx.trans gxy
        try simp -dsimp only [↓RE,↓c_seq,RU,RL,if_true,if_false,forall_const,implies_true,Nat.reduceLeDiff,Nat.reduceLT,pureOp,binPure,intBin,strBin,eqPure,isConstO,unPure,sliceLo,sliceHi,slicePure,slice3Pure,lenPure,capPure,minPure,maxPure,buildP,resK,endV,yieldE,↓reduceIte,Nat.reduceEqDiff,reduceCtorEq,Nat.reduceAdd,Nat.reduceMul,Nat.reduceSub,Int.reduceLT,Int.reduceLE,Int.reduceToNat,Int.reduceAdd,Int.reduceSub,Int.reduceMul,ne_eq,decide_true,decide_false,tf42, f0, f5, f9, f12, markTags, eq_self, and_self, decide_true, Bool.not_true]
        try simp -dsimp only [↓RE,↓c_seq,RU,RL,if_true,if_false,forall_const,implies_true,Nat.reduceLeDiff,Nat.reduceLT,pureOp,binPure,intBin,strBin,eqPure,isConstO,unPure,sliceLo,sliceHi,slicePure,slice3Pure,lenPure,capPure,minPure,maxPure,buildP,resK,endV,yieldE,↓reduceIte,Nat.reduceEqDiff,reduceCtorEq,Nat.reduceAdd,Nat.reduceMul,Nat.reduceSub,Int.reduceLT,Int.reduceLE,Int.reduceToNat,Int.reduceAdd,Int.reduceSub,Int.reduceMul,ne_eq,decide_true,decide_false,tf42, f0, f5, f9, f12]
        refine hold_intro ⟨⟨?_, ?_, ?_, k2 + 1, by omega, ?_, hg6.trans gx⟩, ?_⟩
        · simp -dsimp only [↓RE,RU,RL,if_true,if_false,↓reduceIte,Nat.reduceEqDiff,reduceCtorEq,decide_true,decide_false, f0]
        · simp -dsimp only [↓RE,RU,RL,if_true,if_false,↓reduceIte,Nat.reduceEqDiff,reduceCtorEq,decide_true,decide_false, f5]
        · simp -dsimp only [↓RE,RU,RL,if_true,if_false,↓reduceIte,Nat.reduceEqDiff,reduceCtorEq,decide_true,decide_false, f9]
        · simp -dsimp only [↓RE,RU,RL,if_true,if_false,↓reduceIte,Nat.reduceEqDiff,reduceCtorEq,decide_true,decide_false, f12]
          rw [wrap_i64_in (by omega) (by omega)]; rfl
        · simp -dsimp only [↓RE,RU,RL,if_true,if_false,↓reduceIte,Nat.reduceEqDiff,reduceCtorEq,decide_true,decide_false, f12]
          rw [wrap_i64_in (by omega) (by omega), envInt_int, envInt_int]; omega
      · try simp -dsimp only [↓RE,↓c_seq,RU,RL,if_true,if_false,forall_const,implies_true,Nat.reduceLeDiff,Nat.reduceLT,pureOp,binPure,intBin,strBin,eqPure,isConstO,unPure,sliceLo,sliceHi,slicePure,slice3Pure,lenPure,capPure,minPure,maxPure,buildP,resK,endV,yieldE,↓reduceIte,Nat.reduceEqDiff,reduceCtorEq,Nat.reduceAdd,Nat.reduceMul,Nat.reduceSub,Int.reduceLT,Int.reduceLE,Int.reduceToNat,Int.reduceAdd,Int.reduceSub,Int.reduceMul,ne_eq,decide_true,decide_false,tf42, f0, f5, f9, f12]
        refine hold_intro ⟨⟨?_, ?_, i + 1, by omega, ?_, hg6⟩, ?_⟩
        · simp -dsimp only [↓RE,RU,RL,if_true,if_false,↓reduceIte,Nat.reduceEqDiff,reduceCtorEq,decide_true,decide_false, f0]
        · simp -dsimp only [↓RE,RU,RL,if_true,if_false,↓reduceIte,Nat.reduceEqDiff,reduceCtorEq,decide_true,decide_false, f5]
        · simp -dsimp only [↓RE,RU,RL,if_true,if_false,↓reduceIte,Nat.reduceEqDiff,reduceCtorEq,decide_true,decide_false, f9]
          rw [wrap_i64_in (by omega) (by omega)]; rfl
        · simp -dsimp only [↓RE,RU,RL,if_true,if_false,↓reduceIte,Nat.reduceEqDiff,reduceCtorEq,decide_true,decide_false, f9, h9]
          rw [wrap_i64_in (by omega) (by omega), envInt_int, envInt_int]; omega
  · try simp -dsimp only [↓RE,↓c_seq,RU,RL,if_true,if_false,forall_const,implies_true,Nat.reduceLeDiff,Nat.reduceLT,pureOp,binPure,intBin,strBin,eqPure,isConstO,unPure,sliceLo,sliceHi,slicePure,slice3Pure,lenPure,capPure,minPure,maxPure,buildP,resK,endV,yieldE,↓reduceIte,Nat.reduceEqDiff,reduceCtorEq,Nat.reduceAdd,Nat.reduceMul,Nat.reduceSub,Int.reduceLT,Int.reduceLE,Int.reduceToNat,Int.reduceAdd,Int.reduceSub,Int.reduceMul,ne_eq,decide_true,decide_false,tf42, h0, h5, h9]
    exact h w4 (hk3.then_grow hg4)

end Go.Proofs.YtcnebgokbjpjnaaGreat
