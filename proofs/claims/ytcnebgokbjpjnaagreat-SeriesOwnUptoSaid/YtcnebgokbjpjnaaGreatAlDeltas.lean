/- weirmem.Book.aloneDeltas: lists that are each in memory of their own show in no other. -/
import Derived.Test.YtcnebgokbjpjnaaGreatShelfL
import Derived.Test.YtcnebgokbjpjnaaGreatSame
import Derived.Test.YtcnebgokbjpjnaaGreatTab
import Derived.Test.YtcnebgokbjpjnaaGreatArith
set_option linter.unusedVariables false
set_option linter.unusedSimpArgs false
set_option maxRecDepth 100000
namespace Go.Proofs.YtcnebgokbjpjnaaGreat
open Go

def markDeltas (i : Nat) : List Value := [.string .empty, .slice none 0 0, .string .empty, .int .i64 (IntKind.i64.wrap (-7 - ((i : Nat) : Int))), .bool false, .bool false, .int .u8 0, .int .i64 0, .int .u8 0, .int .i64 0]
theorem alDeltas_ok {w : World} {p : Nat} {cs : List Value} (hB : Blk w p 58 cs) {vs : List Value} {B : Option Addr} {C : Nat} (hi : cs[19]? = some (.slice B vs.length C)) (hO : LRow w 68 1 (.slice B vs.length C) vs.length vs)
    {cont : Nat → List Value} (hS : Held w 95 10 104 vs cont) (hN : vs.length ≤ 1099511627776) {R : VWK} (h : ∀ w', Keep (fpL vs) w w' → R (.bool true) w') :
    CallsV Tryz.prog 56 [.pointer (some ⟨p, 0, none⟩)] w R := by
  have hm1 : ∀ i, ∀ u ∈ markDeltas i, u.oneCell' = true := by intro i; simp [markDeltas, Value.oneCell']
  have hml : ∀ i, (markDeltas i).length = 10 := fun i => rfl
  -- the book and its list stay, whatever of the rows is turned
  have hpb : ¬ fpL vs p := by
    rintro ⟨v, hv, hk⟩
    obtain ⟨i, hi⟩ := List.mem_iff_getElem?.1 hv
    exact LRow.blk_ne (hS.own i v hi) hB (by decide) hk
  have hpl : ∀ k, fpV (.slice B vs.length C) k → ¬ fpL vs k := by
    rintro k hk ⟨v, hv, hk'⟩
    obtain ⟨i, hi⟩ := List.mem_iff_getElem?.1 hv
    exact LRow.ne (hS.own i v hi) hO (by decide) k hk' hk
  have stay : ∀ {w' : World}, Keep (fpL vs) w w' → w'.cell? ⟨p, 19, none⟩ = some (.slice B vs.length C) ∧ Rd w' B vs.length 1 vs := fun k =>
    ⟨((hB.keep k hpb).cell 19).trans hi, LRow.rd (LRow.keep hO k hpl)⟩
  have one : ∀ {w' : World} {i : Nat}, Keep (fpL vs) w w' → i < vs.length → ∃ bd, B = some bd ∧ ∃ v, vs[i]? = some v ∧ w'.cell? (bd.add i) = some v := by
    intro w' i k hi
    obtain ⟨bd, u, e, hu, hc⟩ := (stay k).2.cell1 hi
    exact ⟨bd, e, u, hu, hc⟩
  have hrep : ∀ {w' : World} {A : Option Addr} {m i k : Nat}, Rd w' A m 10 (rep m (markDeltas i)) → k < m → ∃ ad, A = some ad ∧ ∀ j u, (markDeltas i)[j]? = some u → w'.cell? (ad.add (k * 10 + j)) = some u := by
    intro w' A m i k hr hk
    obtain ⟨ad, e, hc⟩ := hr.2 (by omega)
    exact ⟨ad, e, fun j u hu => hc _ u (rep_get (hml i) hk hu)⟩
  refine calls_of_wpC mixed Tryz.func56 rfl (by kernel_rfl) ?_
  intro e he
  have he0 := he 0
  simp only [List.getD_cons_zero, List.getD_cons_succ] at he0
  clear he
  rw [c_seq]
  simp -dsimp only [↓RE,RU,RL,if_true,if_false,forall_const,implies_true,Nat.reduceLeDiff,Nat.reduceLT,pureOp,binPure,intBin,strBin,eqPure,isConstO,unPure,sliceLo,sliceHi,slicePure,slice3Pure,lenPure,capPure,minPure,maxPure,buildP,resK,endV,yieldE,↓reduceIte,Nat.reduceEqDiff,reduceCtorEq,Nat.reduceAdd,Nat.reduceMul,Nat.reduceSub,Int.reduceLT,Int.reduceLE,Int.reduceToNat,Int.reduceAdd,Int.reduceSub,Int.reduceMul,ne_eq,decide_true,decide_false,tf56, he0]
  -- written over
  refine c_seq_cut (fun e' w' => e' 0 = .pointer (some ⟨p, 0, none⟩) ∧ ∃ ct, Held w' 95 10 104 vs ct ∧ (∀ j, j < vs.length → ct j = rep (slen (vs.getD j .nilIface)) (markDeltas j)) ∧ Keep (fpL vs) w w') ?_ ?_
  · try simp -dsimp only [↓RE,↓c_seq,RU,RL,if_true,if_false,forall_const,implies_true,Nat.reduceLeDiff,Nat.reduceLT,pureOp,binPure,intBin,strBin,eqPure,isConstO,unPure,sliceLo,sliceHi,slicePure,slice3Pure,lenPure,capPure,minPure,maxPure,buildP,resK,endV,yieldE,↓reduceIte,Nat.reduceEqDiff,reduceCtorEq,Nat.reduceAdd,Nat.reduceMul,Nat.reduceSub,Int.reduceLT,Int.reduceLE,Int.reduceToNat,Int.reduceAdd,Int.reduceSub,Int.reduceMul,ne_eq,decide_true,decide_false,tf56, he0]
    refine wpLoop_intro (fun e' w' => e' 0 = .pointer (some ⟨p, 0, none⟩) ∧ ∃ (i : Nat) (ct : Nat → List Value), i ≤ vs.length ∧ e' 3 = .int .i64 i ∧ Held w' 95 10 104 vs ct ∧ (∀ j, j < i → ct j = rep (slen (vs.getD j .nilIface)) (markDeltas j)) ∧ Keep (fpL vs) w w')
      (fun e' _ => vs.length - (envInt (e' 3)).toNat) ⟨?_, 0, cont, Nat.zero_le _, ?_, hS, fun j hj => absurd hj (by omega), Keep.refl _ _⟩ ?_
    · simp -dsimp only [↓RE,RU,RL,if_true,if_false,↓reduceIte,Nat.reduceEqDiff,reduceCtorEq,decide_true,decide_false, he0]
    · simp -dsimp only [↓RE,RU,RL,if_true,if_false,↓reduceIte,Nat.reduceEqDiff,reduceCtorEq,decide_true,decide_false, he0, Int.cast_ofNat_Int]
    rintro e1 w1 ⟨h0, i, ct, hil, h3, hR1, hct, hk1⟩
    have hst := (stay hk1).1
    try simp -dsimp only [↓RE,↓c_seq,RU,RL,if_true,if_false,forall_const,implies_true,Nat.reduceLeDiff,Nat.reduceLT,pureOp,binPure,intBin,strBin,eqPure,isConstO,unPure,sliceLo,sliceHi,slicePure,slice3Pure,lenPure,capPure,minPure,maxPure,buildP,resK,endV,yieldE,↓reduceIte,Nat.reduceEqDiff,reduceCtorEq,Nat.reduceAdd,Nat.reduceMul,Nat.reduceSub,Int.reduceLT,Int.reduceLE,Int.reduceToNat,Int.reduceAdd,Int.reduceSub,Int.reduceMul,ne_eq,decide_true,decide_false,tf56, h0, h3, hst]
    refine ⟨fun hlt => ?_, fun hge => ?_⟩
    · obtain ⟨bd, hbd, v, hv, hcv⟩ := one hk1 (i := i) (by omega)
      subst hbd
      obtain ⟨A, c, hvA, _, _⟩ := LRow.form (hR1.own i v hv)
      have hbnd := (hS.bound i v hv).1
      simp only [maxLen] at hbnd
      generalize hn : slen v = n at *
      subst hvA
      have hog : vs.getD i .nilIface = .slice A n c := by rw [List.getD_eq_getElem?_getD, hv]; rfl
      have hX := (hR1.own i _ hv).1
      generalize hXe : ct i = X at hX
      try simp -dsimp only [↓RE,↓c_seq,RU,RL,if_true,if_false,forall_const,implies_true,Nat.reduceLeDiff,Nat.reduceLT,pureOp,binPure,intBin,strBin,eqPure,isConstO,unPure,sliceLo,sliceHi,slicePure,slice3Pure,lenPure,capPure,minPure,maxPure,buildP,resK,endV,yieldE,↓reduceIte,Nat.reduceEqDiff,reduceCtorEq,Nat.reduceAdd,Nat.reduceMul,Nat.reduceSub,Int.reduceLT,Int.reduceLE,Int.reduceToNat,Int.reduceAdd,Int.reduceSub,Int.reduceMul,ne_eq,decide_true,decide_false,tf56, h0, h3]
      refine wpLoop_intro (fun e' w' => e' 0 = .pointer (some ⟨p, 0, none⟩) ∧ e' 3 = .int .i64 i ∧ ∃ k : Nat, k ≤ n ∧ e' 4 = .int .i64 k ∧ Held w' 95 10 104 vs (fun j => if j = i then rep k (markDeltas i) ++ X.drop (k * 10) else ct j) ∧ Keep (fpL vs) w w')
        (fun e' _ => n - (envInt (e' 4)).toNat) ⟨?_, ?_, 0, Nat.zero_le _, ?_, hR1.congr (fun j hj => by
          by_cases hji : j = i
          · subst hji; rw [if_pos rfl, hXe]; simp [rep]
          · rw [if_neg hji]), hk1⟩ ?_
      · simp -dsimp only [↓RE,RU,RL,if_true,if_false,↓reduceIte,Nat.reduceEqDiff,reduceCtorEq,decide_true,decide_false, h0]
      · simp -dsimp only [↓RE,RU,RL,if_true,if_false,↓reduceIte,Nat.reduceEqDiff,reduceCtorEq,decide_true,decide_false, h3]
      · simp -dsimp only [↓RE,RU,RL,if_true,if_false,↓reduceIte,Nat.reduceEqDiff,reduceCtorEq,decide_true,decide_false, h0, Int.cast_ofNat_Int]
      rintro e2 w2 ⟨g0, g3, k, hkn, g4, hR2, hk2⟩
      have hst2 := (stay hk2).1
      obtain ⟨bd2, hbd2, v2, hv2, hcv2⟩ := one hk2 (i := i) (by omega)
      injection hbd2 with hbd2
      subst hbd2
      rw [hv] at hv2
      injection hv2 with hv2
      subst hv2
      try simp -dsimp only [↓RE,↓c_seq,RU,RL,if_true,if_false,forall_const,implies_true,Nat.reduceLeDiff,Nat.reduceLT,pureOp,binPure,intBin,strBin,eqPure,isConstO,unPure,sliceLo,sliceHi,slicePure,slice3Pure,lenPure,capPure,minPure,maxPure,buildP,resK,endV,yieldE,↓reduceIte,Nat.reduceEqDiff,reduceCtorEq,Nat.reduceAdd,Nat.reduceMul,Nat.reduceSub,Int.reduceLT,Int.reduceLE,Int.reduceToNat,Int.reduceAdd,Int.reduceSub,Int.reduceMul,ne_eq,decide_true,decide_false,tf56, g0, g3, g4, hst2]
      refine ⟨⟨by omega, by omega⟩, ?_⟩
      try simp -dsimp only [↓RE,↓c_seq,RU,RL,if_true,if_false,forall_const,implies_true,Nat.reduceLeDiff,Nat.reduceLT,pureOp,binPure,intBin,strBin,eqPure,isConstO,unPure,sliceLo,sliceHi,slicePure,slice3Pure,lenPure,capPure,minPure,maxPure,buildP,resK,endV,yieldE,↓reduceIte,Nat.reduceEqDiff,reduceCtorEq,Nat.reduceAdd,Nat.reduceMul,Nat.reduceSub,Int.reduceLT,Int.reduceLE,Int.reduceToNat,Int.reduceAdd,Int.reduceSub,Int.reduceMul,ne_eq,decide_true,decide_false,tf56, g0, g3, g4, hst2, Int.toNat_natCast, hcv2]
      refine ⟨fun hlt2 => ?_, fun hge2 => ?_⟩
      · have hO2 := hR2.own i _ hv
        simp only [if_true] at hO2
        have hO2 : LRow w2 95 10 (.slice A n c) n (rep k (markDeltas i) ++ X.drop (k * 10)) := hO2
        obtain ⟨G, rfl⟩ : ∃ G, A = some ⟨G, 0, none⟩ := lr_spot hO2 (by omega)
        try simp -dsimp only [↓RE,↓c_seq,RU,RL,if_true,if_false,forall_const,implies_true,Nat.reduceLeDiff,Nat.reduceLT,pureOp,binPure,intBin,strBin,eqPure,isConstO,unPure,sliceLo,sliceHi,slicePure,slice3Pure,lenPure,capPure,minPure,maxPure,buildP,resK,endV,yieldE,↓reduceIte,Nat.reduceEqDiff,reduceCtorEq,Nat.reduceAdd,Nat.reduceMul,Nat.reduceSub,Int.reduceLT,Int.reduceLE,Int.reduceToNat,Int.reduceAdd,Int.reduceSub,Int.reduceMul,ne_eq,decide_true,decide_false,tf56, g0, g3, g4, hst2]
        refine ⟨⟨by omega, by omega⟩, ?_⟩
        try simp -dsimp only [↓RE,↓c_seq,RU,RL,if_true,if_false,forall_const,implies_true,Nat.reduceLeDiff,Nat.reduceLT,pureOp,binPure,intBin,strBin,eqPure,isConstO,unPure,sliceLo,sliceHi,slicePure,slice3Pure,lenPure,capPure,minPure,maxPure,buildP,resK,endV,yieldE,↓reduceIte,Nat.reduceEqDiff,reduceCtorEq,Nat.reduceAdd,Nat.reduceMul,Nat.reduceSub,Int.reduceLT,Int.reduceLE,Int.reduceToNat,Int.reduceAdd,Int.reduceSub,Int.reduceMul,ne_eq,decide_true,decide_false,tf56, g0, g3, g4, hst2, Int.toNat_natCast, hcv2]
        refine ⟨⟨by omega, by omega⟩, ?_⟩
        refine lr_put hO2 (by omega) (hml i) (hm1 i) (fun w3 hO3 hK3 => ?_)
        have hO3 : LRow w3 95 10 (.slice (some ⟨G, 0, none⟩) n c) n (rep (k + 1) (markDeltas i) ++ X.drop ((k + 1) * 10)) := by
          have hrp := rep_put (size := 10) (n := n) (k := k) (hml i) hX (by omega)
          rw [← hrp]
          exact hO3
        have hk3 : Keep (fpL vs) w w3 := hk2.trans hK3 (fun _ _ q => q) (fun x _ q => ⟨_, List.mem_of_getElem? hv, q⟩)
        have hR3 : Held w3 95 10 104 vs (fun j => if j = i then rep (k + 1) (markDeltas i) ++ X.drop ((k + 1) * 10) else ct j) := (hR2.turn hv hO3 hK3).congr (fun j _ => by
          by_cases hji : j = i
          · simp only [if_pos hji]
          · simp only [if_neg hji])
        try simp -dsimp only [↓RE,↓c_seq,RU,RL,if_true,if_false,forall_const,implies_true,Nat.reduceLeDiff,Nat.reduceLT,pureOp,binPure,intBin,strBin,eqPure,isConstO,unPure,sliceLo,sliceHi,slicePure,slice3Pure,lenPure,capPure,minPure,maxPure,buildP,resK,endV,yieldE,↓reduceIte,Nat.reduceEqDiff,reduceCtorEq,Nat.reduceAdd,Nat.reduceMul,Nat.reduceSub,Int.reduceLT,Int.reduceLE,Int.reduceToNat,Int.reduceAdd,Int.reduceSub,Int.reduceMul,ne_eq,decide_true,decide_false,tf56, g0, g3, g4]
        refine hold_intro ⟨⟨?_, ?_, k + 1, by omega, ?_, hR3, hk3⟩, ?_⟩
        · simp -dsimp only [↓RE,RU,RL,if_true,if_false,↓reduceIte,Nat.reduceEqDiff,reduceCtorEq,decide_true,decide_false, g0]
        · simp -dsimp only [↓RE,RU,RL,if_true,if_false,↓reduceIte,Nat.reduceEqDiff,reduceCtorEq,decide_true,decide_false, g3]
        · simp -dsimp only [↓RE,RU,RL,if_true,if_false,↓reduceIte,Nat.reduceEqDiff,reduceCtorEq,decide_true,decide_false, g4]
          rw [wrap_i64_in (by omega) (by omega)]; rfl
        · simp -dsimp only [↓RE,RU,RL,if_true,if_false,↓reduceIte,Nat.reduceEqDiff,reduceCtorEq,decide_true,decide_false, g4]
          rw [wrap_i64_in (by omega) (by omega), envInt_int, envInt_int]; omega
      · obtain rfl : k = n := by omega
        try simp -dsimp only [↓RE,↓c_seq,RU,RL,if_true,if_false,forall_const,implies_true,Nat.reduceLeDiff,Nat.reduceLT,pureOp,binPure,intBin,strBin,eqPure,isConstO,unPure,sliceLo,sliceHi,slicePure,slice3Pure,lenPure,capPure,minPure,maxPure,buildP,resK,endV,yieldE,↓reduceIte,Nat.reduceEqDiff,reduceCtorEq,Nat.reduceAdd,Nat.reduceMul,Nat.reduceSub,Int.reduceLT,Int.reduceLE,Int.reduceToNat,Int.reduceAdd,Int.reduceSub,Int.reduceMul,ne_eq,decide_true,decide_false,tf56, g0, g3, g4]
        refine hold_intro ⟨⟨?_, i + 1, (fun j => if j = i then rep k (markDeltas i) ++ X.drop (k * 10) else ct j), by omega, ?_, hR2, fun j hj => ?_, hk2⟩, ?_⟩
        · simp -dsimp only [↓RE,RU,RL,if_true,if_false,↓reduceIte,Nat.reduceEqDiff,reduceCtorEq,decide_true,decide_false, g0]
        · simp -dsimp only [↓RE,RU,RL,if_true,if_false,↓reduceIte,Nat.reduceEqDiff,reduceCtorEq,decide_true,decide_false, g3]
          rw [wrap_i64_in (by omega) (by omega)]; rfl
        · show (if j = i then rep k (markDeltas i) ++ X.drop (k * 10) else ct j) = _
          by_cases hji : j = i
          · subst hji
            rw [if_pos rfl, hog, List.drop_eq_nil_of_le (by omega), List.append_nil]; rfl
          · rw [if_neg hji]; exact hct j (by omega)
        · simp -dsimp only [↓RE,RU,RL,if_true,if_false,↓reduceIte,Nat.reduceEqDiff,reduceCtorEq,decide_true,decide_false, g3, h3]
          rw [wrap_i64_in (by omega) (by omega), envInt_int, envInt_int]; omega
    · obtain rfl : i = vs.length := by omega
      try simp -dsimp only [↓RE,↓c_seq,RU,RL,if_true,if_false,forall_const,implies_true,Nat.reduceLeDiff,Nat.reduceLT,pureOp,binPure,intBin,strBin,eqPure,isConstO,unPure,sliceLo,sliceHi,slicePure,slice3Pure,lenPure,capPure,minPure,maxPure,buildP,resK,endV,yieldE,↓reduceIte,Nat.reduceEqDiff,reduceCtorEq,Nat.reduceAdd,Nat.reduceMul,Nat.reduceSub,Int.reduceLT,Int.reduceLE,Int.reduceToNat,Int.reduceAdd,Int.reduceSub,Int.reduceMul,ne_eq,decide_true,decide_false,tf56, h0, h3]
      refine hold_intro ⟨?_, ct, hR1, hct, hk1⟩
      simp -dsimp only [↓RE,↓c_seq,RU,RL,if_true,if_false,forall_const,implies_true,Nat.reduceLeDiff,Nat.reduceLT,pureOp,binPure,intBin,strBin,eqPure,isConstO,unPure,sliceLo,sliceHi,slicePure,slice3Pure,lenPure,capPure,minPure,maxPure,buildP,resK,endV,yieldE,↓reduceIte,Nat.reduceEqDiff,reduceCtorEq,Nat.reduceAdd,Nat.reduceMul,Nat.reduceSub,Int.reduceLT,Int.reduceLE,Int.reduceToNat,Int.reduceAdd,Int.reduceSub,Int.reduceMul,ne_eq,decide_true,decide_false,tf56, h0]
  rintro e2 w2 ⟨h0, ct, hR2, hct, hk2⟩
  have hFam := (hR2.congr hct).fam
  have hcnt : ∀ i v, vs[i]? = some v → vs.getD i .nilIface = v := fun i v hv => by rw [List.getD_eq_getElem?_getD, hv]; rfl
  have hw2 := hk2.size
  rw [c_seq]
  simp -dsimp only [↓RE,RU,RL,if_true,if_false,forall_const,implies_true,Nat.reduceLeDiff,Nat.reduceLT,pureOp,binPure,intBin,strBin,eqPure,isConstO,unPure,sliceLo,sliceHi,slicePure,slice3Pure,lenPure,capPure,minPure,maxPure,buildP,resK,endV,yieldE,↓reduceIte,Nat.reduceEqDiff,reduceCtorEq,Nat.reduceAdd,Nat.reduceMul,Nat.reduceSub,Int.reduceLT,Int.reduceLE,Int.reduceToNat,Int.reduceAdd,Int.reduceSub,Int.reduceMul,ne_eq,decide_true,decide_false,tf56, h0]
  -- grown, one behind the other
  refine c_seq_cut (fun e' w' => e' 0 = .pointer (some ⟨p, 0, none⟩) ∧ ∃ (cur : Nat → Value) (cnt : Nat → Nat) (Ba : Option Addr) (Ca : Nat), e' 5 = .slice Ba vs.length Ca ∧ Fam w' 95 10 vs cur cnt markDeltas ∧ (∀ j v, vs[j]? = some v → slen (cur j) = cnt j) ∧
      LRow w' 68 1 (.slice Ba vs.length Ca) vs.length ((List.range vs.length).map cur) ∧ Keep (fpL vs) w w') ?_ ?_
  · try simp -dsimp only [↓RE,↓c_seq,RU,RL,if_true,if_false,forall_const,implies_true,Nat.reduceLeDiff,Nat.reduceLT,pureOp,binPure,intBin,strBin,eqPure,isConstO,unPure,sliceLo,sliceHi,slicePure,slice3Pure,lenPure,capPure,minPure,maxPure,buildP,resK,endV,yieldE,↓reduceIte,Nat.reduceEqDiff,reduceCtorEq,Nat.reduceAdd,Nat.reduceMul,Nat.reduceSub,Int.reduceLT,Int.reduceLE,Int.reduceToNat,Int.reduceAdd,Int.reduceSub,Int.reduceMul,ne_eq,decide_true,decide_false,tf56, h0]
    refine wpLoop_intro (fun e' w' => e' 0 = .pointer (some ⟨p, 0, none⟩) ∧ ∃ (i : Nat) (cur : Nat → Value) (cnt : Nat → Nat) (sa : Value), i ≤ vs.length ∧ e' 6 = .int .i64 i ∧ e' 5 = sa ∧ Fam w' 95 10 vs cur cnt markDeltas ∧ (∀ j v, vs[j]? = some v → slen (cur j) = cnt j) ∧
        (∀ j v, i ≤ j → vs[j]? = some v → cur j = v) ∧ (∀ j v, vs[j]? = some v → ∀ k, fpV (cur j) k → fpL vs k ∨ w.heap.size ≤ k) ∧ LRow w' 68 1 sa i ((List.range i).map cur) ∧ (∀ k, fpV sa k → w.heap.size ≤ k) ∧ Keep (fpL vs) w w')
      (fun e' _ => vs.length - (envInt (e' 6)).toNat) ⟨?_, 0, _, _, .slice none 0 0, Nat.zero_le _, ?_, ?_, hFam, fun j v hv => rfl, fun j v _ hv => hcnt j v hv, fun j v hv k hk => .inl (by rw [hcnt j v hv] at hk; exact ⟨v, List.mem_of_getElem? hv, hk⟩), LRow.nil _ _ _, fun k hk => absurd hk (fpV_none k), hk2⟩ ?_
    · simp -dsimp only [↓RE,RU,RL,if_true,if_false,↓reduceIte,Nat.reduceEqDiff,reduceCtorEq,decide_true,decide_false, h0]
    · simp -dsimp only [↓RE,RU,RL,if_true,if_false,↓reduceIte,Nat.reduceEqDiff,reduceCtorEq,decide_true,decide_false, h0, Int.cast_ofNat_Int]
    · simp -dsimp only [↓RE,RU,RL,if_true,if_false,↓reduceIte,Nat.reduceEqDiff,reduceCtorEq,decide_true,decide_false, h0]
    rintro e3 w3 ⟨h0, i, cur, cnt, sa, hil, h6, h5, hF3, hsl, hrest, hfp, hsa, hfsa, hk3⟩
    have hst := (stay hk3).1
    try simp -dsimp only [↓RE,↓c_seq,RU,RL,if_true,if_false,forall_const,implies_true,Nat.reduceLeDiff,Nat.reduceLT,pureOp,binPure,intBin,strBin,eqPure,isConstO,unPure,sliceLo,sliceHi,slicePure,slice3Pure,lenPure,capPure,minPure,maxPure,buildP,resK,endV,yieldE,↓reduceIte,Nat.reduceEqDiff,reduceCtorEq,Nat.reduceAdd,Nat.reduceMul,Nat.reduceSub,Int.reduceLT,Int.reduceLE,Int.reduceToNat,Int.reduceAdd,Int.reduceSub,Int.reduceMul,ne_eq,decide_true,decide_false,tf56, h0, h6, h5, hst]
    refine ⟨fun hlt => ?_, fun hge => ?_⟩
    · obtain ⟨bd, hbd, v, hv, hcv⟩ := one hk3 (i := i) (by omega)
      subst hbd
      have hbnd := hS.bound i v hv
      have hci := hrest i v (Nat.le_refl _) hv
      have hni : cnt i = slen v := by rw [← hsl i v hv, hci]
      try simp -dsimp only [↓RE,↓c_seq,RU,RL,if_true,if_false,forall_const,implies_true,Nat.reduceLeDiff,Nat.reduceLT,pureOp,binPure,intBin,strBin,eqPure,isConstO,unPure,sliceLo,sliceHi,slicePure,slice3Pure,lenPure,capPure,minPure,maxPure,buildP,resK,endV,yieldE,↓reduceIte,Nat.reduceEqDiff,reduceCtorEq,Nat.reduceAdd,Nat.reduceMul,Nat.reduceSub,Int.reduceLT,Int.reduceLE,Int.reduceToNat,Int.reduceAdd,Int.reduceSub,Int.reduceMul,ne_eq,decide_true,decide_false,tf56, h0, h6, h5, hst]
      refine ⟨⟨by omega, by omega⟩, ?_⟩
      try simp -dsimp only [↓RE,↓c_seq,RU,RL,if_true,if_false,forall_const,implies_true,Nat.reduceLeDiff,Nat.reduceLT,pureOp,binPure,intBin,strBin,eqPure,isConstO,unPure,sliceLo,sliceHi,slicePure,slice3Pure,lenPure,capPure,minPure,maxPure,buildP,resK,endV,yieldE,↓reduceIte,Nat.reduceEqDiff,reduceCtorEq,Nat.reduceAdd,Nat.reduceMul,Nat.reduceSub,Int.reduceLT,Int.reduceLE,Int.reduceToNat,Int.reduceAdd,Int.reduceSub,Int.reduceMul,ne_eq,decide_true,decide_false,tf56, h0, h6, h5, hst, Int.toNat_natCast, hcv]
      refine wpLoop_intro (fun e' w' => e' 0 = .pointer (some ⟨p, 0, none⟩) ∧ e' 6 = .int .i64 i ∧ e' 5 = sa ∧ ∃ (m : Nat) (g : Value), m ≤ 20 ∧ e' 8 = .int .i64 m ∧ e' 7 = g ∧ Fam w' 95 10 vs (fun j => if j = i then g else cur j) (fun j => if j = i then slen v + m else cnt j) markDeltas ∧ slen g = slen v + m ∧
          (∀ k, fpV g k → fpL vs k ∨ w.heap.size ≤ k) ∧ LRow w' 68 1 sa i ((List.range i).map cur) ∧ Keep (fpL vs) w w')
        (fun e' _ => 20 - (envInt (e' 8)).toNat) ⟨?_, ?_, ?_, 0, v, by omega, ?_, ?_, ?_, rfl, fun k hk => .inl ⟨v, List.mem_of_getElem? hv, hk⟩, hsa, hk3⟩ ?_
      · simp -dsimp only [↓RE,RU,RL,if_true,if_false,↓reduceIte,Nat.reduceEqDiff,reduceCtorEq,decide_true,decide_false, h0]
      · simp -dsimp only [↓RE,RU,RL,if_true,if_false,↓reduceIte,Nat.reduceEqDiff,reduceCtorEq,decide_true,decide_false, h6]
      · simp -dsimp only [↓RE,RU,RL,if_true,if_false,↓reduceIte,Nat.reduceEqDiff,reduceCtorEq,decide_true,decide_false, h5]
      · simp -dsimp only [↓RE,RU,RL,if_true,if_false,↓reduceIte,Nat.reduceEqDiff,reduceCtorEq,decide_true,decide_false, h0, Int.cast_ofNat_Int]
      · simp -dsimp only [↓RE,RU,RL,if_true,if_false,↓reduceIte,Nat.reduceEqDiff,reduceCtorEq,decide_true,decide_false, h0]
      · rw [show (fun j => if j = i then v else cur j) = cur from funext fun j => by by_cases hj : j = i <;> simp [hj, hci], show (fun j => if j = i then slen v + 0 else cnt j) = cnt from funext fun j => by by_cases hj : j = i <;> simp [hj, hni]]
        exact hF3
      rintro e4 w4 ⟨g0, g6, g5, m, g, hm, g8, g7, hF4, hslg, hfg, hsa4, hk4⟩
      try simp -dsimp only [↓RE,↓c_seq,RU,RL,if_true,if_false,forall_const,implies_true,Nat.reduceLeDiff,Nat.reduceLT,pureOp,binPure,intBin,strBin,eqPure,isConstO,unPure,sliceLo,sliceHi,slicePure,slice3Pure,lenPure,capPure,minPure,maxPure,buildP,resK,endV,yieldE,↓reduceIte,Nat.reduceEqDiff,reduceCtorEq,Nat.reduceAdd,Nat.reduceMul,Nat.reduceSub,Int.reduceLT,Int.reduceLE,Int.reduceToNat,Int.reduceAdd,Int.reduceSub,Int.reduceMul,ne_eq,decide_true,decide_false,tf56, g0, g5, g6, g7, g8]
      refine ⟨fun hlt2 => ?_, fun hge2 => ?_⟩
      · have hb1 := Blk.new' w4 95 (markDeltas i).toArray
        have ga1 := Grow.alloc w4 (.cells (markDeltas i).toArray 95)
        have hr1 : Rd (w4.alloc (.cells (markDeltas i).toArray 95)) (some ⟨w4.heap.size, 0, none⟩) 1 10 (markDeltas i) := ⟨rfl, fun _ => ⟨_, rfl, fun j u hu => by rw [add_lit', Nat.zero_add, hb1.cell]; exact hu⟩⟩
        have hks4 := hk4.size
        have hgas := ga1.size
        have hpush := fun {K : VWK} {tk : Tok K} => hF4.push (P := Tryz.prog) (t := 68) (ty := 68) (bytes := 104) (c := 1) (K := K) (tk := tk) (by kernel_rfl) hv ga1 hr1 (hm1 i) (by simp only [if_true]; omega) (by simp only [if_true]; exact Nat.le_trans (Nat.mul_le_mul_right _ (by omega)) hbnd.2)
        simp only [if_true] at hpush
        try simp -dsimp only [↓RE,↓c_seq,RU,RL,if_true,if_false,forall_const,implies_true,Nat.reduceLeDiff,Nat.reduceLT,pureOp,binPure,intBin,strBin,eqPure,isConstO,unPure,sliceLo,sliceHi,slicePure,slice3Pure,lenPure,capPure,minPure,maxPure,buildP,resK,endV,yieldE,↓reduceIte,Nat.reduceEqDiff,reduceCtorEq,Nat.reduceAdd,Nat.reduceMul,Nat.reduceSub,Int.reduceLT,Int.reduceLE,Int.reduceToNat,Int.reduceAdd,Int.reduceSub,Int.reduceMul,ne_eq,decide_true,decide_false,tf56, g0, g5, g6, g7, g8]
        skip
        refine hpush (fun nv w5 hF5 hK5 hf5 hs5 => ?_)
        have hk5 : Keep (fpL vs) w w5 := (hk4.then_grow ga1).above hK5 (fun x hx hq => (hfg x hq).elim id (fun q => by omega))
        have hsa5 := LRow.keep (LRow.grow hsa4 ga1) hK5 (fun k hk hq => LRow.ne hsa4 (by have := hF4.own i v hv; simp only [if_true] at this; exact this) (by decide) k hk hq)
        have hF5' : Fam w5 95 10 vs (fun j => if j = i then nv else cur j) (fun j => if j = i then slen v + (m + 1) else cnt j) markDeltas := by
          have e1 : (fun j => if j = i then nv else if j = i then g else cur j) = (fun j => if j = i then nv else cur j) := funext fun j => by by_cases hj : j = i <;> simp [hj]
          have e2 : (fun j => if j = i then slen v + m + 1 else if j = i then slen v + m else cnt j) = (fun j => if j = i then slen v + (m + 1) else cnt j) := funext fun j => by by_cases hj : j = i <;> simp [hj, Nat.add_assoc]
          rw [← e1, ← e2]; exact hF5
        try simp -dsimp only [↓RE,↓c_seq,RU,RL,if_true,if_false,forall_const,implies_true,Nat.reduceLeDiff,Nat.reduceLT,pureOp,binPure,intBin,strBin,eqPure,isConstO,unPure,sliceLo,sliceHi,slicePure,slice3Pure,lenPure,capPure,minPure,maxPure,buildP,resK,endV,yieldE,↓reduceIte,Nat.reduceEqDiff,reduceCtorEq,Nat.reduceAdd,Nat.reduceMul,Nat.reduceSub,Int.reduceLT,Int.reduceLE,Int.reduceToNat,Int.reduceAdd,Int.reduceSub,Int.reduceMul,ne_eq,decide_true,decide_false,tf56, g0, g5, g6, g7, g8]
        refine hold_intro ⟨⟨?_, ?_, ?_, m + 1, nv, by omega, ?_, ?_, hF5', hs5, fun k hk => (hf5 k hk).elim (hfg k) (fun q => .inr (by omega)), hsa5, hk5⟩, ?_⟩
        · simp -dsimp only [↓RE,RU,RL,if_true,if_false,↓reduceIte,Nat.reduceEqDiff,reduceCtorEq,decide_true,decide_false, g0]
        · simp -dsimp only [↓RE,RU,RL,if_true,if_false,↓reduceIte,Nat.reduceEqDiff,reduceCtorEq,decide_true,decide_false, g6]
        · simp -dsimp only [↓RE,RU,RL,if_true,if_false,↓reduceIte,Nat.reduceEqDiff,reduceCtorEq,decide_true,decide_false, g5]
        · simp -dsimp only [↓RE,RU,RL,if_true,if_false,↓reduceIte,Nat.reduceEqDiff,reduceCtorEq,decide_true,decide_false, g8]
          rw [wrap_i64_in (by omega) (by omega)]; rfl
        · simp -dsimp only [↓RE,RU,RL,if_true,if_false,↓reduceIte,Nat.reduceEqDiff,reduceCtorEq,decide_true,decide_false, g7]
        · simp -dsimp only [↓RE,RU,RL,if_true,if_false,↓reduceIte,Nat.reduceEqDiff,reduceCtorEq,decide_true,decide_false, g8]
          rw [wrap_i64_in (by omega) (by omega), envInt_int, envInt_int]; omega
      · obtain rfl : m = 20 := by omega
        have hog := hF4.own i v hv
        simp only [if_true] at hog
        obtain ⟨Ag, cg, hgv, _, _⟩ := LRow.form hog
        subst hgv
        generalize hgE : Value.slice Ag (slen v + 20) cg = g at hog hF4 hslg hfg g7
        have hcl : g.cells = #[g] := by rw [← hgE]; rfl
        have hgc : g.oneCell' = true := by rw [← hgE]; rfl
        have hb1 := Blk.new' w4 68 #[g]
        have ga1 := Grow.alloc w4 (.cells #[g] 68)
        have hr1 : Rd (w4.alloc (.cells #[g] 68)) (some ⟨w4.heap.size, 0, none⟩) 1 1 [g] := Rd.of_cells _ _ _ _ _ hb1 rfl
        have hks4 := hk4.size
        have hgas := ga1.size
        have hslt := LRow.lt hsa4
        have hg1 : ∀ u ∈ [g], u.oneCell' = true := by intro u hu; rw [List.mem_singleton.1 hu]; exact hgc
        try simp -dsimp only [↓RE,↓c_seq,RU,RL,if_true,if_false,forall_const,implies_true,Nat.reduceLeDiff,Nat.reduceLT,pureOp,binPure,intBin,strBin,eqPure,isConstO,unPure,sliceLo,sliceHi,slicePure,slice3Pure,lenPure,capPure,minPure,maxPure,buildP,resK,endV,yieldE,↓reduceIte,Nat.reduceEqDiff,reduceCtorEq,Nat.reduceAdd,Nat.reduceMul,Nat.reduceSub,Int.reduceLT,Int.reduceLE,Int.reduceToNat,Int.reduceAdd,Int.reduceSub,Int.reduceMul,ne_eq,decide_true,decide_false,tf56, g0, g5, g6, g7, g8, hcl]
        refine appK_l3 (m := 1) (bytes := 24) (by kernel_rfl) (LRow.grow hsa4 ga1) hr1 hg1 (by show i + 1 ≤ maxLen; simp only [maxLen]; omega) (by show (i + 1) * 24 ≤ 140737488355328; omega) (fun A6 c6 w6 hO6 hK6 hF6 => ?_)
        have hk6 : Keep (fpL vs) w w6 := (hk4.then_grow ga1).above hK6 (fun x hx hq => absurd (hfsa x hq) (by omega))
        have hF6' := (hF4.grow ga1).keep hK6 (fun j u hu x hx hq => by
          have huo := (hF4.own j u hu)
          rcases hx with hx | hx
          · have hbi := hS.own j u hu
            exact absurd (hfsa x hq) (by have := LRow.lt hbi x hx; omega)
          · exact LRow.ne huo hsa4 (by decide) x hx hq)
        have hrow : (List.range (i + 1)).map (fun j => if j = i then g else cur j) = (List.range i).map cur ++ [g] := by
          rw [List.range_succ, List.map_append]
          congr 1
          · refine List.map_congr_left (fun j hj => ?_)
            have := List.mem_range.1 hj
            rw [if_neg (by omega)]
          · simp
        rw [← hrow] at hO6
        try simp -dsimp only [↓RE,↓c_seq,RU,RL,if_true,if_false,forall_const,implies_true,Nat.reduceLeDiff,Nat.reduceLT,pureOp,binPure,intBin,strBin,eqPure,isConstO,unPure,sliceLo,sliceHi,slicePure,slice3Pure,lenPure,capPure,minPure,maxPure,buildP,resK,endV,yieldE,↓reduceIte,Nat.reduceEqDiff,reduceCtorEq,Nat.reduceAdd,Nat.reduceMul,Nat.reduceSub,Int.reduceLT,Int.reduceLE,Int.reduceToNat,Int.reduceAdd,Int.reduceSub,Int.reduceMul,ne_eq,decide_true,decide_false,tf56, g0, g5, g6, g7, g8, hcl]
        refine hold_intro ⟨⟨?_, i + 1, _, _, .slice A6 (i + 1) c6, by omega, ?_, ?_, hF6', fun j u hu => ?_, fun j u hj hu => ?_, fun j u hu x hx => ?_, hO6, fun x hx => (hF6 x hx).elim (hfsa x) (fun q => by omega), hk6⟩, ?_⟩
        · simp -dsimp only [↓RE,RU,RL,if_true,if_false,↓reduceIte,Nat.reduceEqDiff,reduceCtorEq,decide_true,decide_false, g0]
        · simp -dsimp only [↓RE,RU,RL,if_true,if_false,↓reduceIte,Nat.reduceEqDiff,reduceCtorEq,decide_true,decide_false, g6]
          rw [wrap_i64_in (by omega) (by omega)]; rfl
        · simp -dsimp only [↓RE,RU,RL,if_true,if_false,↓reduceIte,Nat.reduceEqDiff,reduceCtorEq,decide_true,decide_false, g5]
        · by_cases hji : j = i
          · simp only [if_pos hji]; exact hslg
          · simp only [if_neg hji]; exact hsl j u hu
        · simp only [if_neg (show ¬ j = i by omega)]
          exact hrest j u (by omega) hu
        · by_cases hji : j = i
          · simp only [if_pos hji] at hx; exact hfg x hx
          · simp only [if_neg hji] at hx; exact hfp j u hu x hx
        · simp -dsimp only [↓RE,RU,RL,if_true,if_false,↓reduceIte,Nat.reduceEqDiff,reduceCtorEq,decide_true,decide_false, g6, h6]
          rw [wrap_i64_in (by omega) (by omega), envInt_int, envInt_int]; omega
    · obtain rfl : i = vs.length := by omega
      obtain ⟨Ba, Ca, rfl, _, _⟩ := LRow.form hsa
      try simp -dsimp only [↓RE,↓c_seq,RU,RL,if_true,if_false,forall_const,implies_true,Nat.reduceLeDiff,Nat.reduceLT,pureOp,binPure,intBin,strBin,eqPure,isConstO,unPure,sliceLo,sliceHi,slicePure,slice3Pure,lenPure,capPure,minPure,maxPure,buildP,resK,endV,yieldE,↓reduceIte,Nat.reduceEqDiff,reduceCtorEq,Nat.reduceAdd,Nat.reduceMul,Nat.reduceSub,Int.reduceLT,Int.reduceLE,Int.reduceToNat,Int.reduceAdd,Int.reduceSub,Int.reduceMul,ne_eq,decide_true,decide_false,tf56, h0, h6, h5]
      refine hold_intro ⟨?_, cur, cnt, Ba, Ca, ?_, hF3, hsl, hsa, hk3⟩
      · simp -dsimp only [↓RE,RU,RL,if_true,if_false,↓reduceIte,Nat.reduceEqDiff,reduceCtorEq,decide_true,decide_false, h0]
      · simp -dsimp only [↓RE,RU,RL,if_true,if_false,↓reduceIte,Nat.reduceEqDiff,reduceCtorEq,decide_true,decide_false, h5]
  rintro e3 w3 ⟨h0, cur, cnt, Ba, Ca, h5, hF3, hsl, hsa, hk3⟩
  have hRa := LRow.rd hsa
  have geta : ∀ {w' : World} {i : Nat}, Grow w3 w' → i < vs.length → ∃ ba, Ba = some ba ∧ w'.cell? (ba.add i) = some (cur i) := by
    intro w' i g hi
    obtain ⟨ba, u, e, hu, hc⟩ := (hRa.grow g).cell1 hi
    rw [List.getElem?_map, List.getElem?_range hi] at hu
    injection hu with hu
    subst hu
    exact ⟨ba, e, hc⟩
  -- looked at
  try simp -dsimp only [↓RE,↓c_seq,RU,RL,if_true,if_false,forall_const,implies_true,Nat.reduceLeDiff,Nat.reduceLT,pureOp,binPure,intBin,strBin,eqPure,isConstO,unPure,sliceLo,sliceHi,slicePure,slice3Pure,lenPure,capPure,minPure,maxPure,buildP,resK,endV,yieldE,↓reduceIte,Nat.reduceEqDiff,reduceCtorEq,Nat.reduceAdd,Nat.reduceMul,Nat.reduceSub,Int.reduceLT,Int.reduceLE,Int.reduceToNat,Int.reduceAdd,Int.reduceSub,Int.reduceMul,ne_eq,decide_true,decide_false,tf56, h0, h5]
  refine wpLoop_intro (fun e' w' => e' 0 = .pointer (some ⟨p, 0, none⟩) ∧ e' 5 = .slice Ba vs.length Ca ∧ ∃ i : Nat, i ≤ vs.length ∧ e' 9 = .int .i64 i ∧ Grow w3 w') (fun e' _ => vs.length - (envInt (e' 9)).toNat) ⟨?_, ?_, 0, Nat.zero_le _, ?_, Keep.refl _ _⟩ ?_
  · simp -dsimp only [↓RE,RU,RL,if_true,if_false,↓reduceIte,Nat.reduceEqDiff,reduceCtorEq,decide_true,decide_false, h0]
  · simp -dsimp only [↓RE,RU,RL,if_true,if_false,↓reduceIte,Nat.reduceEqDiff,reduceCtorEq,decide_true,decide_false, h5]
  · simp -dsimp only [↓RE,RU,RL,if_true,if_false,↓reduceIte,Nat.reduceEqDiff,reduceCtorEq,decide_true,decide_false, h0, Int.cast_ofNat_Int]
  rintro e4 w4 ⟨h0, h5, i, hil, h9, hg4⟩
  try simp -dsimp only [↓RE,↓c_seq,RU,RL,if_true,if_false,forall_const,implies_true,Nat.reduceLeDiff,Nat.reduceLT,pureOp,binPure,intBin,strBin,eqPure,isConstO,unPure,sliceLo,sliceHi,slicePure,slice3Pure,lenPure,capPure,minPure,maxPure,buildP,resK,endV,yieldE,↓reduceIte,Nat.reduceEqDiff,reduceCtorEq,Nat.reduceAdd,Nat.reduceMul,Nat.reduceSub,Int.reduceLT,Int.reduceLE,Int.reduceToNat,Int.reduceAdd,Int.reduceSub,Int.reduceMul,ne_eq,decide_true,decide_false,tf56, h0, h5, h9]
  refine ⟨fun hlt => ?_, fun hge => ?_⟩
  · obtain ⟨v, hv⟩ : ∃ v, vs[i]? = some v := ⟨vs[i]'(by omega), List.getElem?_eq_getElem (by omega)⟩
    have hog := hF3.own i v hv
    obtain ⟨Ag, cg, hcg, _, _⟩ := LRow.form hog
    have hRg := lr_rd hog
    rw [hcg] at hRg
    have hRg : Rd w3 Ag (cnt i) 10 (rep (cnt i) (markDeltas i)) := hRg
    have hRo := hF3.old i v hv
    obtain ⟨Av, cv, hcv, _, _⟩ := LRow.form (hS.own i v hv)
    have hsv : sptr v = Av := by rw [hcv]; rfl
    rw [hsv] at hRo
    have hsb := (hS.bound i v hv).1
    have hsc : cnt i ≤ maxLen := by
      rcases hog.2 with ⟨_, q⟩ | ⟨_, cap, _, _, _, q1, q2, _⟩
      · rw [q]; exact Nat.zero_le _
      · exact Nat.le_trans q1 q2
    simp only [maxLen] at hsb hsc
    generalize hn : slen v = n at *
    generalize hN2 : cnt i = N at *
    try simp -dsimp only [↓RE,↓c_seq,RU,RL,if_true,if_false,forall_const,implies_true,Nat.reduceLeDiff,Nat.reduceLT,pureOp,binPure,intBin,strBin,eqPure,isConstO,unPure,sliceLo,sliceHi,slicePure,slice3Pure,lenPure,capPure,minPure,maxPure,buildP,resK,endV,yieldE,↓reduceIte,Nat.reduceEqDiff,reduceCtorEq,Nat.reduceAdd,Nat.reduceMul,Nat.reduceSub,Int.reduceLT,Int.reduceLE,Int.reduceToNat,Int.reduceAdd,Int.reduceSub,Int.reduceMul,ne_eq,decide_true,decide_false,tf56, h0, h5, h9]
    refine wpLoop_intro (fun e' w' => e' 0 = .pointer (some ⟨p, 0, none⟩) ∧ e' 5 = .slice Ba vs.length Ca ∧ e' 9 = .int .i64 i ∧ ∃ k : Nat, k ≤ N ∧ e' 10 = .int .i64 k ∧ Grow w3 w') (fun e' _ => N - (envInt (e' 10)).toNat) ⟨?_, ?_, ?_, 0, Nat.zero_le _, ?_, hg4⟩ ?_
    · simp -dsimp only [↓RE,RU,RL,if_true,if_false,↓reduceIte,Nat.reduceEqDiff,reduceCtorEq,decide_true,decide_false, h0]
    · simp -dsimp only [↓RE,RU,RL,if_true,if_false,↓reduceIte,Nat.reduceEqDiff,reduceCtorEq,decide_true,decide_false, h5]
    · simp -dsimp only [↓RE,RU,RL,if_true,if_false,↓reduceIte,Nat.reduceEqDiff,reduceCtorEq,decide_true,decide_false, h9]
    · simp -dsimp only [↓RE,RU,RL,if_true,if_false,↓reduceIte,Nat.reduceEqDiff,reduceCtorEq,decide_true,decide_false, h0, Int.cast_ofNat_Int]
    rintro e5 w5 ⟨g0, g5, g9, k, hk, g10, hg5⟩
    obtain ⟨ba, hba, hca⟩ := geta hg5 (i := i) (by omega)
    subst hba
    rw [hcg] at hca
    try simp -dsimp only [↓RE,↓c_seq,RU,RL,if_true,if_false,forall_const,implies_true,Nat.reduceLeDiff,Nat.reduceLT,pureOp,binPure,intBin,strBin,eqPure,isConstO,unPure,sliceLo,sliceHi,slicePure,slice3Pure,lenPure,capPure,minPure,maxPure,buildP,resK,endV,yieldE,↓reduceIte,Nat.reduceEqDiff,reduceCtorEq,Nat.reduceAdd,Nat.reduceMul,Nat.reduceSub,Int.reduceLT,Int.reduceLE,Int.reduceToNat,Int.reduceAdd,Int.reduceSub,Int.reduceMul,ne_eq,decide_true,decide_false,tf56, g0, g5, g9, g10]
    refine ⟨⟨by omega, by omega⟩, ?_⟩
    try simp -dsimp only [↓RE,↓c_seq,RU,RL,if_true,if_false,forall_const,implies_true,Nat.reduceLeDiff,Nat.reduceLT,pureOp,binPure,intBin,strBin,eqPure,isConstO,unPure,sliceLo,sliceHi,slicePure,slice3Pure,lenPure,capPure,minPure,maxPure,buildP,resK,endV,yieldE,↓reduceIte,Nat.reduceEqDiff,reduceCtorEq,Nat.reduceAdd,Nat.reduceMul,Nat.reduceSub,Int.reduceLT,Int.reduceLE,Int.reduceToNat,Int.reduceAdd,Int.reduceSub,Int.reduceMul,ne_eq,decide_true,decide_false,tf56, g0, g5, g9, g10, Int.toNat_natCast, hca]
    refine ⟨fun hlt2 => ?_, fun hge2 => ?_⟩
    · obtain ⟨ga, hga, hcx⟩ := hrep (k := k) (hRg.grow hg5) (by omega)
      subst hga
      try simp -dsimp only [↓RE,↓c_seq,RU,RL,if_true,if_false,forall_const,implies_true,Nat.reduceLeDiff,Nat.reduceLT,pureOp,binPure,intBin,strBin,eqPure,isConstO,unPure,sliceLo,sliceHi,slicePure,slice3Pure,lenPure,capPure,minPure,maxPure,buildP,resK,endV,yieldE,↓reduceIte,Nat.reduceEqDiff,reduceCtorEq,Nat.reduceAdd,Nat.reduceMul,Nat.reduceSub,Int.reduceLT,Int.reduceLE,Int.reduceToNat,Int.reduceAdd,Int.reduceSub,Int.reduceMul,ne_eq,decide_true,decide_false,tf56, g0, g5, g9, g10, Int.toNat_natCast, hca]
      refine ⟨⟨by omega, by omega⟩, ⟨by omega, by omega⟩, ?_⟩
      refine ⟨markDeltas i, rfl, fun j u hu => by rw [add_add']; exact hcx j u hu, ?_⟩
      have hz := Blk.new' w5 95 #[.string .empty, .slice none 0 0, .string .empty, .int .i64 0, .bool false, .bool false, .int .u8 0, .int .i64 0, .int .u8 0, .int .i64 0]
      have gz := Grow.alloc w5 (.cells #[.string .empty, .slice none 0 0, .string .empty, .int .i64 0, .bool false, .bool false, .int .u8 0, .int .i64 0, .int .u8 0, .int .i64 0] 95)
      try simp -dsimp only [↓RE,↓c_seq,RU,RL,if_true,if_false,forall_const,implies_true,Nat.reduceLeDiff,Nat.reduceLT,pureOp,binPure,intBin,strBin,eqPure,isConstO,unPure,sliceLo,sliceHi,slicePure,slice3Pure,lenPure,capPure,minPure,maxPure,buildP,resK,endV,yieldE,↓reduceIte,Nat.reduceEqDiff,reduceCtorEq,Nat.reduceAdd,Nat.reduceMul,Nat.reduceSub,Int.reduceLT,Int.reduceLE,Int.reduceToNat,Int.reduceAdd,Int.reduceSub,Int.reduceMul,ne_eq,decide_true,decide_false,tf56, g0, g5, g9, g10, Int.toNat_natCast, hca, markDeltas]
      refine hz.stAgg (by simp) (by simp [Value.oneCell']) (fun wx hBx hKx => ?_)
      have gx : Grow w5 wx := gz.above hKx (fun i hi e => by omega)
      have hBx : Blk wx w5.heap.size 95 (markDeltas i) := by simpa [markDeltas] using hBx
      have hc0 : wx.cell? ⟨w5.heap.size, 3, none⟩ = some (.int .i64 (IntKind.i64.wrap (-7 - ((i : Nat) : Int)))) := (hBx.cell 3).trans rfl
      try simp -dsimp only [↓RE,↓c_seq,RU,RL,if_true,if_false,forall_const,implies_true,Nat.reduceLeDiff,Nat.reduceLT,pureOp,binPure,intBin,strBin,eqPure,isConstO,unPure,sliceLo,sliceHi,slicePure,slice3Pure,lenPure,capPure,minPure,maxPure,buildP,resK,endV,yieldE,↓reduceIte,Nat.reduceEqDiff,reduceCtorEq,Nat.reduceAdd,Nat.reduceMul,Nat.reduceSub,Int.reduceLT,Int.reduceLE,Int.reduceToNat,Int.reduceAdd,Int.reduceSub,Int.reduceMul,ne_eq,decide_true,decide_false,tf56, g0, g5, g9, g10, Int.toNat_natCast, hca, hc0, add_lit', Nat.zero_add, eq_self, decide_true]
      skip
      try simp -dsimp only [↓RE,↓c_seq,RU,RL,if_true,if_false,forall_const,implies_true,Nat.reduceLeDiff,Nat.reduceLT,pureOp,binPure,intBin,strBin,eqPure,isConstO,unPure,sliceLo,sliceHi,slicePure,slice3Pure,lenPure,capPure,minPure,maxPure,buildP,resK,endV,yieldE,↓reduceIte,Nat.reduceEqDiff,reduceCtorEq,Nat.reduceAdd,Nat.reduceMul,Nat.reduceSub,Int.reduceLT,Int.reduceLE,Int.reduceToNat,Int.reduceAdd,Int.reduceSub,Int.reduceMul,ne_eq,decide_true,decide_false,tf56, g0, g5, g9, g10]
      refine hold_intro ⟨⟨?_, ?_, ?_, k + 1, by omega, ?_, hg5.trans gx⟩, ?_⟩
      · simp -dsimp only [↓RE,RU,RL,if_true,if_false,↓reduceIte,Nat.reduceEqDiff,reduceCtorEq,decide_true,decide_false, g0]
      · simp -dsimp only [↓RE,RU,RL,if_true,if_false,↓reduceIte,Nat.reduceEqDiff,reduceCtorEq,decide_true,decide_false, g5]
      · simp -dsimp only [↓RE,RU,RL,if_true,if_false,↓reduceIte,Nat.reduceEqDiff,reduceCtorEq,decide_true,decide_false, g9]
      · simp -dsimp only [↓RE,RU,RL,if_true,if_false,↓reduceIte,Nat.reduceEqDiff,reduceCtorEq,decide_true,decide_false, g10]
        rw [wrap_i64_in (by omega) (by omega)]; rfl
      · simp -dsimp only [↓RE,RU,RL,if_true,if_false,↓reduceIte,Nat.reduceEqDiff,reduceCtorEq,decide_true,decide_false, g10]
        rw [wrap_i64_in (by omega) (by omega), envInt_int, envInt_int]; omega
    · try simp -dsimp only [↓RE,↓c_seq,RU,RL,if_true,if_false,forall_const,implies_true,Nat.reduceLeDiff,Nat.reduceLT,pureOp,binPure,intBin,strBin,eqPure,isConstO,unPure,sliceLo,sliceHi,slicePure,slice3Pure,lenPure,capPure,minPure,maxPure,buildP,resK,endV,yieldE,↓reduceIte,Nat.reduceEqDiff,reduceCtorEq,Nat.reduceAdd,Nat.reduceMul,Nat.reduceSub,Int.reduceLT,Int.reduceLE,Int.reduceToNat,Int.reduceAdd,Int.reduceSub,Int.reduceMul,ne_eq,decide_true,decide_false,tf56, g0, g5, g9, g10]
      refine wpLoop_intro (fun e' w' => e' 0 = .pointer (some ⟨p, 0, none⟩) ∧ e' 5 = .slice (some ba) vs.length Ca ∧ e' 9 = .int .i64 i ∧ ∃ k : Nat, k ≤ n ∧ e' 12 = .int .i64 k ∧ Grow w3 w') (fun e' _ => n - (envInt (e' 12)).toNat) ⟨?_, ?_, ?_, 0, Nat.zero_le _, ?_, hg5⟩ ?_
      · simp -dsimp only [↓RE,RU,RL,if_true,if_false,↓reduceIte,Nat.reduceEqDiff,reduceCtorEq,decide_true,decide_false, g0]
      · simp -dsimp only [↓RE,RU,RL,if_true,if_false,↓reduceIte,Nat.reduceEqDiff,reduceCtorEq,decide_true,decide_false, g5]
      · simp -dsimp only [↓RE,RU,RL,if_true,if_false,↓reduceIte,Nat.reduceEqDiff,reduceCtorEq,decide_true,decide_false, g9]
      · simp -dsimp only [↓RE,RU,RL,if_true,if_false,↓reduceIte,Nat.reduceEqDiff,reduceCtorEq,decide_true,decide_false, g0, Int.cast_ofNat_Int]
      rintro e6 w6 ⟨f0, f5, f9, k2, hk2', f12, hg6⟩
      have hst := (stay (hk3.then_grow hg6)).1
      obtain ⟨bd, hbd, v', hv', hcv'⟩ := one (hk3.then_grow hg6) (i := i) (by omega)
      subst hbd
      rw [hv] at hv'
      injection hv' with hv'
      subst hv'
      rw [hcv] at hcv'
      try simp -dsimp only [↓RE,↓c_seq,RU,RL,if_true,if_false,forall_const,implies_true,Nat.reduceLeDiff,Nat.reduceLT,pureOp,binPure,intBin,strBin,eqPure,isConstO,unPure,sliceLo,sliceHi,slicePure,slice3Pure,lenPure,capPure,minPure,maxPure,buildP,resK,endV,yieldE,↓reduceIte,Nat.reduceEqDiff,reduceCtorEq,Nat.reduceAdd,Nat.reduceMul,Nat.reduceSub,Int.reduceLT,Int.reduceLE,Int.reduceToNat,Int.reduceAdd,Int.reduceSub,Int.reduceMul,ne_eq,decide_true,decide_false,tf56, f0, f5, f9, f12, hst]
      refine ⟨⟨by omega, by omega⟩, ?_⟩
      try simp -dsimp only [↓RE,↓c_seq,RU,RL,if_true,if_false,forall_const,implies_true,Nat.reduceLeDiff,Nat.reduceLT,pureOp,binPure,intBin,strBin,eqPure,isConstO,unPure,sliceLo,sliceHi,slicePure,slice3Pure,lenPure,capPure,minPure,maxPure,buildP,resK,endV,yieldE,↓reduceIte,Nat.reduceEqDiff,reduceCtorEq,Nat.reduceAdd,Nat.reduceMul,Nat.reduceSub,Int.reduceLT,Int.reduceLE,Int.reduceToNat,Int.reduceAdd,Int.reduceSub,Int.reduceMul,ne_eq,decide_true,decide_false,tf56, f0, f5, f9, f12, hst, Int.toNat_natCast, hcv']
      refine ⟨fun hlt3 => ?_, fun hge3 => ?_⟩
      · obtain ⟨va, hva, hcx⟩ := hrep (k := k2) (hRo.grow hg6) (by omega)
        subst hva
        try simp -dsimp only [↓RE,↓c_seq,RU,RL,if_true,if_false,forall_const,implies_true,Nat.reduceLeDiff,Nat.reduceLT,pureOp,binPure,intBin,strBin,eqPure,isConstO,unPure,sliceLo,sliceHi,slicePure,slice3Pure,lenPure,capPure,minPure,maxPure,buildP,resK,endV,yieldE,↓reduceIte,Nat.reduceEqDiff,reduceCtorEq,Nat.reduceAdd,Nat.reduceMul,Nat.reduceSub,Int.reduceLT,Int.reduceLE,Int.reduceToNat,Int.reduceAdd,Int.reduceSub,Int.reduceMul,ne_eq,decide_true,decide_false,tf56, f0, f5, f9, f12, Int.toNat_natCast, hst, hcv']
        refine ⟨⟨by omega, by omega⟩, ⟨by omega, by omega⟩, ?_⟩
        refine ⟨markDeltas i, rfl, fun j u hu => by rw [add_add']; exact hcx j u hu, ?_⟩
        have hz := Blk.new' w6 95 #[.string .empty, .slice none 0 0, .string .empty, .int .i64 0, .bool false, .bool false, .int .u8 0, .int .i64 0, .int .u8 0, .int .i64 0]
        have gz := Grow.alloc w6 (.cells #[.string .empty, .slice none 0 0, .string .empty, .int .i64 0, .bool false, .bool false, .int .u8 0, .int .i64 0, .int .u8 0, .int .i64 0] 95)
        try simp -dsimp only [↓RE,↓c_seq,RU,RL,if_true,if_false,forall_const,implies_true,Nat.reduceLeDiff,Nat.reduceLT,pureOp,binPure,intBin,strBin,eqPure,isConstO,unPure,sliceLo,sliceHi,slicePure,slice3Pure,lenPure,capPure,minPure,maxPure,buildP,resK,endV,yieldE,↓reduceIte,Nat.reduceEqDiff,reduceCtorEq,Nat.reduceAdd,Nat.reduceMul,Nat.reduceSub,Int.reduceLT,Int.reduceLE,Int.reduceToNat,Int.reduceAdd,Int.reduceSub,Int.reduceMul,ne_eq,decide_true,decide_false,tf56, f0, f5, f9, f12, Int.toNat_natCast, hst, hcv', markDeltas]
        refine hz.stAgg (by simp) (by simp [Value.oneCell']) (fun wx hBx hKx => ?_)
        have gx : Grow w6 wx := gz.above hKx (fun i hi e => by omega)
        have hBx : Blk wx w6.heap.size 95 (markDeltas i) := by simpa [markDeltas] using hBx
        have hc0 : wx.cell? ⟨w6.heap.size, 3, none⟩ = some (.int .i64 (IntKind.i64.wrap (-7 - ((i : Nat) : Int)))) := (hBx.cell 3).trans rfl
        try simp -dsimp only [↓RE,↓c_seq,RU,RL,if_true,if_false,forall_const,implies_true,Nat.reduceLeDiff,Nat.reduceLT,pureOp,binPure,intBin,strBin,eqPure,isConstO,unPure,sliceLo,sliceHi,slicePure,slice3Pure,lenPure,capPure,minPure,maxPure,buildP,resK,endV,yieldE,↓reduceIte,Nat.reduceEqDiff,reduceCtorEq,Nat.reduceAdd,Nat.reduceMul,Nat.reduceSub,Int.reduceLT,Int.reduceLE,Int.reduceToNat,Int.reduceAdd,Int.reduceSub,Int.reduceMul,ne_eq,decide_true,decide_false,tf56, f0, f5, f9, f12, Int.toNat_natCast, hst, hcv', hc0, add_lit', Nat.zero_add, eq_self, decide_true]
        skip
        try simp -dsimp only [↓RE,↓c_seq,RU,RL,if_true,if_false,forall_const,implies_true,Nat.reduceLeDiff,Nat.reduceLT,pureOp,binPure,intBin,strBin,eqPure,isConstO,unPure,sliceLo,sliceHi,slicePure,slice3Pure,lenPure,capPure,minPure,maxPure,buildP,resK,endV,yieldE,↓reduceIte,Nat.reduceEqDiff,reduceCtorEq,Nat.reduceAdd,Nat.reduceMul,Nat.reduceSub,Int.reduceLT,Int.reduceLE,Int.reduceToNat,Int.reduceAdd,Int.reduceSub,Int.reduceMul,ne_eq,decide_true,decide_false,tf56, f0, f5, f9, f12]
        refine hold_intro ⟨⟨?_, ?_, ?_, k2 + 1, by omega, ?_, hg6.trans gx⟩, ?_⟩
        · simp -dsimp only [↓RE,RU,RL,if_true,if_false,↓reduceIte,Nat.reduceEqDiff,reduceCtorEq,decide_true,decide_false, f0]
        · simp -dsimp only [↓RE,RU,RL,if_true,if_false,↓reduceIte,Nat.reduceEqDiff,reduceCtorEq,decide_true,decide_false, f5]
        · simp -dsimp only [↓RE,RU,RL,if_true,if_false,↓reduceIte,Nat.reduceEqDiff,reduceCtorEq,decide_true,decide_false, f9]
        · simp -dsimp only [↓RE,RU,RL,if_true,if_false,↓reduceIte,Nat.reduceEqDiff,reduceCtorEq,decide_true,decide_false, f12]
          rw [wrap_i64_in (by omega) (by omega)]; rfl
        · simp -dsimp only [↓RE,RU,RL,if_true,if_false,↓reduceIte,Nat.reduceEqDiff,reduceCtorEq,decide_true,decide_false, f12]
          rw [wrap_i64_in (by omega) (by omega), envInt_int, envInt_int]; omega
      · try simp -dsimp only [↓RE,↓c_seq,RU,RL,if_true,if_false,forall_const,implies_true,Nat.reduceLeDiff,Nat.reduceLT,pureOp,binPure,intBin,strBin,eqPure,isConstO,unPure,sliceLo,sliceHi,slicePure,slice3Pure,lenPure,capPure,minPure,maxPure,buildP,resK,endV,yieldE,↓reduceIte,Nat.reduceEqDiff,reduceCtorEq,Nat.reduceAdd,Nat.reduceMul,Nat.reduceSub,Int.reduceLT,Int.reduceLE,Int.reduceToNat,Int.reduceAdd,Int.reduceSub,Int.reduceMul,ne_eq,decide_true,decide_false,tf56, f0, f5, f9, f12]
        refine hold_intro ⟨⟨?_, ?_, i + 1, by omega, ?_, hg6⟩, ?_⟩
        · simp -dsimp only [↓RE,RU,RL,if_true,if_false,↓reduceIte,Nat.reduceEqDiff,reduceCtorEq,decide_true,decide_false, f0]
        · simp -dsimp only [↓RE,RU,RL,if_true,if_false,↓reduceIte,Nat.reduceEqDiff,reduceCtorEq,decide_true,decide_false, f5]
        · simp -dsimp only [↓RE,RU,RL,if_true,if_false,↓reduceIte,Nat.reduceEqDiff,reduceCtorEq,decide_true,decide_false, f9]
          rw [wrap_i64_in (by omega) (by omega)]; rfl
        · simp -dsimp only [↓RE,RU,RL,if_true,if_false,↓reduceIte,Nat.reduceEqDiff,reduceCtorEq,decide_true,decide_false, f9, h9]
          rw [wrap_i64_in (by omega) (by omega), envInt_int, envInt_int]; omega
  · try simp -dsimp only [↓RE,↓c_seq,RU,RL,if_true,if_false,forall_const,implies_true,Nat.reduceLeDiff,Nat.reduceLT,pureOp,binPure,intBin,strBin,eqPure,isConstO,unPure,sliceLo,sliceHi,slicePure,slice3Pure,lenPure,capPure,minPure,maxPure,buildP,resK,endV,yieldE,↓reduceIte,Nat.reduceEqDiff,reduceCtorEq,Nat.reduceAdd,Nat.reduceMul,Nat.reduceSub,Int.reduceLT,Int.reduceLE,Int.reduceToNat,Int.reduceAdd,Int.reduceSub,Int.reduceMul,ne_eq,decide_true,decide_false,tf56, h0, h5, h9]
    exact h w4 (hk3.then_grow hg4)

end Go.Proofs.YtcnebgokbjpjnaaGreat
