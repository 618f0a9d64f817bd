/- block.Unpack: what it reads, or what is wrong. -/
import Derived.Test.YtpocfghkolppmaaUns
import Derived.Test.YtpocfghkolppmaaUnpDef
import Derived.Test.YtpocfghkolppmaaPack
set_option linter.unusedVariables false
set_option linter.unusedSimpArgs false
set_option maxRecDepth 100000
namespace Go.Proofs.Ytpocfghkolppmaa
open Go

theorem zip_getD {T : List Int} {V : List (Int × Int)} (h : T.length = V.length) {k : Nat} (hk : k < T.length) : (T.zip V).getD k (0, 0, 0) = (T.getD k 0, V.getD k (0, 0)) := by
  have hz : k < (T.zip V).length := by rw [zip_len h]; exact hk
  rw [List.getD_eq_getElem?_getD, List.getD_eq_getElem?_getD, List.getD_eq_getElem?_getD, List.getElem?_eq_getElem hz, List.getElem?_eq_getElem hk, List.getElem?_eq_getElem (show k < V.length by omega), List.getElem_zip]
  rfl

theorem unpack_ok {w : World} {A : Option Addr} {n c : Nat} {b : List Int} (hR : Rd w A n 1 (b.map (Value.int .u8))) (hb : ∀ z ∈ b, 0 ≤ z ∧ z < 256) (hn : n ≤ 140737488355328) {R : VWK}
    (herr : ∀ x w', uPe b = some x → Grow w w' → R (.tuple #[.slice none 0 0, errV (some x)]) w')
    (h : uPe b = none → ∀ w' A' c', w'.ownsRow 0 37 3 (.slice A' (uPl b).length c') (uPl b).length ((uPl b).flatMap scells) → Grow w w' → (∀ k, fpA A' k → w.heap.size ≤ k) →
      R (.tuple #[.slice A' (uPl b).length c', .nilIface]) w') :
    CallsV Try.prog 8 [.slice A n c] w R := by
  have hl := hR.len1
  have ok0 := rs0_ok hb (by omega)
  have ok1 := kS1_ok hb (by omega)
  have ok2 : RSok (kS2 b) := ok1.load _
  have hkx := kX_ok hb (by omega)
  have hky := kY_ok hb (by omega)
  refine calls_of_wpC mixed Try.func8 rfl (by kernel_rfl) ?_
  intro e he
  have he0 := he 0
  simp only [List.getD_cons_zero, List.getD_cons_succ] at he0
  clear he
  rw [c_seq]
  simp -dsimp only [↓RE,RU,RL,if_true,if_false,forall_const,implies_true,Nat.reduceLeDiff,Nat.reduceLT,pureOp,binPure,intBin,strBin,eqPure,isConstO,unPure,sliceLo,sliceHi,slicePure,slice3Pure,lenPure,capPure,minPure,maxPure,buildP,resK,endV,yieldE,↓reduceIte,Nat.reduceEqDiff,reduceCtorEq,Nat.reduceAdd,Nat.reduceMul,Nat.reduceSub,Int.reduceLT,Int.reduceLE,Int.reduceToNat,Int.reduceAdd,Int.reduceSub,Int.reduceMul,ne_eq,decide_true,decide_false,tf8, he0]
  rw [c_seq]
  simp -dsimp only [↓RE,RU,RL,if_true,if_false,forall_const,implies_true,Nat.reduceLeDiff,Nat.reduceLT,pureOp,binPure,intBin,strBin,eqPure,isConstO,unPure,sliceLo,sliceHi,slicePure,slice3Pure,lenPure,capPure,minPure,maxPure,buildP,resK,endV,yieldE,↓reduceIte,Nat.reduceEqDiff,reduceCtorEq,Nat.reduceAdd,Nat.reduceMul,Nat.reduceSub,Int.reduceLT,Int.reduceLE,Int.reduceToNat,Int.reduceAdd,Int.reduceSub,Int.reduceMul,ne_eq,decide_true,decide_false,tf8, he0]
  refine newReader_ok hR hn (fun w1 F p hR1 g1 hF1 => ?_)
  have hs1 := g1.size
  have hp1 := hR1.at
  have hp2 := hR1.lt p hp1
  have hp0 := hF1 p hp1
  simp -dsimp only [↓RE,RU,RL,if_true,if_false,forall_const,implies_true,Nat.reduceLeDiff,Nat.reduceLT,pureOp,binPure,intBin,strBin,eqPure,isConstO,unPure,sliceLo,sliceHi,slicePure,slice3Pure,lenPure,capPure,minPure,maxPure,buildP,resK,endV,yieldE,↓reduceIte,Nat.reduceEqDiff,reduceCtorEq,Nat.reduceAdd,Nat.reduceMul,Nat.reduceSub,Int.reduceLT,Int.reduceLE,Int.reduceToNat,Int.reduceAdd,Int.reduceSub,Int.reduceMul,ne_eq,decide_true,decide_false,tf8, he0]
  rw [c_seq]
  simp -dsimp only [↓RE,RU,RL,if_true,if_false,forall_const,implies_true,Nat.reduceLeDiff,Nat.reduceLT,pureOp,binPure,intBin,strBin,eqPure,isConstO,unPure,sliceLo,sliceHi,slicePure,slice3Pure,lenPure,capPure,minPure,maxPure,buildP,resK,endV,yieldE,↓reduceIte,Nat.reduceEqDiff,reduceCtorEq,Nat.reduceAdd,Nat.reduceMul,Nat.reduceSub,Int.reduceLT,Int.reduceLE,Int.reduceToNat,Int.reduceAdd,Int.reduceSub,Int.reduceMul,ne_eq,decide_true,decide_false,tf8, he0]
  refine rawR_ok hR1 ok0 (by omega) (by omega) (fun w2 A2 c2 hR2 hO2 hF2 hK2 => ?_)
  have hR2 : RAt w2 F p (kS1 b) := hR2
  have hO2 : w2.ownsRow 0 5 1 (.slice A2 (kX b).length c2) (kX b).length ((kX b).map (Value.int .u8)) := hO2
  have g2 : Grow w w2 := g1.above hK2 (fun i hi e => by omega)
  simp -dsimp only [↓RE,RU,RL,if_true,if_false,forall_const,implies_true,Nat.reduceLeDiff,Nat.reduceLT,pureOp,binPure,intBin,strBin,eqPure,isConstO,unPure,sliceLo,sliceHi,slicePure,slice3Pure,lenPure,capPure,minPure,maxPure,buildP,resK,endV,yieldE,↓reduceIte,Nat.reduceEqDiff,reduceCtorEq,Nat.reduceAdd,Nat.reduceMul,Nat.reduceSub,Int.reduceLT,Int.reduceLE,Int.reduceToNat,Int.reduceAdd,Int.reduceSub,Int.reduceMul,ne_eq,decide_true,decide_false,tf8, he0]
  rw [c_seq]
  simp -dsimp only [↓RE,RU,RL,if_true,if_false,forall_const,implies_true,Nat.reduceLeDiff,Nat.reduceLT,pureOp,binPure,intBin,strBin,eqPure,isConstO,unPure,sliceLo,sliceHi,slicePure,slice3Pure,lenPure,capPure,minPure,maxPure,buildP,resK,endV,yieldE,↓reduceIte,Nat.reduceEqDiff,reduceCtorEq,Nat.reduceAdd,Nat.reduceMul,Nat.reduceSub,Int.reduceLT,Int.reduceLE,Int.reduceToNat,Int.reduceAdd,Int.reduceSub,Int.reduceMul,ne_eq,decide_true,decide_false,tf8, he0]
  refine rawR_ok hR2 ok1 (by omega) (by omega) (fun w3 A3 c3 hR3 hO3 hF3 hK3 => ?_)
  have hR3 : RAt w3 F p (kS2 b) := hR3
  have hO3 : w3.ownsRow 0 5 1 (.slice A3 (kY b).length c3) (kY b).length ((kY b).map (Value.int .u8)) := hO3
  have g3 : Grow w w3 := g2.above hK3 (fun i hi e => by omega)
  have hO23 := own_keep hO2 hK3 (fun k hk e => by have := hF2 k ((fpV_fpA _ _ _ _).1 hk); omega)
  have eX : (rLoad 67108864 ⟨b, 0, 0, none⟩).2 = kX b := rfl
  have eS : (rLoad 67108864 ⟨b, 0, 0, none⟩).1 = kS1 b := rfl
  have eY : (rLoad 67108864 (kS1 b)).2 = kY b := rfl
  try simp -dsimp only [↓RE,↓c_seq,RU,RL,if_true,if_false,forall_const,implies_true,Nat.reduceLeDiff,Nat.reduceLT,pureOp,binPure,intBin,strBin,eqPure,isConstO,unPure,sliceLo,sliceHi,slicePure,slice3Pure,lenPure,capPure,minPure,maxPure,buildP,resK,endV,yieldE,↓reduceIte,Nat.reduceEqDiff,reduceCtorEq,Nat.reduceAdd,Nat.reduceMul,Nat.reduceSub,Int.reduceLT,Int.reduceLE,Int.reduceToNat,Int.reduceAdd,Int.reduceSub,Int.reduceMul,ne_eq,decide_true,decide_false,tf8, he0, eX, eS, eY]
  refine doneR_ok hR3 ok2 (fun w4 g4 => ?_)
  have g04 := g3.trans g4
  cases hd : rDone (kS2 b) with
  | some x =>
    try simp -dsimp only [↓RE,↓c_seq,RU,RL,if_true,if_false,forall_const,implies_true,Nat.reduceLeDiff,Nat.reduceLT,pureOp,binPure,intBin,strBin,eqPure,isConstO,unPure,sliceLo,sliceHi,slicePure,slice3Pure,lenPure,capPure,minPure,maxPure,buildP,resK,endV,yieldE,↓reduceIte,Nat.reduceEqDiff,reduceCtorEq,Nat.reduceAdd,Nat.reduceMul,Nat.reduceSub,Int.reduceLT,Int.reduceLE,Int.reduceToNat,Int.reduceAdd,Int.reduceSub,Int.reduceMul,ne_eq,decide_true,decide_false,tf8, he0, hd, errV]
    exact herr x w4 (uPe_1 hd) g04
  | none =>
    try simp -dsimp only [↓RE,↓c_seq,RU,RL,if_true,if_false,forall_const,implies_true,Nat.reduceLeDiff,Nat.reduceLT,pureOp,binPure,intBin,strBin,eqPure,isConstO,unPure,sliceLo,sliceHi,slicePure,slice3Pure,lenPure,capPure,minPure,maxPure,buildP,resK,endV,yieldE,↓reduceIte,Nat.reduceEqDiff,reduceCtorEq,Nat.reduceAdd,Nat.reduceMul,Nat.reduceSub,Int.reduceLT,Int.reduceLE,Int.reduceToNat,Int.reduceAdd,Int.reduceSub,Int.reduceMul,ne_eq,decide_true,decide_false,tf8, he0, hd, errV, eX, eS, eY]
    refine untimes_ok (Rd.of_own (own_grow hO23 g4)) hkx.1 (by omega) (fun x w5 h1 g5 => ?_) (fun w5 h1 h2 g5 => ?_) (fun h1 h2 w5 A5 c5 hO5 g5 hF5 => ?_)
    · try simp -dsimp only [↓RE,↓c_seq,RU,RL,if_true,if_false,forall_const,implies_true,Nat.reduceLeDiff,Nat.reduceLT,pureOp,binPure,intBin,strBin,eqPure,isConstO,unPure,sliceLo,sliceHi,slicePure,slice3Pure,lenPure,capPure,minPure,maxPure,buildP,resK,endV,yieldE,↓reduceIte,Nat.reduceEqDiff,reduceCtorEq,Nat.reduceAdd,Nat.reduceMul,Nat.reduceSub,Int.reduceLT,Int.reduceLE,Int.reduceToNat,Int.reduceAdd,Int.reduceSub,Int.reduceMul,ne_eq,decide_true,decide_false,tf8, he0, errV]
      exact herr x w5 (uPe_2 hd h1) (g04.trans g5)
    · try simp -dsimp only [↓RE,↓c_seq,RU,RL,if_true,if_false,forall_const,implies_true,Nat.reduceLeDiff,Nat.reduceLT,pureOp,binPure,intBin,strBin,eqPure,isConstO,unPure,sliceLo,sliceHi,slicePure,slice3Pure,lenPure,capPure,minPure,maxPure,buildP,resK,endV,yieldE,↓reduceIte,Nat.reduceEqDiff,reduceCtorEq,Nat.reduceAdd,Nat.reduceMul,Nat.reduceSub,Int.reduceLT,Int.reduceLE,Int.reduceToNat,Int.reduceAdd,Int.reduceSub,Int.reduceMul,ne_eq,decide_true,decide_false,tf8, he0]
      exact herr e90 w5 (uPe_3 hd h1 h2) (g04.trans g5)
    have g05 := g04.trans g5
    have hO35 := own_grow (own_grow hO3 g4) g5
    try simp -dsimp only [↓RE,↓c_seq,RU,RL,if_true,if_false,forall_const,implies_true,Nat.reduceLeDiff,Nat.reduceLT,pureOp,binPure,intBin,strBin,eqPure,isConstO,unPure,sliceLo,sliceHi,slicePure,slice3Pure,lenPure,capPure,minPure,maxPure,buildP,resK,endV,yieldE,↓reduceIte,Nat.reduceEqDiff,reduceCtorEq,Nat.reduceAdd,Nat.reduceMul,Nat.reduceSub,Int.reduceLT,Int.reduceLE,Int.reduceToNat,Int.reduceAdd,Int.reduceSub,Int.reduceMul,ne_eq,decide_true,decide_false,tf8, he0, eX, eS, eY]
    refine unvalues_ok (Rd.of_own hO35) hky.1 (by omega) (fun x w6 h3 g6 => ?_) (fun w6 h3 h4 g6 => ?_) (fun h3 h4 w6 A6 c6 hO6 g6 hF6 => ?_)
    · try simp -dsimp only [↓RE,↓c_seq,RU,RL,if_true,if_false,forall_const,implies_true,Nat.reduceLeDiff,Nat.reduceLT,pureOp,binPure,intBin,strBin,eqPure,isConstO,unPure,sliceLo,sliceHi,slicePure,slice3Pure,lenPure,capPure,minPure,maxPure,buildP,resK,endV,yieldE,↓reduceIte,Nat.reduceEqDiff,reduceCtorEq,Nat.reduceAdd,Nat.reduceMul,Nat.reduceSub,Int.reduceLT,Int.reduceLE,Int.reduceToNat,Int.reduceAdd,Int.reduceSub,Int.reduceMul,ne_eq,decide_true,decide_false,tf8, he0, errV]
      exact herr x w6 (uPe_4 hd h1 h2 h3) (g05.trans g6)
    · try simp -dsimp only [↓RE,↓c_seq,RU,RL,if_true,if_false,forall_const,implies_true,Nat.reduceLeDiff,Nat.reduceLT,pureOp,binPure,intBin,strBin,eqPure,isConstO,unPure,sliceLo,sliceHi,slicePure,slice3Pure,lenPure,capPure,minPure,maxPure,buildP,resK,endV,yieldE,↓reduceIte,Nat.reduceEqDiff,reduceCtorEq,Nat.reduceAdd,Nat.reduceMul,Nat.reduceSub,Int.reduceLT,Int.reduceLE,Int.reduceToNat,Int.reduceAdd,Int.reduceSub,Int.reduceMul,ne_eq,decide_true,decide_false,tf8, he0]
      exact herr e90 w6 (uPe_5 hd h1 h2 h3 h4) (g05.trans g6)
    have g06 := g05.trans g6
    have hO56 := own_grow hO5 g6
    have hTl := uT_len (kX b)
    have hVl := uV_len (kY b)
    by_cases hlen : (uT (kX b)).l.length = (uV (kY b)).l.length
    · have hpe := uPe_ok hd h1 h2 h3 h4 hlen
      have hL : uPl b = (uT (kX b)).l.zip (uV (kY b)).l := rfl
      rw [hL] at h
      have hzl := zip_len hlen
      have hzg := fun {k : Nat} => zip_getD hlen (k := k)
      have hRT := Rd.of_own hO56
      have hRV := Rd.of_own hO6
      generalize (uT (kX b)).l = T at *
      generalize (uV (kY b)).l = V at *
      have d1 : decide ((T.length : Int) = (V.length : Int)) = true := decide_eq_true (by omega)
      have hR0 := hRV
      rw [← hlen] at hR0
      have hs06 := g06.size
      try simp -dsimp only [↓RE,↓c_seq,RU,RL,if_true,if_false,forall_const,implies_true,Nat.reduceLeDiff,Nat.reduceLT,pureOp,binPure,intBin,strBin,eqPure,isConstO,unPure,sliceLo,sliceHi,slicePure,slice3Pure,lenPure,capPure,minPure,maxPure,buildP,resK,endV,yieldE,↓reduceIte,Nat.reduceEqDiff,reduceCtorEq,Nat.reduceAdd,Nat.reduceMul,Nat.reduceSub,Int.reduceLT,Int.reduceLE,Int.reduceToNat,Int.reduceAdd,Int.reduceSub,Int.reduceMul,ne_eq,decide_true,decide_false,tf8, he0, d1]
      refine wpLoop_intro (fun e' w' => e' 47 = .slice A5 T.length c5 ∧ e' 48 = .int .i64 (T.length : Nat) ∧ e' 10 = .slice A6 V.length c6 ∧ ∃ (k : Nat) (sv : Value), k ≤ T.length ∧ e' 49 = .int .i64 k ∧ e' 11 = sv ∧
          w'.ownsRow 0 37 3 sv k (((T.zip V).take k).flatMap scells) ∧ (∀ i, fpV sv i → w6.heap.size ≤ i) ∧ Grow w6 w')
        (fun e' _ => T.length - (envInt (e' 49)).toNat) ⟨?_, ?_, ?_, 0, .slice none 0 0, Nat.zero_le _, ?_, ?_, own_nil _ _ _, fun i hi => absurd hi (fpV_none _), Keep.refl _ _⟩ ?_
      · simp -dsimp only [↓RE,RU,RL,if_true,if_false,↓reduceIte,Nat.reduceEqDiff,reduceCtorEq,decide_true,decide_false, he0]
      · simp -dsimp only [↓RE,RU,RL,if_true,if_false,↓reduceIte,Nat.reduceEqDiff,reduceCtorEq,decide_true,decide_false, he0]
      · simp -dsimp only [↓RE,RU,RL,if_true,if_false,↓reduceIte,Nat.reduceEqDiff,reduceCtorEq,decide_true,decide_false, he0]
      · simp -dsimp only [↓RE,RU,RL,if_true,if_false,↓reduceIte,Nat.reduceEqDiff,reduceCtorEq,decide_true,decide_false, he0, Int.cast_ofNat_Int]
      · simp -dsimp only [↓RE,RU,RL,if_true,if_false,↓reduceIte,Nat.reduceEqDiff,reduceCtorEq,decide_true,decide_false, he0]
      rintro e' w' ⟨h47, h48, h10, k, sv, hk, h49, h11, hO, hF, hg⟩
      try simp -dsimp only [↓RE,↓c_seq,RU,RL,if_true,if_false,forall_const,implies_true,Nat.reduceLeDiff,Nat.reduceLT,pureOp,binPure,intBin,strBin,eqPure,isConstO,unPure,sliceLo,sliceHi,slicePure,slice3Pure,lenPure,capPure,minPure,maxPure,buildP,resK,endV,yieldE,↓reduceIte,Nat.reduceEqDiff,reduceCtorEq,Nat.reduceAdd,Nat.reduceMul,Nat.reduceSub,Int.reduceLT,Int.reduceLE,Int.reduceToNat,Int.reduceAdd,Int.reduceSub,Int.reduceMul,ne_eq,decide_true,decide_false,tf8, h47, h48, h10, h49, h11]
      refine ⟨fun hlt => ?_, fun hge => ?_⟩
      · obtain ⟨ad, hAd, hca⟩ := (hRT.grow hg).int (k := k) (by omega)
        obtain ⟨bd, hBd, hcb⟩ := (hRV.grow hg).val (k := k) (by omega)
        subst hAd
        subst hBd
        have hx := hzg (k := k) (by omega)
        have hO1 := own_lt hO
        have hgs := hg.size
        try simp -dsimp only [↓RE,↓c_seq,RU,RL,if_true,if_false,forall_const,implies_true,Nat.reduceLeDiff,Nat.reduceLT,pureOp,binPure,intBin,strBin,eqPure,isConstO,unPure,sliceLo,sliceHi,slicePure,slice3Pure,lenPure,capPure,minPure,maxPure,buildP,resK,endV,yieldE,↓reduceIte,Nat.reduceEqDiff,reduceCtorEq,Nat.reduceAdd,Nat.reduceMul,Nat.reduceSub,Int.reduceLT,Int.reduceLE,Int.reduceToNat,Int.reduceAdd,Int.reduceSub,Int.reduceMul,ne_eq,decide_true,decide_false,tf8, h47, h48, h10, h49, h11, Int.toNat_natCast, hca]
        refine ⟨⟨by omega, by omega⟩, ?_⟩
        try simp -dsimp only [↓RE,↓c_seq,RU,RL,if_true,if_false,forall_const,implies_true,Nat.reduceLeDiff,Nat.reduceLT,pureOp,binPure,intBin,strBin,eqPure,isConstO,unPure,sliceLo,sliceHi,slicePure,slice3Pure,lenPure,capPure,minPure,maxPure,buildP,resK,endV,yieldE,↓reduceIte,Nat.reduceEqDiff,reduceCtorEq,Nat.reduceAdd,Nat.reduceMul,Nat.reduceSub,Int.reduceLT,Int.reduceLE,Int.reduceToNat,Int.reduceAdd,Int.reduceSub,Int.reduceMul,ne_eq,decide_true,decide_false,tf8, h47, h48, h10, h49, h11, Int.toNat_natCast, hca]
        refine ⟨⟨by omega, by omega⟩, ?_⟩
        refine hcb ?_
        have hb1 := Blk.new' w' 37 #[.int .i64 (T.getD k 0), .int .u8 (V.getD k (0, 0)).1, .int .i64 (V.getD k (0, 0)).2]
        have ga1 := Grow.alloc w' (.cells #[.int .i64 (T.getD k 0), .int .u8 (V.getD k (0, 0)).1, .int .i64 (V.getD k (0, 0)).2] 37)
        have hr1 : Rd (w'.alloc (.cells #[.int .i64 (T.getD k 0), .int .u8 (V.getD k (0, 0)).1, .int .i64 (V.getD k (0, 0)).2] 37)) (some ⟨w'.heap.size, 0, none⟩) 1 3 (([(T.getD k 0, V.getD k (0, 0))] : List (Int × Int × Int)).flatMap scells) := Rd.of_blk hb1 rfl
        try simp -dsimp only [↓RE,↓c_seq,RU,RL,if_true,if_false,forall_const,implies_true,Nat.reduceLeDiff,Nat.reduceLT,pureOp,binPure,intBin,strBin,eqPure,isConstO,unPure,sliceLo,sliceHi,slicePure,slice3Pure,lenPure,capPure,minPure,maxPure,buildP,resK,endV,yieldE,↓reduceIte,Nat.reduceEqDiff,reduceCtorEq,Nat.reduceAdd,Nat.reduceMul,Nat.reduceSub,Int.reduceLT,Int.reduceLE,Int.reduceToNat,Int.reduceAdd,Int.reduceSub,Int.reduceMul,ne_eq,decide_true,decide_false,tf8, h47, h48, h10, h49, h11]
        refine appK_own (m := 1) (bytes := 24) (by kernel_rfl) (own_grow hO ga1) hr1 (scells_one _) (by show k + 1 ≤ maxLen; simp only [maxLen]; omega) (by show (k + 1) * 24 ≤ 140737488355328; omega) (fun A8 c8 w8 hO8 hK8 hF8 => ?_)
        have g8 : Grow w6 w8 := (hg.trans ga1).above hK8 (fun i hi hf => by have := hF i hf; omega)
        have hO8' : w8.ownsRow 0 37 3 (.slice A8 (k + 1) c8) (k + 1) (((T.zip V).take (k + 1)).flatMap scells) := by
          rw [take_snoc (0, 0, 0) (by rw [hzl]; omega), hx, List.flatMap_append]; exact hO8
        try simp -dsimp only [↓RE,↓c_seq,RU,RL,if_true,if_false,forall_const,implies_true,Nat.reduceLeDiff,Nat.reduceLT,pureOp,binPure,intBin,strBin,eqPure,isConstO,unPure,sliceLo,sliceHi,slicePure,slice3Pure,lenPure,capPure,minPure,maxPure,buildP,resK,endV,yieldE,↓reduceIte,Nat.reduceEqDiff,reduceCtorEq,Nat.reduceAdd,Nat.reduceMul,Nat.reduceSub,Int.reduceLT,Int.reduceLE,Int.reduceToNat,Int.reduceAdd,Int.reduceSub,Int.reduceMul,ne_eq,decide_true,decide_false,tf8, h47, h48, h10, h49, h11]
        refine hold_intro ⟨⟨?_, ?_, ?_, k + 1, .slice A8 (k + 1) c8, by omega, ?_, ?_, hO8', fun i hi => (hF8 i hi).elim (hF i) (fun q => by have := ga1.size; omega), g8⟩, ?_⟩
        · simp -dsimp only [↓RE,RU,RL,if_true,if_false,↓reduceIte,Nat.reduceEqDiff,reduceCtorEq,decide_true,decide_false, h47]
        · simp -dsimp only [↓RE,RU,RL,if_true,if_false,↓reduceIte,Nat.reduceEqDiff,reduceCtorEq,decide_true,decide_false, h48]
        · simp -dsimp only [↓RE,RU,RL,if_true,if_false,↓reduceIte,Nat.reduceEqDiff,reduceCtorEq,decide_true,decide_false, h10]
        · simp -dsimp only [↓RE,RU,RL,if_true,if_false,↓reduceIte,Nat.reduceEqDiff,reduceCtorEq,decide_true,decide_false, h49]
          rw [wrap_i64_in (by omega) (by omega)]; rfl
        · simp -dsimp only [↓RE,RU,RL,if_true,if_false,↓reduceIte,Nat.reduceEqDiff,reduceCtorEq,decide_true,decide_false, h11]
        · simp -dsimp only [↓RE,RU,RL,if_true,if_false,↓reduceIte,Nat.reduceEqDiff,reduceCtorEq,decide_true,decide_false, h49]
          rw [wrap_i64_in (by omega) (by omega), envInt_int, envInt_int]; omega
      · obtain rfl : k = T.length := by omega
        obtain ⟨A8, c8, rfl, _, _⟩ := own_form hO
        rw [List.take_of_length_le (by omega)] at hO
        rw [hzl] at h
        try simp -dsimp only [↓RE,↓c_seq,RU,RL,if_true,if_false,forall_const,implies_true,Nat.reduceLeDiff,Nat.reduceLT,pureOp,binPure,intBin,strBin,eqPure,isConstO,unPure,sliceLo,sliceHi,slicePure,slice3Pure,lenPure,capPure,minPure,maxPure,buildP,resK,endV,yieldE,↓reduceIte,Nat.reduceEqDiff,reduceCtorEq,Nat.reduceAdd,Nat.reduceMul,Nat.reduceSub,Int.reduceLT,Int.reduceLE,Int.reduceToNat,Int.reduceAdd,Int.reduceSub,Int.reduceMul,ne_eq,decide_true,decide_false,tf8, h47, h48, h10, h49, h11]
        exact h hpe w' A8 c8 hO (g06.trans hg) (fun i hi => by have := hF i ((fpV_fpA _ _ _ _).2 hi); omega)
    · have d1 : decide (((uT (kX b)).l.length : Int) = ((uV (kY b)).l.length : Int)) = false := decide_eq_false (by omega)
      try simp -dsimp only [↓RE,↓c_seq,RU,RL,if_true,if_false,forall_const,implies_true,Nat.reduceLeDiff,Nat.reduceLT,pureOp,binPure,intBin,strBin,eqPure,isConstO,unPure,sliceLo,sliceHi,slicePure,slice3Pure,lenPure,capPure,minPure,maxPure,buildP,resK,endV,yieldE,↓reduceIte,Nat.reduceEqDiff,reduceCtorEq,Nat.reduceAdd,Nat.reduceMul,Nat.reduceSub,Int.reduceLT,Int.reduceLE,Int.reduceToNat,Int.reduceAdd,Int.reduceSub,Int.reduceMul,ne_eq,decide_true,decide_false,tf8, he0, d1]
      refine fnew_ok (by decide) ?_
      try simp -dsimp only [↓RE,↓c_seq,RU,RL,if_true,if_false,forall_const,implies_true,Nat.reduceLeDiff,Nat.reduceLT,pureOp,binPure,intBin,strBin,eqPure,isConstO,unPure,sliceLo,sliceHi,slicePure,slice3Pure,lenPure,capPure,minPure,maxPure,buildP,resK,endV,yieldE,↓reduceIte,Nat.reduceEqDiff,reduceCtorEq,Nat.reduceAdd,Nat.reduceMul,Nat.reduceSub,Int.reduceLT,Int.reduceLE,Int.reduceToNat,Int.reduceAdd,Int.reduceSub,Int.reduceMul,ne_eq,decide_true,decide_false,tf8, he0]
      exact herr e90 w6 (uPe_6 hd h1 h2 h3 h4 hlen) g06

end Go.Proofs.Ytpocfghkolppmaa
