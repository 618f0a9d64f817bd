/- The law BatchOnce, walked. -/
import Derived.Test.YtljgnocpijniiaaGreatDoorLives
import Derived.Test.YtljgnocpijniiaaGreatDoorPtRow
set_option linter.unusedVariables false
set_option linter.unusedSimpArgs false
set_option maxRecDepth 100000
namespace Go.Proofs.YtljgnocpijniiaaGreatDoor
open Go

theorem wOrd_strict (l : List Wr) : StrictC cmpW (wOrd l) := StrictC.load cmpW_cmp List.Pairwise.nil
theorem gPut_pos {α : Type} (cf : α → α → Int) (L : List α) (x : α) : 0 < (gPut cf L x).length := by
  cases L with
  | nil => simp [gPut]
  | cons y r =>
    rw [gPut]
    split
    · simp
    · split <;> simp
theorem wOrd_pos (l : List Wr) : 0 < (wOrd l).length ↔ 0 < l.length := by
  refine ⟨fun h => ?_, fun h => ?_⟩
  · have := wOrd_len l; omega
  · rcases List.eq_nil_or_concat l with rfl | ⟨l', x, rfl⟩
    · simp at h
    · unfold wOrd
      rw [List.concat_eq_append, gLoad_snoc]
      exact gPut_pos _ _ _
theorem strict_at {D : List WrV} (h : StrictC cmpV D) {k : Nat} (h0 : 0 < k) (hk : k < D.length) : cmpV (D.getD (k - 1) w00) (D.getD k w00) = -1 ∧ cmpV (D.getD k w00) (D.getD (k - 1) w00) = 1 := by
  have h1 : cmpV (D.getD (k - 1) w00) (D.getD k w00) < 0 := by
    rw [List.getD_eq_getElem?_getD, List.getD_eq_getElem?_getD, List.getElem?_eq_getElem (by omega), List.getElem?_eq_getElem hk]
    exact List.pairwise_iff_getElem.1 h (k - 1) k (by omega) hk (by omega)
  have h2 := cmpV_cmp.val (D.getD (k - 1) w00) (D.getD k w00)
  have h3 := cmpV_cmp.neg (D.getD (k - 1) w00) (D.getD k w00)
  omega
set_option maxHeartbeats 4000000 in
theorem once_walk {w : World} {A B : Option Addr} {n c m d : Nat} {X Y : List WrV} (hX : RdW w A n X) (hoX : ∀ x ∈ X, x.Ok w) (hY : RdW w B m Y) (hoY : ∀ x ∈ Y, x.Ok w) (hn : n ≤ 1048576) (hm : m ≤ 1048576) (hL : Lay w) (hT : Tabs w) {R : VWK}
    (h : ∀ w', Grow w w' → R (.bool true) w') : CallsV Tryz.prog 9 [.slice A n c, .slice B m d] w R := by
  have hXl := hX.wlen
  have hYl := hY.wlen
  refine calls_of_wpC mixed Tryz.func9 rfl (by kernel_rfl) ?_
  intro e he
  have he0 := he 0
  have he1 := he 1
  simp only [List.getD_cons_zero, List.getD_cons_succ] at he0 he1
  clear he
  repeat (first | rw [c_seq] | simp -dsimp only [↓RE,RU,RL,if_true,if_false,forall_const,implies_true,Nat.reduceLeDiff,Nat.reduceLT,pureOp,binPure,intBin,strBin,eqPure,isConstO,unPure,sliceLo,sliceHi,slicePure,slice3Pure,lenPure,capPure,minPure,maxPure,buildP,resK,endV,yieldE,↓reduceIte,Nat.reduceEqDiff,reduceCtorEq,Nat.reduceAdd,Nat.reduceMul,Nat.reduceSub,Int.reduceLT,Int.reduceLE,Int.reduceToNat,Int.reduceAdd,Int.reduceSub,Int.reduceMul,ne_eq,decide_true,decide_false,tf9, he0, he1])
  refine order_ok hX hoX (by omega) (fun w1 v1 D hD g1 => ?_)
  have hDl := wOrd_len (X.map WrV.wr)
  rw [← hD.eq, List.length_map, List.length_map] at hDl
  obtain ⟨A1, c1, rfl, _, _⟩ := hD.row.form
  have hst : StrictC cmpV D := by
    have := wOrd_strict (X.map WrV.wr)
    rw [← hD.eq] at this
    exact (List.pairwise_map.1 this)
  repeat (first | rw [c_seq] | simp -dsimp only [↓RE,RU,RL,if_true,if_false,forall_const,implies_true,Nat.reduceLeDiff,Nat.reduceLT,pureOp,binPure,intBin,strBin,eqPure,isConstO,unPure,sliceLo,sliceHi,slicePure,slice3Pure,lenPure,capPure,minPure,maxPure,buildP,resK,endV,yieldE,↓reduceIte,Nat.reduceEqDiff,reduceCtorEq,Nat.reduceAdd,Nat.reduceMul,Nat.reduceSub,Int.reduceLT,Int.reduceLE,Int.reduceToNat,Int.reduceAdd,Int.reduceSub,Int.reduceMul,ne_eq,decide_true,decide_false,tf9, he0, he1])
  refine wpLoop_intro (fun e' w' => Grow w1 w' ∧ (e' 0 = .slice A n c ∧ e' 1 = .slice B m d ∧ e' 5 = .slice A1 D.length c1) ∧ ∃ k : Nat, 1 ≤ k ∧ (k ≤ D.length ∨ k = 1) ∧ e' 6 = .int .i64 (k : Int))
    (fun e' _ => D.length - (envInt (e' 6)).toNat) ⟨Keep.refl _ _, ⟨?_, ?_, ?_⟩, 1, Nat.le_refl _, .inr rfl, ?_⟩ ?_
  · simp -dsimp only [↓RE,RU,RL,if_true,if_false,↓reduceIte,Nat.reduceEqDiff,reduceCtorEq,decide_true,decide_false, he0]
  · simp -dsimp only [↓RE,RU,RL,if_true,if_false,↓reduceIte,Nat.reduceEqDiff,reduceCtorEq,decide_true,decide_false, he1]
  · simp -dsimp only [↓RE,RU,RL,if_true,if_false,↓reduceIte,Nat.reduceEqDiff,reduceCtorEq,decide_true,decide_false, he0]
  · simp -dsimp only [↓RE,RU,RL,if_true,if_false,↓reduceIte,Nat.reduceEqDiff,reduceCtorEq,decide_true,decide_false, he0]
    rfl
  clear he0 he1 e
  rintro e w2 ⟨g2, ⟨he0, he1, he5⟩, k, hk0, hk, he6⟩
  have g02 := g1.trans g2
  have hD2 := hD.grow g2
  have hmu : (envInt (e 6)).toNat = k := by rw [he6]; exact Int.toNat_natCast k
  rcases Nat.lt_or_ge k D.length with hlt | hge
  · have hdk : decide ((k : Int) < (D.length : Int)) = true := decide_eq_true (by omega)
    have hw1 : IntKind.i64.wrap ((k : Int) + 1) = ((k + 1 : Nat) : Int) := by rw [wrap_i64_in (by omega) (by omega)]; omega
    have hwm : IntKind.i64.wrap ((k : Int) - 1) = ((k - 1 : Nat) : Int) := by rw [wrap_i64_in (by omega) (by omega)]; omega
    obtain ⟨hm1, hm2⟩ := strict_at hst hk0 hlt
    have hxm : D.getD (k - 1) w00 ∈ D := getD_mem (by omega)
    have hym : D.getD k w00 ∈ D := getD_mem hlt
    have hrd := hD2.row.rd
    obtain ⟨ad, rfl⟩ : ∃ ad, A1 = some ad := by
      obtain ⟨ad, e, _⟩ := hrd.2 (by omega)
      exact ⟨ad, e⟩
    have hxc : ∀ w', Grow w2 w' → ∀ j v, (D.getD (k - 1) w00).cells[j]? = some v → w'.cell? ((ad.add ((k - 1) * 6)).add j) = some v := fun w' g => (Rd.grow hrd g).wrc (by omega)
    have hyc : ∀ w', Grow w2 w' → ∀ j v, (D.getD k w00).cells[j]? = some v → w'.cell? ((ad.add (k * 6)).add j) = some v := fun w' g => (Rd.grow hrd g).wrc hlt
    have hxo := (hD2.ok _ hxm).1
    have hyo := (hD2.ok _ hym).1
    generalize D.getD (k - 1) w00 = x at hm1 hm2 hxc hxo
    generalize D.getD k w00 = y at hm1 hm2 hyc hyo
    have dneg : decide ((-1 : Int) = -1) = true := rfl
    have d11 : decide ((1 : Int) = 1) = true := rfl
    repeat (first | rw [c_seq] | simp -dsimp only [↓RE,RU,RL,if_true,if_false,forall_const,implies_true,Nat.reduceLeDiff,Nat.reduceLT,pureOp,binPure,intBin,strBin,eqPure,isConstO,unPure,sliceLo,sliceHi,slicePure,slice3Pure,lenPure,capPure,minPure,maxPure,buildP,resK,endV,yieldE,↓reduceIte,Nat.reduceEqDiff,reduceCtorEq,Nat.reduceAdd,Nat.reduceMul,Nat.reduceSub,Int.reduceLT,Int.reduceLE,Int.reduceToNat,Int.reduceAdd,Int.reduceSub,Int.reduceMul,ne_eq,decide_true,decide_false,tf9, he5, he6, hdk])
    refine wpDraw_by (Grow w2 ·) [(0, true), (1, true), (2, true), (3, true), (4, true), (5, true), (6, true), (7, true), (8, true), (9, false), (10, true), (11, true), (12, true), (13, true), (14, true), (15, true), (16, true), (17, true), (18, true), (19, true), (20, true), (21, false), (22, true), (23, true)] (by kernel_rfl) (Grow.drew w2) ?_
    simp only [planL, List.getElem?_toArray, List.getElem?_cons_zero, List.getElem?_cons_succ, Option.toList_some, List.map_cons, List.map_nil, List.cons_append, List.nil_append]
    repeat (first | rw [c_seq] | simp -dsimp only [↓RE,RU,RL,if_true,if_false,forall_const,implies_true,Nat.reduceLeDiff,Nat.reduceLT,pureOp,binPure,intBin,strBin,eqPure,isConstO,unPure,sliceLo,sliceHi,slicePure,slice3Pure,lenPure,capPure,minPure,maxPure,buildP,resK,endV,yieldE,↓reduceIte,Nat.reduceEqDiff,reduceCtorEq,Nat.reduceAdd,Nat.reduceMul,Nat.reduceSub,Int.reduceLT,Int.reduceLE,Int.reduceToNat,Int.reduceAdd,Int.reduceSub,Int.reduceMul,ne_eq,decide_true,decide_false,tf9, he5, he6, hwm, Int.toNat_natCast])
    refine ⟨⟨by omega, by omega⟩, x.cells, rfl, hxc, ?_⟩
    repeat (first | rw [c_seq] | simp -dsimp only [↓RE,RU,RL,if_true,if_false,forall_const,implies_true,Nat.reduceLeDiff,Nat.reduceLT,pureOp,binPure,intBin,strBin,eqPure,isConstO,unPure,sliceLo,sliceHi,slicePure,slice3Pure,lenPure,capPure,minPure,maxPure,buildP,resK,endV,yieldE,↓reduceIte,Nat.reduceEqDiff,reduceCtorEq,Nat.reduceAdd,Nat.reduceMul,Nat.reduceSub,Int.reduceLT,Int.reduceLE,Int.reduceToNat,Int.reduceAdd,Int.reduceSub,Int.reduceMul,ne_eq,decide_true,decide_false,tf9, he5, he6, hwm, Int.toNat_natCast])
    refine ⟨⟨by omega, by omega⟩, y.cells, rfl, hyc, ?_⟩
    repeat (first | rw [c_seq] | simp -dsimp only [↓RE,RU,RL,if_true,if_false,forall_const,implies_true,Nat.reduceLeDiff,Nat.reduceLT,pureOp,binPure,intBin,strBin,eqPure,isConstO,unPure,sliceLo,sliceHi,slicePure,slice3Pure,lenPure,capPure,minPure,maxPure,buildP,resK,endV,yieldE,↓reduceIte,Nat.reduceEqDiff,reduceCtorEq,Nat.reduceAdd,Nat.reduceMul,Nat.reduceSub,Int.reduceLT,Int.reduceLE,Int.reduceToNat,Int.reduceAdd,Int.reduceSub,Int.reduceMul,ne_eq,decide_true,decide_false,tf9, he5, he6, hwm, Int.toNat_natCast])
    refine wcmp_ok (hxo.grow (Grow.drew w2)) (hyo.grow (Grow.drew w2)) (fun w3 g3 => ?_)
    have g23 := (Grow.drew w2).trans g3
    refine ⟨g23, ?_⟩
    rw [hm1]
    repeat (first | rw [c_seq] | simp -dsimp only [↓RE,RU,RL,if_true,if_false,forall_const,implies_true,Nat.reduceLeDiff,Nat.reduceLT,pureOp,binPure,intBin,strBin,eqPure,isConstO,unPure,sliceLo,sliceHi,slicePure,slice3Pure,lenPure,capPure,minPure,maxPure,buildP,resK,endV,yieldE,↓reduceIte,Nat.reduceEqDiff,reduceCtorEq,Nat.reduceAdd,Nat.reduceMul,Nat.reduceSub,Int.reduceLT,Int.reduceLE,Int.reduceToNat,Int.reduceAdd,Int.reduceSub,Int.reduceMul,ne_eq,decide_true,decide_false,tf9, he5, he6, hwm, Int.toNat_natCast, dneg, Bool.not_true])
    refine ⟨⟨by omega, by omega⟩, y.cells, rfl, hyc, ?_⟩
    repeat (first | rw [c_seq] | simp -dsimp only [↓RE,RU,RL,if_true,if_false,forall_const,implies_true,Nat.reduceLeDiff,Nat.reduceLT,pureOp,binPure,intBin,strBin,eqPure,isConstO,unPure,sliceLo,sliceHi,slicePure,slice3Pure,lenPure,capPure,minPure,maxPure,buildP,resK,endV,yieldE,↓reduceIte,Nat.reduceEqDiff,reduceCtorEq,Nat.reduceAdd,Nat.reduceMul,Nat.reduceSub,Int.reduceLT,Int.reduceLE,Int.reduceToNat,Int.reduceAdd,Int.reduceSub,Int.reduceMul,ne_eq,decide_true,decide_false,tf9, he5, he6, hwm, Int.toNat_natCast])
    refine ⟨⟨by omega, by omega⟩, x.cells, rfl, hxc, ?_⟩
    repeat (first | rw [c_seq] | simp -dsimp only [↓RE,RU,RL,if_true,if_false,forall_const,implies_true,Nat.reduceLeDiff,Nat.reduceLT,pureOp,binPure,intBin,strBin,eqPure,isConstO,unPure,sliceLo,sliceHi,slicePure,slice3Pure,lenPure,capPure,minPure,maxPure,buildP,resK,endV,yieldE,↓reduceIte,Nat.reduceEqDiff,reduceCtorEq,Nat.reduceAdd,Nat.reduceMul,Nat.reduceSub,Int.reduceLT,Int.reduceLE,Int.reduceToNat,Int.reduceAdd,Int.reduceSub,Int.reduceMul,ne_eq,decide_true,decide_false,tf9, he5, he6, hwm, Int.toNat_natCast])
    refine wcmp_ok (hyo.grow g23) (hxo.grow g23) (fun w4 g4 => ?_)
    have g24 := g23.trans g4
    refine ⟨g24, ?_⟩
    rw [hm2]
    repeat (first | rw [c_seq] | simp -dsimp only [↓RE,RU,RL,if_true,if_false,forall_const,implies_true,Nat.reduceLeDiff,Nat.reduceLT,pureOp,binPure,intBin,strBin,eqPure,isConstO,unPure,sliceLo,sliceHi,slicePure,slice3Pure,lenPure,capPure,minPure,maxPure,buildP,resK,endV,yieldE,↓reduceIte,Nat.reduceEqDiff,reduceCtorEq,Nat.reduceAdd,Nat.reduceMul,Nat.reduceSub,Int.reduceLT,Int.reduceLE,Int.reduceToNat,Int.reduceAdd,Int.reduceSub,Int.reduceMul,ne_eq,decide_true,decide_false,tf9, he6, hw1, d11, Bool.not_true])
    refine hold_intro ⟨⟨g2.trans g24, ⟨?_, ?_, ?_⟩, k + 1, by omega, .inl hlt, ?_⟩, ?_⟩
    · simp -dsimp only [↓RE,RU,RL,if_true,if_false,↓reduceIte,Nat.reduceEqDiff,reduceCtorEq,decide_true,decide_false, he0]
    · simp -dsimp only [↓RE,RU,RL,if_true,if_false,↓reduceIte,Nat.reduceEqDiff,reduceCtorEq,decide_true,decide_false, he1]
    · simp -dsimp only [↓RE,RU,RL,if_true,if_false,↓reduceIte,Nat.reduceEqDiff,reduceCtorEq,decide_true,decide_false, he5]
    · simp -dsimp only [↓RE,RU,RL,if_true,if_false,↓reduceIte,Nat.reduceEqDiff,reduceCtorEq,decide_true,decide_false, hw1]
    · rw [hmu]
      simp -dsimp only [↓RE,↓c_seq,RU,RL,if_true,if_false,forall_const,implies_true,Nat.reduceLeDiff,Nat.reduceLT,pureOp,binPure,intBin,strBin,eqPure,isConstO,unPure,sliceLo,sliceHi,slicePure,slice3Pure,lenPure,capPure,minPure,maxPure,buildP,resK,endV,yieldE,↓reduceIte,Nat.reduceEqDiff,reduceCtorEq,Nat.reduceAdd,Nat.reduceMul,Nat.reduceSub,Int.reduceLT,Int.reduceLE,Int.reduceToNat,Int.reduceAdd,Int.reduceSub,Int.reduceMul,ne_eq,decide_true,decide_false,tf9, hw1]
      simp only [envInt_int]; omega
  · have hdk : decide ((k : Int) < (D.length : Int)) = false := decide_eq_false (by omega)
    repeat (first | rw [c_seq] | simp -dsimp only [↓RE,RU,RL,if_true,if_false,forall_const,implies_true,Nat.reduceLeDiff,Nat.reduceLT,pureOp,binPure,intBin,strBin,eqPure,isConstO,unPure,sliceLo,sliceHi,slicePure,slice3Pure,lenPure,capPure,minPure,maxPure,buildP,resK,endV,yieldE,↓reduceIte,Nat.reduceEqDiff,reduceCtorEq,Nat.reduceAdd,Nat.reduceMul,Nat.reduceSub,Int.reduceLT,Int.reduceLE,Int.reduceToNat,Int.reduceAdd,Int.reduceSub,Int.reduceMul,ne_eq,decide_true,decide_false,tf9, he5, he6, hdk])
    refine live7_ok (hL.grow g02) (hT.grow g02) (fun w3 g3 => ?_)
    have g13 := g2.trans g3
    have g03 := g1.trans g13
    have hD3 := hD.grow g13
    repeat (first | rw [c_seq] | simp -dsimp only [↓RE,RU,RL,if_true,if_false,forall_const,implies_true,Nat.reduceLeDiff,Nat.reduceLT,pureOp,binPure,intBin,strBin,eqPure,isConstO,unPure,sliceLo,sliceHi,slicePure,slice3Pure,lenPure,capPure,minPure,maxPure,buildP,resK,endV,yieldE,↓reduceIte,Nat.reduceEqDiff,reduceCtorEq,Nat.reduceAdd,Nat.reduceMul,Nat.reduceSub,Int.reduceLT,Int.reduceLE,Int.reduceToNat,Int.reduceAdd,Int.reduceSub,Int.reduceMul,ne_eq,decide_true,decide_false,tf9, he0, he1, he5])
    refine order_ok hD3.row.rd (fun x hx => (hD3.ok x hx).1) (by omega) (fun w4 v4 D4 hD4 g4 => ?_)
    rw [hD3.eq, wOrd_wOrd] at hD4
    have hl4 : D4.length = D.length := by rw [← List.length_map (f := WrV.wr), hD4.eq, ← hD3.eq, List.length_map]
    obtain ⟨A4, c4, rfl, _, _⟩ := hD4.row.form
    have g04 := g03.trans g4
    have hD4' := hD3.grow g4
    repeat (first | rw [c_seq] | simp -dsimp only [↓RE,RU,RL,if_true,if_false,forall_const,implies_true,Nat.reduceLeDiff,Nat.reduceLT,pureOp,binPure,intBin,strBin,eqPure,isConstO,unPure,sliceLo,sliceHi,slicePure,slice3Pure,lenPure,capPure,minPure,maxPure,buildP,resK,endV,yieldE,↓reduceIte,Nat.reduceEqDiff,reduceCtorEq,Nat.reduceAdd,Nat.reduceMul,Nat.reduceSub,Int.reduceLT,Int.reduceLE,Int.reduceToNat,Int.reduceAdd,Int.reduceSub,Int.reduceMul,ne_eq,decide_true,decide_false,tf9, he0, he1, he5])
    refine samew_ok hD4.row.rd hD4'.row.rd (fun x hx => (hD4.ok x hx).1) (fun x hx => (hD4'.ok x hx).1) (by omega) (by omega) (fun w5 g5 => ?_)
    rw [hD4.eq, hD4'.eq, decide_eq_true rfl]
    have g05 := g04.trans g5
    repeat (first | rw [c_seq] | simp -dsimp only [↓RE,RU,RL,if_true,if_false,forall_const,implies_true,Nat.reduceLeDiff,Nat.reduceLT,pureOp,binPure,intBin,strBin,eqPure,isConstO,unPure,sliceLo,sliceHi,slicePure,slice3Pure,lenPure,capPure,minPure,maxPure,buildP,resK,endV,yieldE,↓reduceIte,Nat.reduceEqDiff,reduceCtorEq,Nat.reduceAdd,Nat.reduceMul,Nat.reduceSub,Int.reduceLT,Int.reduceLE,Int.reduceToNat,Int.reduceAdd,Int.reduceSub,Int.reduceMul,ne_eq,decide_true,decide_false,tf9, he0, he1, he5])
    refine merge_ok (hX.grow g05) (hY.grow g05) (fun x hx => (hoX x hx).grow g05) (fun x hx => (hoY x hx).grow g05) (by omega) (fun w6 v6 D6 hD6 g6 => ?_)
    have g06 := g05.trans g6
    repeat (first | rw [c_seq] | simp -dsimp only [↓RE,RU,RL,if_true,if_false,forall_const,implies_true,Nat.reduceLeDiff,Nat.reduceLT,pureOp,binPure,intBin,strBin,eqPure,isConstO,unPure,sliceLo,sliceHi,slicePure,slice3Pure,lenPure,capPure,minPure,maxPure,buildP,resK,endV,yieldE,↓reduceIte,Nat.reduceEqDiff,reduceCtorEq,Nat.reduceAdd,Nat.reduceMul,Nat.reduceSub,Int.reduceLT,Int.reduceLE,Int.reduceToNat,Int.reduceAdd,Int.reduceSub,Int.reduceMul,ne_eq,decide_true,decide_false,tf9, he0, he1, he5])
    refine order_ok (hY.grow g06) (fun x hx => (hoY x hx).grow g06) (by omega) (fun w7 v7 D7 hD7 g7 => ?_)
    have g07 := g06.trans g7
    have hl7 := wOrd_len (Y.map WrV.wr)
    rw [← hD7.eq, List.length_map, List.length_map] at hl7
    have hD5 := (hD4'.grow g5).grow (g6.trans g7)
    obtain ⟨A7, c7, rfl, _, _⟩ := hD7.row.form
    repeat (first | rw [c_seq] | simp -dsimp only [↓RE,RU,RL,if_true,if_false,forall_const,implies_true,Nat.reduceLeDiff,Nat.reduceLT,pureOp,binPure,intBin,strBin,eqPure,isConstO,unPure,sliceLo,sliceHi,slicePure,slice3Pure,lenPure,capPure,minPure,maxPure,buildP,resK,endV,yieldE,↓reduceIte,Nat.reduceEqDiff,reduceCtorEq,Nat.reduceAdd,Nat.reduceMul,Nat.reduceSub,Int.reduceLT,Int.reduceLE,Int.reduceToNat,Int.reduceAdd,Int.reduceSub,Int.reduceMul,ne_eq,decide_true,decide_false,tf9, he0, he1, he5])
    refine merge_ok hD5.row.rd hD7.row.rd (fun x hx => (hD5.ok x hx).1) (fun x hx => (hD7.ok x hx).1) (by omega) (fun w8 v8 D8 hD8 g8 => ?_)
    rw [hD5.eq, hD7.eq, wOrd_two] at hD8
    have hD6 := hD6.grow (g7.trans g8)
    have hl6 := wOrd_len (X.map WrV.wr ++ Y.map WrV.wr)
    rw [← hD6.eq, List.length_append, List.length_map, List.length_map, List.length_map] at hl6
    have hl8 : D8.length = D6.length := by rw [← List.length_map (f := WrV.wr), hD8.eq, ← hD6.eq, List.length_map]
    obtain ⟨A6, c6, rfl, _, _⟩ := hD6.row.form
    obtain ⟨A8, c8, rfl, _, _⟩ := hD8.row.form
    repeat (first | rw [c_seq] | simp -dsimp only [↓RE,RU,RL,if_true,if_false,forall_const,implies_true,Nat.reduceLeDiff,Nat.reduceLT,pureOp,binPure,intBin,strBin,eqPure,isConstO,unPure,sliceLo,sliceHi,slicePure,slice3Pure,lenPure,capPure,minPure,maxPure,buildP,resK,endV,yieldE,↓reduceIte,Nat.reduceEqDiff,reduceCtorEq,Nat.reduceAdd,Nat.reduceMul,Nat.reduceSub,Int.reduceLT,Int.reduceLE,Int.reduceToNat,Int.reduceAdd,Int.reduceSub,Int.reduceMul,ne_eq,decide_true,decide_false,tf9, he0, he1, he5])
    refine samew_ok hD6.row.rd hD8.row.rd (fun x hx => (hD6.ok x hx).1) (fun x hx => (hD8.ok x hx).1) (by omega) (by omega) (fun w9 g9 => ?_)
    rw [hD6.eq, hD8.eq, decide_eq_true rfl]
    have dle : decide ((D.length : Int) ≤ (n : Int)) = true := decide_eq_true (by omega)
    have dgt : decide ((0 : Int) < (D.length : Int)) = decide ((0 : Int) < (n : Int)) := by
      have := wOrd_pos (X.map WrV.wr)
      rw [← hD.eq, List.length_map, List.length_map] at this
      rw [decide_eq_decide]
      omega
    repeat (first | rw [c_seq] | simp -dsimp only [↓RE,RU,RL,if_true,if_false,forall_const,implies_true,Nat.reduceLeDiff,Nat.reduceLT,pureOp,binPure,intBin,strBin,eqPure,isConstO,unPure,sliceLo,sliceHi,slicePure,slice3Pure,lenPure,capPure,minPure,maxPure,buildP,resK,endV,yieldE,↓reduceIte,Nat.reduceEqDiff,reduceCtorEq,Nat.reduceAdd,Nat.reduceMul,Nat.reduceSub,Int.reduceLT,Int.reduceLE,Int.reduceToNat,Int.reduceAdd,Int.reduceSub,Int.reduceMul,ne_eq,decide_true,decide_false,tf9, he0, he1, he5, dle, dgt, eq_self, beq_self_eq_true])
    exact h w9 ((g07.trans g8).trans g9)

end Go.Proofs.YtljgnocpijniiaaGreatDoor
