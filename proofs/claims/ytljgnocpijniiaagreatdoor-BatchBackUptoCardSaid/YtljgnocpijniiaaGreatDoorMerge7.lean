/- The law BatchMerges, walked. -/
import Derived.Test.YtljgnocpijniiaaGreatDoorLives
import Derived.Test.YtljgnocpijniiaaGreatDoorPtRow
set_option linter.unusedVariables false
set_option linter.unusedSimpArgs false
set_option maxRecDepth 100000
namespace Go.Proofs.YtljgnocpijniiaaGreatDoor
open Go

theorem checkE_app {l m : List Pt} (h1 : checkE l = none) (h2 : checkE m = none) (h : l.length + m.length ≤ 10000) : checkE (l ++ m) = none := by
  obtain ⟨_, a1⟩ := check_few h1
  obtain ⟨_, a2⟩ := check_few h2
  unfold checkE
  rw [if_neg (by rw [List.length_append]; omega)]
  exact firstE_none (fun q hq => (List.mem_append.1 hq).elim (a1 q) (a2 q))
theorem flatW_app (l m : List Pt) : flatW (l ++ m) = flatW l ++ flatW m := by simp [flatW]
theorem flatL_none {l : List Pt} (h : checkE l = none) : flatL l = wOrd (flatW l) := by unfold flatL; rw [h]; rfl
theorem flatL_len (l : List Pt) : (flatL l).length ≤ 160000 := by
  unfold flatL
  cases h : checkE l with
  | some y => simp
  | none =>
    obtain ⟨h1, h2⟩ := check_few h
    have := flat_few h2
    have := wOrd_len (flatW l)
    simp only [Option.isSome_none, Bool.false_eq_true, if_false]
    omega
set_option maxHeartbeats 4000000 in
theorem merges_walk {w : World} {A B : Option Addr} {n c m d : Nat} {X Y : List PtV} (hX : RdP w A n X) (hoX : ∀ x ∈ X, x.Ok w) (hY : RdP w B m Y) (hoY : ∀ x ∈ Y, x.Ok w) (hn : n ≤ 1048576) (hm : m ≤ 1048576) (hL : Lay w) (hT : Tabs w) {R : VWK}
    (h : ∀ w', Grow w w' → R (.bool true) w') : CallsV Tryz.prog 8 [.slice A n c, .slice B m d] w R := by
  have hXl := hX.plen
  have hYl := hY.plen
  refine calls_of_wpC mixed Tryz.func8 rfl (by kernel_rfl) ?_
  intro e he
  have he0 := he 0
  have he1 := he 1
  simp only [List.getD_cons_zero, List.getD_cons_succ] at he0 he1
  clear he
  repeat (first | rw [c_seq] | simp -dsimp only [↓RE,RU,RL,if_true,if_false,forall_const,implies_true,Nat.reduceLeDiff,Nat.reduceLT,pureOp,binPure,intBin,strBin,eqPure,isConstO,lenPure,resK,endV,yieldE,↓reduceIte,Nat.reduceEqDiff,reduceCtorEq,Nat.reduceAdd,Nat.reduceMul,Int.reduceLT,Int.reduceLE,Int.reduceToNat,Int.reduceAdd,ne_eq,decide_true,decide_false,tf8, he0, he1])
  refine bflat_ok hX hoX (by omega) hT (fun w1 v1 D1 hD1 g1 => ?_)
  repeat (first | rw [c_seq] | simp -dsimp only [↓RE,RU,RL,if_true,if_false,forall_const,implies_true,Nat.reduceLeDiff,Nat.reduceLT,pureOp,binPure,intBin,strBin,eqPure,isConstO,lenPure,resK,endV,yieldE,↓reduceIte,Nat.reduceEqDiff,reduceCtorEq,Nat.reduceAdd,Nat.reduceMul,Int.reduceLT,Int.reduceLE,Int.reduceToNat,Int.reduceAdd,ne_eq,decide_true,decide_false,tf8, he0, he1])
  refine bflat_ok (hY.grow g1) (all_grow hoY g1) (by omega) (hT.grow g1) (fun w2 v2 D2 hD2 g2 => ?_)
  have g02 := g1.trans g2
  repeat (first | rw [c_seq] | simp -dsimp only [↓RE,RU,RL,if_true,if_false,forall_const,implies_true,Nat.reduceLeDiff,Nat.reduceLT,pureOp,binPure,intBin,strBin,eqPure,isConstO,lenPure,resK,endV,yieldE,↓reduceIte,Nat.reduceEqDiff,reduceCtorEq,Nat.reduceAdd,Nat.reduceMul,Int.reduceLT,Int.reduceLE,Int.reduceToNat,Int.reduceAdd,ne_eq,decide_true,decide_false,tf8, he0, he1])
  have hE := LRow.empty w2 25 4
  have g3 := Grow.alloc w2 (.cells #[] 25)
  have g03 := g02.trans g3
  refine app_p (L := []) hE (hX.grow g03) (by simp; omega) (fun A3 c3 w3 hL3 k3 f3 => ?_)
  have g33 : Grow w2 w3 := g3.above k3 (fun q hq e => by rw [fpV_some] at e; simp only at e; omega)
  have g03 := g02.trans g33
  have hE3 : PRow w3 (.slice A3 X.length c3) X := by
    have := hL3
    rw [List.nil_append, List.length_nil, Nat.zero_add, ← hXl] at this
    exact this
  have hs3 := g3.size
  have hF3 : ∀ q, fpV (.slice A3 X.length c3) q → w2.heap.size ≤ q := fun q hq => by
    rcases f3 q (by rw [List.length_nil, Nat.zero_add, ← hXl]; exact hq) with e | e
    · rw [fpV_some] at e; simp only at e; omega
    · omega
  rw [List.length_nil, Nat.zero_add, ← hXl]
  clear hL3 f3 hE g3
  repeat (first | rw [c_seq] | simp -dsimp only [↓RE,RU,RL,if_true,if_false,forall_const,implies_true,Nat.reduceLeDiff,Nat.reduceLT,pureOp,binPure,intBin,strBin,eqPure,isConstO,lenPure,resK,endV,yieldE,↓reduceIte,Nat.reduceEqDiff,reduceCtorEq,Nat.reduceAdd,Nat.reduceMul,Int.reduceLT,Int.reduceLE,Int.reduceToNat,Int.reduceAdd,ne_eq,decide_true,decide_false,tf8, he0, he1])
  refine app_p hE3 (hY.grow g03) (by omega) (fun A4 c4 w4 hL4 k4 f4 => ?_)
  have g24 : Grow w2 w4 := g33.above k4 (fun q hq e => by have := hF3 q e; omega)
  have g04 := g02.trans g24
  have hlen : (X ++ Y).length = X.length + m := by rw [List.length_append, hYl]
  rw [← hlen]
  have hoXY : ∀ x ∈ X ++ Y, x.Ok w := fun x hx => (List.mem_append.1 hx).elim (hoX x) (hoY x)
  repeat (first | rw [c_seq] | simp -dsimp only [↓RE,RU,RL,if_true,if_false,forall_const,implies_true,Nat.reduceLeDiff,Nat.reduceLT,pureOp,binPure,intBin,strBin,eqPure,isConstO,lenPure,resK,endV,yieldE,↓reduceIte,Nat.reduceEqDiff,reduceCtorEq,Nat.reduceAdd,Nat.reduceMul,Int.reduceLT,Int.reduceLE,Int.reduceToNat,Int.reduceAdd,ne_eq,decide_true,decide_false,tf8, he0, he1])
  refine bflat_ok (LRow.rd (by rw [← hlen] at hL4; exact hL4)) (all_grow hoXY g04) (by omega) (hT.grow g04) (fun w5 v3 D3 hD3 g5 => ?_)
  rw [List.map_append] at hD3 ⊢
  have g05 := g04.trans g5
  have g25 := g24.trans g5
  have hD1 := (hD1.grow g2).grow g25
  have hD2 := hD2.grow g25
  clear hL4 f4 k4 k3 hE3 hF3
  have hL5 := hL.grow g05
  have hT5 := hT.grow g05
  have hX5 := hX.grow g05
  have hY5 := hY.grow g05
  have hoX5 := all_grow hoX g05
  have hoY5 := all_grow hoY g05
  cases h1 : checkE (X.map PtV.p) with
  | some y =>
    have hd : decide (y.code = 0) = false := decide_eq_false (checkE_code h1)
    repeat (first | rw [c_seq] | simp -dsimp only [↓RE,RU,RL,if_true,if_false,forall_const,implies_true,Nat.reduceLeDiff,Nat.reduceLT,pureOp,binPure,intBin,strBin,eqPure,isConstO,lenPure,resK,endV,yieldE,↓reduceIte,Nat.reduceEqDiff,reduceCtorEq,Nat.reduceAdd,Nat.reduceMul,Int.reduceLT,Int.reduceLE,Int.reduceToNat,Int.reduceAdd,ne_eq,decide_true,decide_false,tf8, he0, he1, errOf, Er.v, Bool.not_false, Bool.not_true])
    refine live7_ok hL5 hT5 (fun w6 g6 => ?_)
    repeat (first | rw [c_seq] | simp -dsimp only [↓RE,RU,RL,if_true,if_false,forall_const,implies_true,Nat.reduceLeDiff,Nat.reduceLT,pureOp,binPure,intBin,strBin,eqPure,isConstO,lenPure,resK,endV,yieldE,↓reduceIte,Nat.reduceEqDiff,reduceCtorEq,Nat.reduceAdd,Nat.reduceMul,Int.reduceLT,Int.reduceLE,Int.reduceToNat,Int.reduceAdd,ne_eq,decide_true,decide_false,tf8, he0, he1])
    refine qcheck_ok (hX5.grow g6) (all_grow hoX5 g6) (by omega) (fun w7 g7 => ?_)
    rw [h1]
    repeat (first | rw [c_seq] | simp -dsimp only [↓RE,RU,RL,if_true,if_false,forall_const,implies_true,Nat.reduceLeDiff,Nat.reduceLT,pureOp,binPure,intBin,strBin,eqPure,isConstO,lenPure,resK,endV,yieldE,↓reduceIte,Nat.reduceEqDiff,reduceCtorEq,Nat.reduceAdd,Nat.reduceMul,Int.reduceLT,Int.reduceLE,Int.reduceToNat,Int.reduceAdd,ne_eq,decide_true,decide_false,tf8, he0, he1, badOf, BadV.v, BadV.cells, Er.bad, hd, Bool.not_false, undef])
    exact h w7 ((g05.trans g6).trans g7)
  | none =>
    cases h2 : checkE (Y.map PtV.p) with
    | some y =>
      have hd : decide (y.code = 0) = false := decide_eq_false (checkE_code h2)
      have d00 : decide ((0 : Int) = 0) = true := rfl
      repeat (first | rw [c_seq] | simp -dsimp only [↓RE,RU,RL,if_true,if_false,forall_const,implies_true,Nat.reduceLeDiff,Nat.reduceLT,pureOp,binPure,intBin,strBin,eqPure,isConstO,lenPure,resK,endV,yieldE,↓reduceIte,Nat.reduceEqDiff,reduceCtorEq,Nat.reduceAdd,Nat.reduceMul,Int.reduceLT,Int.reduceLE,Int.reduceToNat,Int.reduceAdd,ne_eq,decide_true,decide_false,tf8, he0, he1, errOf, Er.v, Bool.not_false, Bool.not_true])
      refine live7_ok hL5 hT5 (fun w6 g6 => ?_)
      repeat (first | rw [c_seq] | simp -dsimp only [↓RE,RU,RL,if_true,if_false,forall_const,implies_true,Nat.reduceLeDiff,Nat.reduceLT,pureOp,binPure,intBin,strBin,eqPure,isConstO,lenPure,resK,endV,yieldE,↓reduceIte,Nat.reduceEqDiff,reduceCtorEq,Nat.reduceAdd,Nat.reduceMul,Int.reduceLT,Int.reduceLE,Int.reduceToNat,Int.reduceAdd,ne_eq,decide_true,decide_false,tf8, he0, he1])
      refine qcheck_ok (hX5.grow g6) (all_grow hoX5 g6) (by omega) (fun w7 g7 => ?_)
      rw [h1]
      repeat (first | rw [c_seq] | simp -dsimp only [↓RE,RU,RL,if_true,if_false,forall_const,implies_true,Nat.reduceLeDiff,Nat.reduceLT,pureOp,binPure,intBin,strBin,eqPure,isConstO,lenPure,resK,endV,yieldE,↓reduceIte,Nat.reduceEqDiff,reduceCtorEq,Nat.reduceAdd,Nat.reduceMul,Int.reduceLT,Int.reduceLE,Int.reduceToNat,Int.reduceAdd,ne_eq,decide_true,decide_false,tf8, he0, he1, badOf, BadV.none, BadV.v, BadV.cells, Er.bad, d00, Bool.not_false, Bool.not_true])
      refine qcheck_ok (hY5.grow (g6.trans g7)) (all_grow hoY5 (g6.trans g7)) (by omega) (fun w8 g8 => ?_)
      rw [h2]
      repeat (first | rw [c_seq] | simp -dsimp only [↓RE,RU,RL,if_true,if_false,forall_const,implies_true,Nat.reduceLeDiff,Nat.reduceLT,pureOp,binPure,intBin,strBin,eqPure,isConstO,lenPure,resK,endV,yieldE,↓reduceIte,Nat.reduceEqDiff,reduceCtorEq,Nat.reduceAdd,Nat.reduceMul,Int.reduceLT,Int.reduceLE,Int.reduceToNat,Int.reduceAdd,ne_eq,decide_true,decide_false,tf8, he0, he1, badOf, BadV.v, BadV.cells, Er.bad, hd, Bool.not_false, undef])
      exact h w8 (((g05.trans g6).trans g7).trans g8)
    | none =>
      cases h3 : checkE (X.map PtV.p ++ Y.map PtV.p) with
      | some y =>
        have d00 : decide ((0 : Int) = 0) = true := rfl
        have hlong : 10000 < n + m := by
          apply Nat.lt_of_not_le
          intro hle
          rw [checkE_app h1 h2 (by rw [List.length_map, List.length_map]; omega)] at h3
          cases h3
        have hw : IntKind.i64.wrap ((n : Int) + (m : Int)) = ((n + m : Nat) : Int) := by rw [wrap_i64_in (by omega) (by omega)]; omega
        have hdl : decide ((10000 : Int) < ((n + m : Nat) : Int)) = true := decide_eq_true (by omega)
        repeat (first | rw [c_seq] | simp -dsimp only [↓RE,RU,RL,if_true,if_false,forall_const,implies_true,Nat.reduceLeDiff,Nat.reduceLT,pureOp,binPure,intBin,strBin,eqPure,isConstO,lenPure,resK,endV,yieldE,↓reduceIte,Nat.reduceEqDiff,reduceCtorEq,Nat.reduceAdd,Nat.reduceMul,Int.reduceLT,Int.reduceLE,Int.reduceToNat,Int.reduceAdd,ne_eq,decide_true,decide_false,tf8, he0, he1, errOf, Er.v, Bool.not_false, Bool.not_true])
        refine live7_ok hL5 hT5 (fun w6 g6 => ?_)
        repeat (first | rw [c_seq] | simp -dsimp only [↓RE,RU,RL,if_true,if_false,forall_const,implies_true,Nat.reduceLeDiff,Nat.reduceLT,pureOp,binPure,intBin,strBin,eqPure,isConstO,lenPure,resK,endV,yieldE,↓reduceIte,Nat.reduceEqDiff,reduceCtorEq,Nat.reduceAdd,Nat.reduceMul,Int.reduceLT,Int.reduceLE,Int.reduceToNat,Int.reduceAdd,ne_eq,decide_true,decide_false,tf8, he0, he1])
        refine qcheck_ok (hX5.grow g6) (all_grow hoX5 g6) (by omega) (fun w7 g7 => ?_)
        rw [h1]
        repeat (first | rw [c_seq] | simp -dsimp only [↓RE,RU,RL,if_true,if_false,forall_const,implies_true,Nat.reduceLeDiff,Nat.reduceLT,pureOp,binPure,intBin,strBin,eqPure,isConstO,lenPure,resK,endV,yieldE,↓reduceIte,Nat.reduceEqDiff,reduceCtorEq,Nat.reduceAdd,Nat.reduceMul,Int.reduceLT,Int.reduceLE,Int.reduceToNat,Int.reduceAdd,ne_eq,decide_true,decide_false,tf8, he0, he1, badOf, BadV.none, BadV.v, BadV.cells, Er.bad, d00, Bool.not_false, Bool.not_true])
        refine qcheck_ok (hY5.grow (g6.trans g7)) (all_grow hoY5 (g6.trans g7)) (by omega) (fun w8 g8 => ?_)
        rw [h2]
        repeat (first | rw [c_seq] | simp -dsimp only [↓RE,RU,RL,if_true,if_false,forall_const,implies_true,Nat.reduceLeDiff,Nat.reduceLT,pureOp,binPure,intBin,strBin,eqPure,isConstO,lenPure,resK,endV,yieldE,↓reduceIte,Nat.reduceEqDiff,reduceCtorEq,Nat.reduceAdd,Nat.reduceMul,Int.reduceLT,Int.reduceLE,Int.reduceToNat,Int.reduceAdd,ne_eq,decide_true,decide_false,tf8, he0, he1, badOf, BadV.none, BadV.v, BadV.cells, d00, hw, hdl, Bool.not_false, Bool.not_true, undef])
        exact h w8 (((g05.trans g6).trans g7).trans g8)
      | none =>
        rw [flatL_none h1] at hD1
        rw [flatL_none h2] at hD2
        rw [flatL_none h3, flatW_app] at hD3
        have hl1 := flatL_len (X.map PtV.p)
        have hl2 := flatL_len (Y.map PtV.p)
        have hl3 := flatL_len (X.map PtV.p ++ Y.map PtV.p)
        rw [flatL_none h1, ← hD1.eq, List.length_map] at hl1
        rw [flatL_none h2, ← hD2.eq, List.length_map] at hl2
        rw [flatL_none h3, flatW_app, ← hD3.eq, List.length_map] at hl3
        obtain ⟨A1, c1, rfl, _, _⟩ := hD1.row.form
        obtain ⟨A2, c2, rfl, _, _⟩ := hD2.row.form
        obtain ⟨A5, c5, rfl, _, _⟩ := hD3.row.form
        repeat (first | rw [c_seq] | simp -dsimp only [↓RE,RU,RL,if_true,if_false,forall_const,implies_true,Nat.reduceLeDiff,Nat.reduceLT,pureOp,binPure,intBin,strBin,eqPure,isConstO,lenPure,resK,endV,yieldE,↓reduceIte,Nat.reduceEqDiff,reduceCtorEq,Nat.reduceAdd,Nat.reduceMul,Int.reduceLT,Int.reduceLE,Int.reduceToNat,Int.reduceAdd,ne_eq,decide_true,decide_false,tf8, he0, he1, errOf, Bool.not_false, Bool.not_true])
        refine live7_ok hL5 hT5 (fun w6 g6 => ?_)
        have hD1 := hD1.grow g6
        have hD2 := hD2.grow g6
        have hD3 := hD3.grow g6
        repeat (first | rw [c_seq] | simp -dsimp only [↓RE,RU,RL,if_true,if_false,forall_const,implies_true,Nat.reduceLeDiff,Nat.reduceLT,pureOp,binPure,intBin,strBin,eqPure,isConstO,lenPure,resK,endV,yieldE,↓reduceIte,Nat.reduceEqDiff,reduceCtorEq,Nat.reduceAdd,Nat.reduceMul,Int.reduceLT,Int.reduceLE,Int.reduceToNat,Int.reduceAdd,ne_eq,decide_true,decide_false,tf8, he0, he1])
        refine merge_ok hD1.row.rd hD2.row.rd (fun x hx => (hD1.ok x hx).1) (fun x hx => (hD2.ok x hx).1) (by omega) (fun w7 v7 D7 hD7 g7 => ?_)
        rw [hD1.eq, hD2.eq, wOrd_two] at hD7
        have hD3 := hD3.grow g7
        have hl7 : D7.length = D3.length := by rw [← List.length_map (f := WrV.wr), hD7.eq, ← hD3.eq, List.length_map]
        obtain ⟨A7, c7, rfl, _, _⟩ := hD7.row.form
        repeat (first | rw [c_seq] | simp -dsimp only [↓RE,RU,RL,if_true,if_false,forall_const,implies_true,Nat.reduceLeDiff,Nat.reduceLT,pureOp,binPure,intBin,strBin,eqPure,isConstO,lenPure,resK,endV,yieldE,↓reduceIte,Nat.reduceEqDiff,reduceCtorEq,Nat.reduceAdd,Nat.reduceMul,Int.reduceLT,Int.reduceLE,Int.reduceToNat,Int.reduceAdd,ne_eq,decide_true,decide_false,tf8, he0, he1])
        refine samew_ok hD7.row.rd hD3.row.rd (fun x hx => (hD7.ok x hx).1) (fun x hx => (hD3.ok x hx).1) (by omega) (by omega) (fun w8 g8 => ?_)
        rw [hD7.eq, hD3.eq, decide_eq_true rfl]
        repeat (first | rw [c_seq] | simp -dsimp only [↓RE,RU,RL,if_true,if_false,forall_const,implies_true,Nat.reduceLeDiff,Nat.reduceLT,pureOp,binPure,intBin,strBin,eqPure,isConstO,lenPure,resK,endV,yieldE,↓reduceIte,Nat.reduceEqDiff,reduceCtorEq,Nat.reduceAdd,Nat.reduceMul,Int.reduceLT,Int.reduceLE,Int.reduceToNat,Int.reduceAdd,ne_eq,decide_true,decide_false,tf8, he0, he1])
        exact h w8 (((g05.trans g6).trans g7).trans g8)

end Go.Proofs.YtljgnocpijniiaaGreatDoor
