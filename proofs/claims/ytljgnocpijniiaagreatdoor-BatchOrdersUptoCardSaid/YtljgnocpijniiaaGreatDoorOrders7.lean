/- The law BatchOrders, walked. -/
import Derived.Test.YtljgnocpijniiaaGreatDoorLives
import Derived.Test.YtljgnocpijniiaaGreatDoorWrites7
set_option linter.unusedVariables false
set_option linter.unusedSimpArgs false
set_option maxRecDepth 100000
namespace Go.Proofs.YtljgnocpijniiaaGreatDoor
open Go

theorem wr_at {X Y : List WrV} (h : X.map WrV.wr = Y.map WrV.wr) (k : Nat) : (X.getD k w00).wr = (Y.getD k w00).wr := by
  have := congrArg (fun l => l.getD k w00.wr) h
  simp only [List.getD_eq_getElem?_getD, List.getElem?_map] at this
  simp only [List.getD_eq_getElem?_getD]
  cases hx : X[k]? <;> cases hy : Y[k]? <;> simp [hx, hy] at this ⊢ <;> exact this
theorem cmpV_wr {a b c d : WrV} (h1 : a.wr = c.wr) (h2 : b.wr = d.wr) : cmpV a b = cmpV c d := by
  show cmpW a.wr b.wr = cmpW c.wr d.wr
  rw [h1, h2]
set_option maxHeartbeats 8000000 in
theorem orders_walk {w : World} {A B : Option Addr} {n c m d : Nat} {X Y : List WrV} (hX : RdW w A n X) (hoX : ∀ x ∈ X, x.Ok w ∧ x.s.n ≤ 1048576) (hY : RdW w B m Y) (hoY : ∀ x ∈ Y, x.Ok w ∧ x.s.n ≤ 1048576) (hc : n ≤ c) (hd : m ≤ d) (hn : n ≤ 1048576) (hm : m ≤ 1048576) (hL : Lay w) (hT : Tabs w) {R : VWK}
    (h : ∀ w', Grow w w' → R (.bool true) w') : CallsV Tryz.prog 7 [.slice A n c, .slice B m d] w R := by
  have hXl := hX.wlen
  have hYl := hY.wlen
  have hoX : ∀ x ∈ X, x.Ok w := fun x hx => (hoX x hx).1
  have hoY : ∀ x ∈ Y, x.Ok w := fun x hx => (hoY x hx).1
  have upw : ∀ {l : List WrV} {w w' : World}, (∀ x ∈ l, x.Ok w) → Grow w w' → ∀ x ∈ l, x.Ok w' := fun h g x hx => (h x hx).grow g
  refine calls_of_wpC mixed Tryz.func7 rfl (by kernel_rfl) ?_
  intro e he
  have he0 := he 0
  have he1 := he 1
  simp only [List.getD_cons_zero, List.getD_cons_succ] at he0 he1
  clear he
  repeat (first | rw [c_seq] | simp -dsimp only [↓RE,RU,RL,if_true,if_false,forall_const,implies_true,Nat.reduceLeDiff,Nat.reduceLT,pureOp,binPure,intBin,strBin,eqPure,isConstO,unPure,sliceLo,sliceHi,slicePure,slice3Pure,lenPure,capPure,minPure,maxPure,buildP,resK,endV,yieldE,↓reduceIte,Nat.reduceEqDiff,reduceCtorEq,Nat.reduceAdd,Nat.reduceMul,Nat.reduceSub,Int.reduceLT,Int.reduceLE,Int.reduceToNat,Int.reduceAdd,Int.reduceSub,Int.reduceMul,ne_eq,decide_true,decide_false,tf7, he0, he1])
  refine writes_ok hX hoX (by omega) (fun w1 A1 c1 D1 hD1 hr1 g1 => ?_)
  repeat (first | rw [c_seq] | simp -dsimp only [↓RE,RU,RL,if_true,if_false,forall_const,implies_true,Nat.reduceLeDiff,Nat.reduceLT,pureOp,binPure,intBin,strBin,eqPure,isConstO,unPure,sliceLo,sliceHi,slicePure,slice3Pure,lenPure,capPure,minPure,maxPure,buildP,resK,endV,yieldE,↓reduceIte,Nat.reduceEqDiff,reduceCtorEq,Nat.reduceAdd,Nat.reduceMul,Nat.reduceSub,Int.reduceLT,Int.reduceLE,Int.reduceToNat,Int.reduceAdd,Int.reduceSub,Int.reduceMul,ne_eq,decide_true,decide_false,tf7, he0, he1])
  refine writes_ok (hY.grow g1) (upw hoY g1) (by omega) (fun w2 A2 c2 D2 hD2 hr2 g2 => ?_)
  have g02 := g1.trans g2
  have hD1 := hD1.grow g2
  have hcap1 := hD1.row.form
  have hcap2 := hD2.row.form
  simp -dsimp only [↓RE,RU,RL,if_true,if_false,forall_const,implies_true,Nat.reduceLeDiff,Nat.reduceLT,pureOp,binPure,intBin,strBin,eqPure,isConstO,unPure,sliceLo,sliceHi,slicePure,slice3Pure,lenPure,capPure,minPure,maxPure,buildP,resK,endV,yieldE,↓reduceIte,Nat.reduceEqDiff,reduceCtorEq,Nat.reduceAdd,Nat.reduceMul,Nat.reduceSub,Int.reduceLT,Int.reduceLE,Int.reduceToNat,Int.reduceAdd,Int.reduceSub,Int.reduceMul,ne_eq,decide_true,decide_false,tf7, he0, he1]
  refine c_seq_cut (fun e' w' => Grow w2 w' ∧ (e' 0 = .slice A n c ∧ e' 1 = .slice B m d ∧ e' 5 = .slice A1 n c1 ∧ e' 6 = .slice A2 m c2)) ?_ ?_
  · have hend : ∀ w', Grow w2 w' → Grow w2 w' := fun _ g => g
    by_cases hn0 : 0 < n
    · have dn : decide ((0 : Int) < (n : Int)) = true := decide_eq_true (by omega)
      by_cases hm0 : 0 < m
      · have dm : decide ((0 : Int) < (m : Int)) = true := decide_eq_true (by omega)
        obtain ⟨a, rfl⟩ : ∃ a, A = some a := by
          obtain ⟨ad, e, _⟩ := hX.2 hn0
          exact ⟨ad, e⟩
        obtain ⟨b, rfl⟩ : ∃ b, B = some b := by
          obtain ⟨ad, e, _⟩ := hY.2 hm0
          exact ⟨ad, e⟩
        obtain ⟨a1, rfl⟩ : ∃ a, A1 = some a := by
          obtain ⟨ad, e, _⟩ := hD1.rd.2 hn0
          exact ⟨ad, e⟩
        obtain ⟨b1, rfl⟩ : ∃ b, A2 = some b := by
          obtain ⟨ad, e, _⟩ := hD2.rd.2 hm0
          exact ⟨ad, e⟩
        have z0 : ∀ (ad : Addr), ad.add (0 * 6) = ad := fun ad => by rw [Nat.zero_mul, add_zero']
        have hx1 : ∀ w', Grow w2 w' → ∀ j v, (D1.getD 0 w00).cells[j]? = some v → w'.cell? (a1.add j) = some v := fun w' g j v hv => by have := (Rd.grow hD1.rd g).wrc hn0 j v hv; rwa [z0] at this
        have hy1 : ∀ w', Grow w2 w' → ∀ j v, (D2.getD 0 w00).cells[j]? = some v → w'.cell? (b1.add j) = some v := fun w' g j v hv => by have := (Rd.grow hD2.rd g).wrc hm0 j v hv; rwa [z0] at this
        have hx2 : ∀ w', Grow w2 w' → ∀ j v, (X.getD 0 w00).cells[j]? = some v → w'.cell? (a.add j) = some v := fun w' g j v hv => by have := (Rd.grow hX (g02.trans g)).wrc hn0 j v hv; rwa [z0] at this
        have hy2 : ∀ w', Grow w2 w' → ∀ j v, (Y.getD 0 w00).cells[j]? = some v → w'.cell? (b.add j) = some v := fun w' g j v hv => by have := (Rd.grow hY (g02.trans g)).wrc hm0 j v hv; rwa [z0] at this
        have ox1 := hD1.ok _ (getD_mem (l := D1) (k := 0) (by rw [hD1.len]; exact hn0))
        have oy1 := hD2.ok _ (getD_mem (l := D2) (k := 0) (by rw [hD2.len]; exact hm0))
        have ox2 := hoX _ (getD_mem (l := X) (k := 0) (by omega))
        have oy2 := hoY _ (getD_mem (l := Y) (k := 0) (by omega))
        have hcc := cmpV_wr (wr_at hr1 0) (wr_at hr2 0)
        generalize D1.getD 0 w00 = x1 at hx1 ox1 hcc
        generalize D2.getD 0 w00 = y1 at hy1 oy1 hcc
        generalize X.getD 0 w00 = x2 at hx2 ox2 hcc
        generalize Y.getD 0 w00 = y2 at hy2 oy2 hcc
        have dcc : decide (cmpV x2 y2 = cmpV x2 y2) = true := decide_eq_true rfl
        rw [c_seq]
        simp -dsimp only [↓RE,RU,RL,if_true,if_false,forall_const,implies_true,Nat.reduceLeDiff,Nat.reduceLT,pureOp,binPure,intBin,strBin,eqPure,isConstO,unPure,sliceLo,sliceHi,slicePure,slice3Pure,lenPure,capPure,minPure,maxPure,buildP,resK,endV,yieldE,↓reduceIte,Nat.reduceEqDiff,reduceCtorEq,Nat.reduceAdd,Nat.reduceMul,Nat.reduceSub,Int.reduceLT,Int.reduceLE,Int.reduceToNat,Int.reduceAdd,Int.reduceSub,Int.reduceMul,ne_eq,decide_true,decide_false,tf7, he0, he1]
        refine wpDraw_by (Grow w2 ·) [(0, true), (1, true), (2, true), (3, true), (4, true), (5, true), (6, true), (7, true), (8, true), (9, true), (10, true), (11, true), (12, true), (13, true), (14, true), (16, true), (17, true), (18, true), (19, true), (20, true), (21, true), (15, false), (22, false), (23, true), (24, true)] (by kernel_rfl) (Grow.drew w2) ?_
        simp only [planL, List.getElem?_toArray, List.getElem?_cons_zero, List.getElem?_cons_succ, Option.toList_some, List.map_cons, List.map_nil, List.cons_append, List.nil_append]
        simp -dsimp only [↓RE,RU,RL,if_true,if_false,forall_const,implies_true,Nat.reduceLeDiff,Nat.reduceLT,pureOp,binPure,intBin,strBin,eqPure,isConstO,unPure,sliceLo,sliceHi,slicePure,slice3Pure,lenPure,capPure,minPure,maxPure,buildP,resK,endV,yieldE,↓reduceIte,Nat.reduceEqDiff,reduceCtorEq,Nat.reduceAdd,Nat.reduceMul,Nat.reduceSub,Int.reduceLT,Int.reduceLE,Int.reduceToNat,Int.reduceAdd,Int.reduceSub,Int.reduceMul,ne_eq,decide_true,decide_false,tf7, he0, he1, dn, dm, add_zero', Nat.zero_mul]
        refine ⟨by omega, x1.cells, rfl, hx1, ?_⟩
        simp -dsimp only [↓RE,RU,RL,if_true,if_false,forall_const,implies_true,Nat.reduceLeDiff,Nat.reduceLT,pureOp,binPure,intBin,strBin,eqPure,isConstO,unPure,sliceLo,sliceHi,slicePure,slice3Pure,lenPure,capPure,minPure,maxPure,buildP,resK,endV,yieldE,↓reduceIte,Nat.reduceEqDiff,reduceCtorEq,Nat.reduceAdd,Nat.reduceMul,Nat.reduceSub,Int.reduceLT,Int.reduceLE,Int.reduceToNat,Int.reduceAdd,Int.reduceSub,Int.reduceMul,ne_eq,decide_true,decide_false,tf7, he0, he1, dn, dm, add_zero', Nat.zero_mul]
        refine ⟨by omega, y1.cells, rfl, hy1, ?_⟩
        simp -dsimp only [↓RE,RU,RL,if_true,if_false,forall_const,implies_true,Nat.reduceLeDiff,Nat.reduceLT,pureOp,binPure,intBin,strBin,eqPure,isConstO,unPure,sliceLo,sliceHi,slicePure,slice3Pure,lenPure,capPure,minPure,maxPure,buildP,resK,endV,yieldE,↓reduceIte,Nat.reduceEqDiff,reduceCtorEq,Nat.reduceAdd,Nat.reduceMul,Nat.reduceSub,Int.reduceLT,Int.reduceLE,Int.reduceToNat,Int.reduceAdd,Int.reduceSub,Int.reduceMul,ne_eq,decide_true,decide_false,tf7, he0, he1, dn, dm, add_zero', Nat.zero_mul]
        refine ⟨by omega, x2.cells, rfl, hx2, ?_⟩
        simp -dsimp only [↓RE,RU,RL,if_true,if_false,forall_const,implies_true,Nat.reduceLeDiff,Nat.reduceLT,pureOp,binPure,intBin,strBin,eqPure,isConstO,unPure,sliceLo,sliceHi,slicePure,slice3Pure,lenPure,capPure,minPure,maxPure,buildP,resK,endV,yieldE,↓reduceIte,Nat.reduceEqDiff,reduceCtorEq,Nat.reduceAdd,Nat.reduceMul,Nat.reduceSub,Int.reduceLT,Int.reduceLE,Int.reduceToNat,Int.reduceAdd,Int.reduceSub,Int.reduceMul,ne_eq,decide_true,decide_false,tf7, he0, he1, dn, dm, add_zero', Nat.zero_mul]
        refine ⟨by omega, y2.cells, rfl, hy2, ?_⟩
        simp -dsimp only [↓RE,RU,RL,if_true,if_false,forall_const,implies_true,Nat.reduceLeDiff,Nat.reduceLT,pureOp,binPure,intBin,strBin,eqPure,isConstO,unPure,sliceLo,sliceHi,slicePure,slice3Pure,lenPure,capPure,minPure,maxPure,buildP,resK,endV,yieldE,↓reduceIte,Nat.reduceEqDiff,reduceCtorEq,Nat.reduceAdd,Nat.reduceMul,Nat.reduceSub,Int.reduceLT,Int.reduceLE,Int.reduceToNat,Int.reduceAdd,Int.reduceSub,Int.reduceMul,ne_eq,decide_true,decide_false,tf7, he0, he1, dn, dm, add_zero', Nat.zero_mul]
        have gd := Grow.drew w2
        refine wcmp_ok (ox1.grow gd) (oy1.grow gd) (fun w3 g3 => ?_)
        have g23 := gd.trans g3
        refine ⟨g23, ?_⟩
        rw [hcc]
        simp -dsimp only [↓RE,RU,RL,if_true,if_false,forall_const,implies_true,Nat.reduceLeDiff,Nat.reduceLT,pureOp,binPure,intBin,strBin,eqPure,isConstO,unPure,sliceLo,sliceHi,slicePure,slice3Pure,lenPure,capPure,minPure,maxPure,buildP,resK,endV,yieldE,↓reduceIte,Nat.reduceEqDiff,reduceCtorEq,Nat.reduceAdd,Nat.reduceMul,Nat.reduceSub,Int.reduceLT,Int.reduceLE,Int.reduceToNat,Int.reduceAdd,Int.reduceSub,Int.reduceMul,ne_eq,decide_true,decide_false,tf7, he0, he1, dn, dm, add_zero', Nat.zero_mul]
        refine rwcmp_ok (ox2.grow (g02.trans g23)) (oy2.grow (g02.trans g23)) (fun w4 g4 => ?_)
        have g24 := g23.trans g4
        refine ⟨g24, ?_⟩
        simp -dsimp only [↓RE,RU,RL,if_true,if_false,forall_const,implies_true,Nat.reduceLeDiff,Nat.reduceLT,pureOp,binPure,intBin,strBin,eqPure,isConstO,unPure,sliceLo,sliceHi,slicePure,slice3Pure,lenPure,capPure,minPure,maxPure,buildP,resK,endV,yieldE,↓reduceIte,Nat.reduceEqDiff,reduceCtorEq,Nat.reduceAdd,Nat.reduceMul,Nat.reduceSub,Int.reduceLT,Int.reduceLE,Int.reduceToNat,Int.reduceAdd,Int.reduceSub,Int.reduceMul,ne_eq,decide_true,decide_false,tf7, he0, he1, dn, dm, add_zero', Nat.zero_mul, dcc, Bool.not_true]
        refine hold_intro ⟨g24, ?_, ?_, ?_, ?_⟩
        · simp -dsimp only [↓RE,RU,RL,if_true,if_false,↓reduceIte,Nat.reduceEqDiff,reduceCtorEq,decide_true,decide_false, he0]
        · simp -dsimp only [↓RE,RU,RL,if_true,if_false,↓reduceIte,Nat.reduceEqDiff,reduceCtorEq,decide_true,decide_false, he1]
        · simp -dsimp only [↓RE,RU,RL,if_true,if_false,↓reduceIte,Nat.reduceEqDiff,reduceCtorEq,decide_true,decide_false, he0]
        · simp -dsimp only [↓RE,RU,RL,if_true,if_false,↓reduceIte,Nat.reduceEqDiff,reduceCtorEq,decide_true,decide_false, he0]
      · have dm : decide ((0 : Int) < (m : Int)) = false := decide_eq_false (by omega)
        rw [c_seq]
        simp -dsimp only [↓RE,RU,RL,if_true,if_false,forall_const,implies_true,Nat.reduceLeDiff,Nat.reduceLT,pureOp,binPure,intBin,strBin,eqPure,isConstO,unPure,sliceLo,sliceHi,slicePure,slice3Pure,lenPure,capPure,minPure,maxPure,buildP,resK,endV,yieldE,↓reduceIte,Nat.reduceEqDiff,reduceCtorEq,Nat.reduceAdd,Nat.reduceMul,Nat.reduceSub,Int.reduceLT,Int.reduceLE,Int.reduceToNat,Int.reduceAdd,Int.reduceSub,Int.reduceMul,ne_eq,decide_true,decide_false,tf7, he0, he1]
        refine wpDraw_by (Grow w2 ·) [(0, true), (1, true), (2, true), (3, true), (4, true), (5, true), (6, true), (7, true), (8, true), (9, true), (10, true), (11, true), (12, true), (13, true), (14, true), (16, true), (17, true), (18, true), (19, true), (20, true), (21, true), (15, false), (22, false), (23, true), (24, true)] (by kernel_rfl) (Grow.drew w2) ?_
        simp only [planL, List.getElem?_toArray, List.getElem?_cons_zero, List.getElem?_cons_succ, Option.toList_some, List.map_cons, List.map_nil, List.cons_append, List.nil_append]
        try simp -dsimp only [↓RE,↓c_seq,RU,RL,if_true,if_false,forall_const,implies_true,Nat.reduceLeDiff,Nat.reduceLT,pureOp,binPure,intBin,strBin,eqPure,isConstO,unPure,sliceLo,sliceHi,slicePure,slice3Pure,lenPure,capPure,minPure,maxPure,buildP,resK,endV,yieldE,↓reduceIte,Nat.reduceEqDiff,reduceCtorEq,Nat.reduceAdd,Nat.reduceMul,Nat.reduceSub,Int.reduceLT,Int.reduceLE,Int.reduceToNat,Int.reduceAdd,Int.reduceSub,Int.reduceMul,ne_eq,decide_true,decide_false,tf7, he0, he1, dn, dm, undef]
        refine ⟨Grow.drew w2, ?_⟩
        try simp -dsimp only [↓RE,↓c_seq,RU,RL,if_true,if_false,forall_const,implies_true,Nat.reduceLeDiff,Nat.reduceLT,pureOp,binPure,intBin,strBin,eqPure,isConstO,unPure,sliceLo,sliceHi,slicePure,slice3Pure,lenPure,capPure,minPure,maxPure,buildP,resK,endV,yieldE,↓reduceIte,Nat.reduceEqDiff,reduceCtorEq,Nat.reduceAdd,Nat.reduceMul,Nat.reduceSub,Int.reduceLT,Int.reduceLE,Int.reduceToNat,Int.reduceAdd,Int.reduceSub,Int.reduceMul,ne_eq,decide_true,decide_false,tf7, he0, he1, dn, dm, undef]
        refine ⟨Grow.drew w2, ?_⟩
        try simp -dsimp only [↓RE,↓c_seq,RU,RL,if_true,if_false,forall_const,implies_true,Nat.reduceLeDiff,Nat.reduceLT,pureOp,binPure,intBin,strBin,eqPure,isConstO,unPure,sliceLo,sliceHi,slicePure,slice3Pure,lenPure,capPure,minPure,maxPure,buildP,resK,endV,yieldE,↓reduceIte,Nat.reduceEqDiff,reduceCtorEq,Nat.reduceAdd,Nat.reduceMul,Nat.reduceSub,Int.reduceLT,Int.reduceLE,Int.reduceToNat,Int.reduceAdd,Int.reduceSub,Int.reduceMul,ne_eq,decide_true,decide_false,tf7, he0, he1, dn, dm, undef]
        refine hold_intro ⟨Grow.drew w2, ?_, ?_, ?_, ?_⟩
        · simp -dsimp only [↓RE,RU,RL,if_true,if_false,↓reduceIte,Nat.reduceEqDiff,reduceCtorEq,decide_true,decide_false, he0]
        · simp -dsimp only [↓RE,RU,RL,if_true,if_false,↓reduceIte,Nat.reduceEqDiff,reduceCtorEq,decide_true,decide_false, he1]
        · simp -dsimp only [↓RE,RU,RL,if_true,if_false,↓reduceIte,Nat.reduceEqDiff,reduceCtorEq,decide_true,decide_false, he0]
        · simp -dsimp only [↓RE,RU,RL,if_true,if_false,↓reduceIte,Nat.reduceEqDiff,reduceCtorEq,decide_true,decide_false, he0]
    · have dn : decide ((0 : Int) < (n : Int)) = false := decide_eq_false (by omega)
      rw [c_seq]
      simp -dsimp only [↓RE,RU,RL,if_true,if_false,forall_const,implies_true,Nat.reduceLeDiff,Nat.reduceLT,pureOp,binPure,intBin,strBin,eqPure,isConstO,unPure,sliceLo,sliceHi,slicePure,slice3Pure,lenPure,capPure,minPure,maxPure,buildP,resK,endV,yieldE,↓reduceIte,Nat.reduceEqDiff,reduceCtorEq,Nat.reduceAdd,Nat.reduceMul,Nat.reduceSub,Int.reduceLT,Int.reduceLE,Int.reduceToNat,Int.reduceAdd,Int.reduceSub,Int.reduceMul,ne_eq,decide_true,decide_false,tf7, he0, he1]
      refine wpDraw_by (Grow w2 ·) [(0, true), (1, true), (2, true), (3, true), (4, true), (5, true), (6, true), (7, true), (8, true), (9, true), (10, true), (11, true), (12, true), (13, true), (14, true), (16, true), (17, true), (18, true), (19, true), (20, true), (21, true), (15, false), (22, false), (23, true), (24, true)] (by kernel_rfl) (Grow.drew w2) ?_
      simp only [planL, List.getElem?_toArray, List.getElem?_cons_zero, List.getElem?_cons_succ, Option.toList_some, List.map_cons, List.map_nil, List.cons_append, List.nil_append]
      try simp -dsimp only [↓RE,↓c_seq,RU,RL,if_true,if_false,forall_const,implies_true,Nat.reduceLeDiff,Nat.reduceLT,pureOp,binPure,intBin,strBin,eqPure,isConstO,unPure,sliceLo,sliceHi,slicePure,slice3Pure,lenPure,capPure,minPure,maxPure,buildP,resK,endV,yieldE,↓reduceIte,Nat.reduceEqDiff,reduceCtorEq,Nat.reduceAdd,Nat.reduceMul,Nat.reduceSub,Int.reduceLT,Int.reduceLE,Int.reduceToNat,Int.reduceAdd,Int.reduceSub,Int.reduceMul,ne_eq,decide_true,decide_false,tf7, he0, he1, dn, undef]
      refine ⟨Grow.drew w2, ?_⟩
      try simp -dsimp only [↓RE,↓c_seq,RU,RL,if_true,if_false,forall_const,implies_true,Nat.reduceLeDiff,Nat.reduceLT,pureOp,binPure,intBin,strBin,eqPure,isConstO,unPure,sliceLo,sliceHi,slicePure,slice3Pure,lenPure,capPure,minPure,maxPure,buildP,resK,endV,yieldE,↓reduceIte,Nat.reduceEqDiff,reduceCtorEq,Nat.reduceAdd,Nat.reduceMul,Nat.reduceSub,Int.reduceLT,Int.reduceLE,Int.reduceToNat,Int.reduceAdd,Int.reduceSub,Int.reduceMul,ne_eq,decide_true,decide_false,tf7, he0, he1, dn, undef]
      refine ⟨Grow.drew w2, ?_⟩
      try simp -dsimp only [↓RE,↓c_seq,RU,RL,if_true,if_false,forall_const,implies_true,Nat.reduceLeDiff,Nat.reduceLT,pureOp,binPure,intBin,strBin,eqPure,isConstO,unPure,sliceLo,sliceHi,slicePure,slice3Pure,lenPure,capPure,minPure,maxPure,buildP,resK,endV,yieldE,↓reduceIte,Nat.reduceEqDiff,reduceCtorEq,Nat.reduceAdd,Nat.reduceMul,Nat.reduceSub,Int.reduceLT,Int.reduceLE,Int.reduceToNat,Int.reduceAdd,Int.reduceSub,Int.reduceMul,ne_eq,decide_true,decide_false,tf7, he0, he1, dn, undef]
      refine hold_intro ⟨Grow.drew w2, ?_, ?_, ?_, ?_⟩
      · simp -dsimp only [↓RE,RU,RL,if_true,if_false,↓reduceIte,Nat.reduceEqDiff,reduceCtorEq,decide_true,decide_false, he0]
      · simp -dsimp only [↓RE,RU,RL,if_true,if_false,↓reduceIte,Nat.reduceEqDiff,reduceCtorEq,decide_true,decide_false, he1]
      · simp -dsimp only [↓RE,RU,RL,if_true,if_false,↓reduceIte,Nat.reduceEqDiff,reduceCtorEq,decide_true,decide_false, he0]
      · simp -dsimp only [↓RE,RU,RL,if_true,if_false,↓reduceIte,Nat.reduceEqDiff,reduceCtorEq,decide_true,decide_false, he0]
  clear he0 he1 e
  rintro e w3 ⟨g3, he0, he1, he5, he6⟩
  have g03 := g02.trans g3
  repeat (first | rw [c_seq] | simp -dsimp only [↓RE,RU,RL,if_true,if_false,forall_const,implies_true,Nat.reduceLeDiff,Nat.reduceLT,pureOp,binPure,intBin,strBin,eqPure,isConstO,unPure,sliceLo,sliceHi,slicePure,slice3Pure,lenPure,capPure,minPure,maxPure,buildP,resK,endV,yieldE,↓reduceIte,Nat.reduceEqDiff,reduceCtorEq,Nat.reduceAdd,Nat.reduceMul,Nat.reduceSub,Int.reduceLT,Int.reduceLE,Int.reduceToNat,Int.reduceAdd,Int.reduceSub,Int.reduceMul,ne_eq,decide_true,decide_false,tf7, he0, he1])
  refine live7_ok (hL.grow g03) (hT.grow g03) (fun w4 g4 => ?_)
  have g24 := g3.trans g4
  have g04 := g02.trans g24
  have hP1 := hD1.grow g24
  have hP2 := hD2.grow g24
  repeat (first | rw [c_seq] | simp -dsimp only [↓RE,RU,RL,if_true,if_false,forall_const,implies_true,Nat.reduceLeDiff,Nat.reduceLT,pureOp,binPure,intBin,strBin,eqPure,isConstO,unPure,sliceLo,sliceHi,slicePure,slice3Pure,lenPure,capPure,minPure,maxPure,buildP,resK,endV,yieldE,↓reduceIte,Nat.reduceEqDiff,reduceCtorEq,Nat.reduceAdd,Nat.reduceMul,Nat.reduceSub,Int.reduceLT,Int.reduceLE,Int.reduceToNat,Int.reduceAdd,Int.reduceSub,Int.reduceMul,ne_eq,decide_true,decide_false,tf7, he0, he1, he5, he6])
  refine order_ok hP1.rd hP1.ok (by omega) (fun w5 v5 D5 hD5 g5 => ?_)
  have g05 := g04.trans g5
  have hl5 := wOrd_len (D1.map WrV.wr)
  rw [← hD5.eq, List.length_map, List.length_map, hD1.len] at hl5
  repeat (first | rw [c_seq] | simp -dsimp only [↓RE,RU,RL,if_true,if_false,forall_const,implies_true,Nat.reduceLeDiff,Nat.reduceLT,pureOp,binPure,intBin,strBin,eqPure,isConstO,unPure,sliceLo,sliceHi,slicePure,slice3Pure,lenPure,capPure,minPure,maxPure,buildP,resK,endV,yieldE,↓reduceIte,Nat.reduceEqDiff,reduceCtorEq,Nat.reduceAdd,Nat.reduceMul,Nat.reduceSub,Int.reduceLT,Int.reduceLE,Int.reduceToNat,Int.reduceAdd,Int.reduceSub,Int.reduceMul,ne_eq,decide_true,decide_false,tf7, he0, he1, he5, he6])
  refine rorder_ok _ (hX.grow g05) (upw hoX g05) (by omega) hc (fun w6 v6 D6 hD6 g6 => ?_)
  have g06 := g05.trans g6
  have hD5 := hD5.grow g6
  have hl6 := wOrd_len (X.map WrV.wr)
  rw [← hD6.eq, List.length_map, List.length_map] at hl6
  obtain ⟨A5, c5, rfl, _, _⟩ := hD5.row.form
  obtain ⟨A6, c6, rfl, _, _⟩ := hD6.row.form
  repeat (first | rw [c_seq] | simp -dsimp only [↓RE,RU,RL,if_true,if_false,forall_const,implies_true,Nat.reduceLeDiff,Nat.reduceLT,pureOp,binPure,intBin,strBin,eqPure,isConstO,unPure,sliceLo,sliceHi,slicePure,slice3Pure,lenPure,capPure,minPure,maxPure,buildP,resK,endV,yieldE,↓reduceIte,Nat.reduceEqDiff,reduceCtorEq,Nat.reduceAdd,Nat.reduceMul,Nat.reduceSub,Int.reduceLT,Int.reduceLE,Int.reduceToNat,Int.reduceAdd,Int.reduceSub,Int.reduceMul,ne_eq,decide_true,decide_false,tf7, he0, he1, he5, he6])
  refine samew_ok hD5.row.rd hD6.row.rd (fun x hx => (hD5.ok x hx).1) hD6.ok (by omega) (by omega) (fun w7 g7 => ?_)
  have e56 : D5.map WrV.wr = D6.map WrV.wr := by rw [hD5.eq, hD6.eq, hr1]
  rw [e56, decide_eq_true rfl]
  have g07 := g06.trans g7
  have g47 := (g5.trans g6).trans g7
  have hQ1 := hP1.grow g47
  have hQ2 := hP2.grow g47
  repeat (first | rw [c_seq] | simp -dsimp only [↓RE,RU,RL,if_true,if_false,forall_const,implies_true,Nat.reduceLeDiff,Nat.reduceLT,pureOp,binPure,intBin,strBin,eqPure,isConstO,unPure,sliceLo,sliceHi,slicePure,slice3Pure,lenPure,capPure,minPure,maxPure,buildP,resK,endV,yieldE,↓reduceIte,Nat.reduceEqDiff,reduceCtorEq,Nat.reduceAdd,Nat.reduceMul,Nat.reduceSub,Int.reduceLT,Int.reduceLE,Int.reduceToNat,Int.reduceAdd,Int.reduceSub,Int.reduceMul,ne_eq,decide_true,decide_false,tf7, he0, he1, he5, he6])
  refine merge_ok hQ1.rd hQ2.rd hQ1.ok hQ2.ok (by omega) (fun w8 v8 D8 hD8 g8 => ?_)
  have g08 := g07.trans g8
  have hl8 := wOrd_len (D1.map WrV.wr ++ D2.map WrV.wr)
  rw [← hD8.eq, List.length_append, List.length_map, List.length_map, List.length_map, hD1.len, hD2.len] at hl8
  repeat (first | rw [c_seq] | simp -dsimp only [↓RE,RU,RL,if_true,if_false,forall_const,implies_true,Nat.reduceLeDiff,Nat.reduceLT,pureOp,binPure,intBin,strBin,eqPure,isConstO,unPure,sliceLo,sliceHi,slicePure,slice3Pure,lenPure,capPure,minPure,maxPure,buildP,resK,endV,yieldE,↓reduceIte,Nat.reduceEqDiff,reduceCtorEq,Nat.reduceAdd,Nat.reduceMul,Nat.reduceSub,Int.reduceLT,Int.reduceLE,Int.reduceToNat,Int.reduceAdd,Int.reduceSub,Int.reduceMul,ne_eq,decide_true,decide_false,tf7, he0, he1, he5, he6])
  refine rmerge_ok (hX.grow g08) (hY.grow g08) (upw hoX g08) (upw hoY g08) (by omega) hc hd (fun w9 v9 D9 hD9 g9 => ?_)
  have g09 := g08.trans g9
  have hD8 := hD8.grow g9
  have hl9 := wOrd_len (X.map WrV.wr ++ Y.map WrV.wr)
  rw [← hD9.eq, List.length_append, List.length_map, List.length_map, List.length_map] at hl9
  obtain ⟨A8, c8, rfl, _, _⟩ := hD8.row.form
  obtain ⟨A9, c9, rfl, _, _⟩ := hD9.row.form
  repeat (first | rw [c_seq] | simp -dsimp only [↓RE,RU,RL,if_true,if_false,forall_const,implies_true,Nat.reduceLeDiff,Nat.reduceLT,pureOp,binPure,intBin,strBin,eqPure,isConstO,unPure,sliceLo,sliceHi,slicePure,slice3Pure,lenPure,capPure,minPure,maxPure,buildP,resK,endV,yieldE,↓reduceIte,Nat.reduceEqDiff,reduceCtorEq,Nat.reduceAdd,Nat.reduceMul,Nat.reduceSub,Int.reduceLT,Int.reduceLE,Int.reduceToNat,Int.reduceAdd,Int.reduceSub,Int.reduceMul,ne_eq,decide_true,decide_false,tf7, he0, he1, he5, he6])
  refine samew_ok hD8.row.rd hD9.row.rd (fun x hx => (hD8.ok x hx).1) hD9.ok (by omega) (by omega) (fun w10 g10 => ?_)
  have e89 : D8.map WrV.wr = D9.map WrV.wr := by rw [hD8.eq, hD9.eq, hr1, hr2]
  rw [e89, decide_eq_true rfl]
  have g010 := g09.trans g10
  have g710 := (g8.trans g9).trans g10
  have hU1 := hQ1.grow g710
  have hU2 := hQ2.grow g710
  repeat (first | rw [c_seq] | simp -dsimp only [↓RE,RU,RL,if_true,if_false,forall_const,implies_true,Nat.reduceLeDiff,Nat.reduceLT,pureOp,binPure,intBin,strBin,eqPure,isConstO,unPure,sliceLo,sliceHi,slicePure,slice3Pure,lenPure,capPure,minPure,maxPure,buildP,resK,endV,yieldE,↓reduceIte,Nat.reduceEqDiff,reduceCtorEq,Nat.reduceAdd,Nat.reduceMul,Nat.reduceSub,Int.reduceLT,Int.reduceLE,Int.reduceToNat,Int.reduceAdd,Int.reduceSub,Int.reduceMul,ne_eq,decide_true,decide_false,tf7, he0, he1, he5, he6])
  refine kept_ok hU1 (hX.grow g010) (upw hoX g010) hr1 (by omega) (fun w11 g11 => ?_)
  have g011 := g010.trans g11
  repeat (first | rw [c_seq] | simp -dsimp only [↓RE,RU,RL,if_true,if_false,forall_const,implies_true,Nat.reduceLeDiff,Nat.reduceLT,pureOp,binPure,intBin,strBin,eqPure,isConstO,unPure,sliceLo,sliceHi,slicePure,slice3Pure,lenPure,capPure,minPure,maxPure,buildP,resK,endV,yieldE,↓reduceIte,Nat.reduceEqDiff,reduceCtorEq,Nat.reduceAdd,Nat.reduceMul,Nat.reduceSub,Int.reduceLT,Int.reduceLE,Int.reduceToNat,Int.reduceAdd,Int.reduceSub,Int.reduceMul,ne_eq,decide_true,decide_false,tf7, he0, he1, he5, he6])
  refine kept_ok (hU2.grow g11) (hY.grow g011) (upw hoY g011) hr2 (by omega) (fun w12 g12 => ?_)
  repeat (first | rw [c_seq] | simp -dsimp only [↓RE,RU,RL,if_true,if_false,forall_const,implies_true,Nat.reduceLeDiff,Nat.reduceLT,pureOp,binPure,intBin,strBin,eqPure,isConstO,unPure,sliceLo,sliceHi,slicePure,slice3Pure,lenPure,capPure,minPure,maxPure,buildP,resK,endV,yieldE,↓reduceIte,Nat.reduceEqDiff,reduceCtorEq,Nat.reduceAdd,Nat.reduceMul,Nat.reduceSub,Int.reduceLT,Int.reduceLE,Int.reduceToNat,Int.reduceAdd,Int.reduceSub,Int.reduceMul,ne_eq,decide_true,decide_false,tf7, he0, he1, he5, he6])
  exact h w12 (g011.trans g12)

end Go.Proofs.YtljgnocpijniiaaGreatDoor
