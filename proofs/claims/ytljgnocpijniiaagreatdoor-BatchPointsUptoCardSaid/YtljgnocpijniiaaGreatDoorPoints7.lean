/- The law BatchPoints, walked. -/
import Derived.Test.YtljgnocpijniiaaGreatDoorLives
import Derived.Test.YtljgnocpijniiaaGreatDoorWrites7
import Derived.Test.YtljgnocpijniiaaGreatDoorPtsQ
import Derived.Test.YtljgnocpijniiaaGreatDoorSameP
set_option linter.unusedVariables false
set_option linter.unusedSimpArgs false
set_option maxRecDepth 100000
namespace Go.Proofs.YtljgnocpijniiaaGreatDoor
open Go

theorem pt_few {W : List Wr} {q : Pt} (h : q ∈ pAll W) : q.fields.length ≤ W.length := by
  have h1 := (StrictC.find cmpP_cmp (pAll_strict W)).2 h
  rw [find_pAll] at h1
  have h2 := List.length_filter_le (likeK cmpB (ptK q)) W
  cases hf : W.filter (likeK cmpB (ptK q)) with
  | nil => rw [hf] at h1; cases h1
  | cons x r =>
    rw [hf] at h1 h2
    injection h1 with h1
    rw [← h1]
    simpa using h2
theorem pts_few_w (l : List Wr) : (ptsP l).length ≤ l.length ∧ ∀ q ∈ ptsP l, q.fields.length ≤ l.length := by
  have h1 := List.length_filter_le k0 (wOrd l)
  have h2 := wOrd_len l
  refine ⟨?_, fun q hq => ?_⟩
  · have h3 : ∀ W : List Wr, (pAll W).length ≤ W.length := fun W => by
      refine snoc_rec (p := fun W => (pAll W).length ≤ W.length) (Nat.le_refl _) (fun l x ih => ?_) W
      rw [pAll_snoc, List.length_append]
      have h4 : ∀ G : List Pt, (pIns G x).length ≤ G.length + 1 := fun G => by
        induction G with
        | nil => exact Nat.le_refl _
        | cons p r ih =>
          rw [pIns]
          split
          · simp only [List.length_cons]; omega
          · split <;> simp
      have := h4 (pAll l)
      simp only [List.length_cons, List.length_nil]
      omega
    have := h3 ((wOrd l).filter k0)
    unfold ptsP
    omega
  · have := pt_few hq
    omega
theorem PtsR.rdy {w0 w : World} {v : Value} {D : List PtV} {l : List Wr} (h : PtsR w0 w v D (ptsP l)) (hl : l.length ≤ 1000000000000) : ∀ u ∈ D, PtRd w u := fun u hu => by
  have ho := h.own u hu
  refine ⟨ho.tg.rd, ho.fl.rd, ho.hn, ?_⟩
  have h1 := (pts_few_w l).2 u.p (by rw [← h.eq]; exact List.mem_map_of_mem hu)
  have h2 := ho.fl.rd.flen
  omega
set_option maxHeartbeats 2000000 in
theorem points_walk {w : World} {A : Option Addr} {n c : Nat} {X : List WrV} (hX : RdW w A n X) (hoX : ∀ x ∈ X, x.Ok w ∧ x.s.n ≤ 1048576) (hc : n ≤ c) (hn : n ≤ 1048576) (hL : Lay w) (hT : Tabs w) {R : VWK}
    (h : ∀ w', Grow w w' → R (.bool true) w') : CallsV Tryz.prog 10 [.slice A n c] w R := by
  have hXl := hX.wlen
  have hoX : ∀ x ∈ X, x.Ok w := fun x hx => (hoX x hx).1
  have upw : ∀ {l : List WrV} {w w' : World}, (∀ x ∈ l, x.Ok w) → Grow w w' → ∀ x ∈ l, x.Ok w' := fun h g x hx => (h x hx).grow g
  have hfew := pts_few_w (X.map WrV.wr)
  rw [List.length_map] at hfew
  refine calls_of_wpC mixed Tryz.func10 rfl (by kernel_rfl) ?_
  intro e he
  have he0 := he 0
  simp only [List.getD_cons_zero, List.getD_cons_succ] at he0
  clear he
  repeat (first | rw [c_seq] | simp -dsimp only [↓RE,RU,RL,forall_const,implies_true,Nat.reduceLeDiff,Nat.reduceLT,pureOp,resK,endV,yieldE,↓reduceIte,Nat.reduceEqDiff,reduceCtorEq,Nat.reduceAdd,Nat.reduceMul,Int.reduceLT,Int.reduceLE,Int.reduceToNat,decide_true,decide_false,tf10, he0])
  refine writes_ok hX hoX (by omega) (fun w1 A1 c1 D1 hD1 hr1 g1 => ?_)
  repeat (first | rw [c_seq] | simp -dsimp only [↓RE,RU,RL,forall_const,implies_true,Nat.reduceLeDiff,Nat.reduceLT,pureOp,resK,endV,yieldE,↓reduceIte,Nat.reduceEqDiff,reduceCtorEq,Nat.reduceAdd,Nat.reduceMul,Int.reduceLT,Int.reduceLE,Int.reduceToNat,decide_true,decide_false,tf10, he0])
  refine live7_ok (hL.grow g1) (hT.grow g1) (fun w2 g2 => ?_)
  have g02 := g1.trans g2
  have hP1 := hD1.grow g2
  repeat (first | rw [c_seq] | simp -dsimp only [↓RE,RU,RL,forall_const,implies_true,Nat.reduceLeDiff,Nat.reduceLT,pureOp,resK,endV,yieldE,↓reduceIte,Nat.reduceEqDiff,reduceCtorEq,Nat.reduceAdd,Nat.reduceMul,Int.reduceLT,Int.reduceLE,Int.reduceToNat,decide_true,decide_false,tf10, he0])
  refine bpoints_ok hP1.rd hP1.ok (by omega) (fun w3 v3 D3 hD3 g3 => ?_)
  rw [hr1] at hD3
  have g03 := g02.trans g3
  repeat (first | rw [c_seq] | simp -dsimp only [↓RE,RU,RL,forall_const,implies_true,Nat.reduceLeDiff,Nat.reduceLT,pureOp,resK,endV,yieldE,↓reduceIte,Nat.reduceEqDiff,reduceCtorEq,Nat.reduceAdd,Nat.reduceMul,Int.reduceLT,Int.reduceLE,Int.reduceToNat,decide_true,decide_false,tf10, he0])
  refine qpoints_ok (hX.grow g03) (upw hoX g03) (by omega) hc (fun w4 v4 D4 hD4 g4 => ?_)
  have g04 := g03.trans g4
  have hD3 := hD3.grow g4
  have e34 : D3.map PtV.p = D4.map PtV.p := by rw [hD3.eq, hD4.eq]
  have hl34 : D3.length = D4.length := by
    have := congrArg List.length e34
    rwa [List.length_map, List.length_map] at this
  have hl3 : D3.length ≤ X.length := by
    have := congrArg List.length hD3.eq
    rw [List.length_map] at this
    omega
  obtain ⟨A3, c3, rfl, _, _⟩ := hD3.row.form
  obtain ⟨A4, c4, rfl, _, _⟩ := hD4.row.form
  have hr4 := hD4.row.rd
  rw [← hl34] at hr4 ⊢
  repeat (first | rw [c_seq] | simp -dsimp only [↓RE,RU,RL,forall_const,implies_true,Nat.reduceLeDiff,Nat.reduceLT,pureOp,resK,endV,yieldE,↓reduceIte,Nat.reduceEqDiff,reduceCtorEq,Nat.reduceAdd,Nat.reduceMul,Int.reduceLT,Int.reduceLE,Int.reduceToNat,decide_true,decide_false,tf10, he0])
  refine samepts_ok hD3.row.rd hr4 (hD3.rdy (by rw [List.length_map]; omega)) (hD4.rdy (by rw [List.length_map]; omega)) e34 (by omega) (fun w5 g5 => ?_)
  have g05 := g04.trans g5
  repeat (first | rw [c_seq] | simp -dsimp only [↓RE,RU,RL,forall_const,implies_true,Nat.reduceLeDiff,Nat.reduceLT,pureOp,resK,endV,yieldE,↓reduceIte,Nat.reduceEqDiff,reduceCtorEq,Nat.reduceAdd,Nat.reduceMul,Int.reduceLT,Int.reduceLE,Int.reduceToNat,decide_true,decide_false,tf10, he0])
  refine kept_ok (hP1.grow ((g3.trans g4).trans g5)) (hX.grow g05) (upw hoX g05) hr1 (by omega) (fun w6 g6 => ?_)
  repeat (first | rw [c_seq] | simp -dsimp only [↓RE,RU,RL,forall_const,implies_true,Nat.reduceLeDiff,Nat.reduceLT,pureOp,resK,endV,yieldE,↓reduceIte,Nat.reduceEqDiff,reduceCtorEq,Nat.reduceAdd,Nat.reduceMul,Int.reduceLT,Int.reduceLE,Int.reduceToNat,decide_true,decide_false,tf10, he0])
  exact h w6 (g05.trans g6)

end Go.Proofs.YtljgnocpijniiaaGreatDoor
