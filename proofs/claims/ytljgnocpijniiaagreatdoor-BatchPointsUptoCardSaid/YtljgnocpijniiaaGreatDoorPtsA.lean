/- bare, the two functions within Points; slices.IndexFunc, slices.DeleteFunc at writes. -/
import Derived.Test.YtljgnocpijniiaaGreatDoorPtsS
import Derived.Test.YtljgnocpijniiaaGreatDoorOrdWO
import Derived.Test.YtljgnocpijniiaaGreatDoorMrgR
set_option linter.unusedVariables false
set_option linter.unusedSimpArgs false
set_option maxRecDepth 100000
namespace Go.Proofs.YtljgnocpijniiaaGreatDoor
open Go

def SerV.bare (v : SerV) : SerV := ⟨bareS v.s, v.A, v.n, v.c⟩
theorem SerV.Ok.bare {w : World} {v : SerV} (h : v.Ok w) : v.bare.Ok w := h
theorem bare_ok {w : World} {v : SerV} {R : VWK} (h : ∀ w', Grow w w' → R (.agg v.bare.cells.toArray) w') : CallsV Tryz.prog 66 [.agg v.cells.toArray] w R := by
  obtain ⟨⟨m, tags, f⟩, A, n, c⟩ := v
  refine calls_of_wpC mixed Tryz.func66 rfl (by kernel_rfl) ?_
  intro e he
  have he0 := he 0
  simp only [List.getD_cons_zero, List.getD_cons_succ] at he0
  clear he
  rw [c_seq]
  simp -dsimp only [↓RE,RU,RL,Nat.reduceLeDiff,Nat.reduceLT,pureOp,buildP,resK,endV,↓reduceIte,Nat.reduceEqDiff,reduceCtorEq,Nat.reduceAdd,Nat.reduceMul,Int.reduceLT,Int.reduceLE,Int.reduceToNat,decide_true,decide_false,tf66, he0, SerV.cells]
  refine c_gen2 (fun e' w' => ∃ b z, e' 1 = .pointer (some ⟨b, 0, none⟩) ∧ e' 2 = .pointer (some ⟨z, 0, none⟩) ∧ Blk w' b 53 [.string m, .slice A n c, .string f] ∧ Blk w' z 53 [.string .empty, .slice none 0 0, .string .empty] ∧ Grow w w' ∧ w.heap.size ≤ z)
    ⟨w.heap.size, _, ?_, ?_, (two_new w _ _ #[.string m, .slice A n c, .string f] #[.string .empty, .slice none 0 0, .string .empty]).1, (two_new w 53 _ #[.string m, .slice A n c, .string f] #[.string .empty, .slice none 0 0, .string .empty]).2.1, (two_new w 53 53 #[.string m, .slice A n c, .string f] #[.string .empty, .slice none 0 0, .string .empty]).2.2, by simp⟩ ?_
  · simp -dsimp only [↓RE,RU,RL,↓reduceIte,Nat.reduceEqDiff,reduceCtorEq,decide_true,decide_false, he0]
  · simp -dsimp only [↓RE,RU,RL,↓reduceIte,Nat.reduceEqDiff,reduceCtorEq,decide_true,decide_false, he0]
  clear he0 e
  rintro e w1 ⟨b, z, he1, he2, hb, hz, g1, hzw⟩
  have b0 : w1.cell? ⟨b, 0, none⟩ = some (.string m) := (hb.cell 0).trans rfl
  have b1 : w1.cell? ⟨b, 1, none⟩ = some (.slice A n c) := (hb.cell 1).trans rfl
  repeat (first | rw [c_seq] | simp -dsimp only [↓RE,RU,RL,Nat.reduceLeDiff,Nat.reduceLT,pureOp,buildP,resK,endV,↓reduceIte,Nat.reduceEqDiff,reduceCtorEq,Nat.reduceAdd,Nat.reduceMul,Int.reduceLT,Int.reduceLE,Int.reduceToNat,decide_true,decide_false,tf66, he1, he2, b0, b1, add_lit', Nat.zero_add])
  refine blk_st3 hz rfl rfl rfl (fun w2 hb2 k2 => ?_)
  have g2 : Grow w w2 := g1.above k2 (fun q hq e => by omega)
  repeat (first | rw [c_seq] | simp -dsimp only [↓RE,RU,RL,Nat.reduceLeDiff,Nat.reduceLT,pureOp,buildP,resK,endV,↓reduceIte,Nat.reduceEqDiff,reduceCtorEq,Nat.reduceAdd,Nat.reduceMul,Int.reduceLT,Int.reduceLE,Int.reduceToNat,decide_true,decide_false,tf66, he2])
  refine hb2.aggK (by simp) ?_
  exact h w2 g2
theorem pts1_ok {w : World} {v : WrV} {R : VWK} (h : ∀ w', Grow w w' → R (.bool (!k0 v.wr)) w') : CallsV Tryz.prog 62 [.agg v.cells.toArray] w R := by
  have hb := Blk.new' w 60 v.cells.toArray
  have g := Grow.alloc w (.cells v.cells.toArray 60)
  have b4 : (w.alloc (.cells v.cells.toArray 60)).cell? ⟨w.heap.size, 4, none⟩ = some (.int .u8 v.x.2.1) := (hb.cell 4).trans rfl
  refine calls_of_wpC mixed Tryz.func62 rfl (by kernel_rfl) ?_
  intro e he
  have he0 := he 0
  simp only [List.getD_cons_zero, List.getD_cons_succ] at he0
  clear he
  repeat (first | rw [c_seq] | simp -dsimp only [↓RE,RU,RL,Nat.reduceLeDiff,Nat.reduceLT,pureOp,binPure,intBin,strBin,eqPure,isConstO,resK,endV,↓reduceIte,Nat.reduceEqDiff,reduceCtorEq,Nat.reduceAdd,Nat.reduceMul,Int.reduceLT,Int.reduceLE,Int.reduceToNat,Int.reduceAdd,ne_eq,decide_true,decide_false,tf62, he0, b4, add_lit', Nat.zero_add])
  exact h _ g
def cmpBV (a b : WrV) : Int := cmpB a.wr b.wr
theorem cmpBV_cmp : Cmp cmpBV := cmpB_cmp.pull WrV.wr
set_option maxHeartbeats 1000000 in
theorem pts2_ok {w : World} {a b : WrV} (ha : a.Ok w) (hb : b.Ok w) {R : VWK} (h : ∀ w', Grow w w' → R (.int .i64 (cmpBV a b)) w') : CallsV Tryz.prog 65 [.agg a.cells.toArray, .agg b.cells.toArray] w R := by
  refine calls_of_wpC mixed Tryz.func65 rfl (by kernel_rfl) ?_
  intro e he
  have he0 := he 0
  have he1 := he 1
  simp only [List.getD_cons_zero, List.getD_cons_succ] at he0 he1
  clear he
  rw [c_seq]
  simp -dsimp only [↓RE,RU,RL,Nat.reduceLeDiff,Nat.reduceLT,pureOp,resK,endV,↓reduceIte,Nat.reduceEqDiff,reduceCtorEq,Nat.reduceAdd,Nat.reduceMul,Int.reduceLT,Int.reduceLE,Int.reduceToNat,decide_true,decide_false,tf65, he0, he1]
  refine c_gen2 (fun e' w' => ∃ p q, e' 2 = .pointer (some ⟨p, 0, none⟩) ∧ e' 3 = .pointer (some ⟨q, 0, none⟩) ∧ Blk w' p 60 a.cells ∧ Blk w' q 60 b.cells ∧ Grow w w') ⟨_, _, ?_, ?_, two_new w _ _ a.cells.toArray b.cells.toArray⟩ ?_
  · simp -dsimp only [↓RE,RU,RL,↓reduceIte,Nat.reduceEqDiff,reduceCtorEq,decide_true,decide_false, he0]
  · simp -dsimp only [↓RE,RU,RL,↓reduceIte,Nat.reduceEqDiff,reduceCtorEq,decide_true,decide_false, he0]
  clear he0 he1 e
  rintro e w1 ⟨p, q, he2, he3, hb1, hb2, g1⟩
  have x0 : ∀ w', Grow w1 w' → ∀ (j : Nat) v, a.s.cells[j]? = some v → w'.cell? ((⟨p, 0, none⟩ : Addr).add j) = some v := fun w' g j v hv => by rw [add_lit', Nat.zero_add, (hb1.grow g).cell]; exact a.head hv
  have y0 : ∀ w', Grow w1 w' → ∀ (j : Nat) v, b.s.cells[j]? = some v → w'.cell? ((⟨q, 0, none⟩ : Addr).add j) = some v := fun w' g j v hv => by rw [add_lit', Nat.zero_add, (hb2.grow g).cell]; exact b.head hv
  have x3 : ∀ w', Grow w1 w' → w'.cell? ⟨p, 3, none⟩ = some (.int .i64 a.x.1) := fun w' g => ((hb1.grow g).cell 3).trans rfl
  have y3 : ∀ w', Grow w1 w' → w'.cell? ⟨q, 3, none⟩ = some (.int .i64 b.x.1) := fun w' g => ((hb2.grow g).cell 3).trans rfl
  repeat (first | rw [c_seq] | simp -dsimp only [↓RE,RU,RL,Nat.reduceLeDiff,Nat.reduceLT,pureOp,resK,endV,↓reduceIte,Nat.reduceEqDiff,reduceCtorEq,Nat.reduceAdd,Nat.reduceMul,Int.reduceLT,Int.reduceLE,Int.reduceToNat,decide_true,decide_false,tf65, he2])
  refine wpDraw_by (Grow w1 ·) [(0, true), (1, true), (3, true), (4, true), (7, true), (8, true), (9, true), (10, true), (11, true), (12, true), (2, false), (5, false), (6, false), (13, false), (14, false), (15, false), (16, true)] (by kernel_rfl) (Grow.drew w1) ?_
  simp only [planL, List.getElem?_toArray, List.getElem?_cons_zero, List.getElem?_cons_succ, Option.toList_some, List.map_cons, List.map_nil, List.cons_append, List.nil_append]
  repeat (first | rw [c_seq] | simp -dsimp only [↓RE,RU,RL,Nat.reduceLeDiff,Nat.reduceLT,pureOp,resK,endV,↓reduceIte,Nat.reduceEqDiff,reduceCtorEq,Nat.reduceAdd,Nat.reduceMul,Int.reduceLT,Int.reduceLE,Int.reduceToNat,decide_true,decide_false,tf65, he2, he3, add_lit', Nat.zero_add])
  refine ⟨a.s.cells, rfl, x0, ?_⟩
  repeat (first | rw [c_seq] | simp -dsimp only [↓RE,RU,RL,Nat.reduceLeDiff,Nat.reduceLT,pureOp,resK,endV,↓reduceIte,Nat.reduceEqDiff,reduceCtorEq,Nat.reduceAdd,Nat.reduceMul,Int.reduceLT,Int.reduceLE,Int.reduceToNat,decide_true,decide_false,tf65, he2, he3, add_lit', Nat.zero_add])
  refine ⟨b.s.cells, rfl, y0, ?_⟩
  repeat (first | rw [c_seq] | simp -dsimp only [↓RE,RU,RL,Nat.reduceLeDiff,Nat.reduceLT,pureOp,resK,endV,↓reduceIte,Nat.reduceEqDiff,reduceCtorEq,Nat.reduceAdd,Nat.reduceMul,Int.reduceLT,Int.reduceLE,Int.reduceToNat,decide_true,decide_false,tf65, he2, he3, add_lit', Nat.zero_add, add_zero'])
  refine ⟨_, x3, ?_⟩
  repeat (first | rw [c_seq] | simp -dsimp only [↓RE,RU,RL,Nat.reduceLeDiff,Nat.reduceLT,pureOp,resK,endV,↓reduceIte,Nat.reduceEqDiff,reduceCtorEq,Nat.reduceAdd,Nat.reduceMul,Int.reduceLT,Int.reduceLE,Int.reduceToNat,decide_true,decide_false,tf65, he2, he3, add_lit', Nat.zero_add, add_zero'])
  refine ⟨_, y3, ?_⟩
  repeat (first | rw [c_seq] | simp -dsimp only [↓RE,RU,RL,Nat.reduceLeDiff,Nat.reduceLT,pureOp,resK,endV,↓reduceIte,Nat.reduceEqDiff,reduceCtorEq,Nat.reduceAdd,Nat.reduceMul,Int.reduceLT,Int.reduceLE,Int.reduceToNat,decide_true,decide_false,tf65, he2])
  have gd := Grow.drew w1
  refine bare_ok (fun w2 g2 => ?_)
  have g12 := gd.trans g2
  refine ⟨g12, ?_⟩
  repeat (first | rw [c_seq] | simp -dsimp only [↓RE,RU,RL,Nat.reduceLeDiff,Nat.reduceLT,pureOp,resK,endV,↓reduceIte,Nat.reduceEqDiff,reduceCtorEq,Nat.reduceAdd,Nat.reduceMul,Int.reduceLT,Int.reduceLE,Int.reduceToNat,decide_true,decide_false,tf65, he2])
  refine bare_ok (fun w3 g3 => ?_)
  have g13 := g12.trans g3
  refine ⟨g13, ?_⟩
  repeat (first | rw [c_seq] | simp -dsimp only [↓RE,RU,RL,Nat.reduceLeDiff,Nat.reduceLT,pureOp,resK,endV,↓reduceIte,Nat.reduceEqDiff,reduceCtorEq,Nat.reduceAdd,Nat.reduceMul,Int.reduceLT,Int.reduceLE,Int.reduceToNat,decide_true,decide_false,tf65, he2])
  have gS := g1.trans g13
  refine serc_ok (ha.1.bare.grow gS) (hb.1.bare.grow gS) (fun w4 g4 => ?_)
  have g14 := g13.trans g4
  refine ⟨g14, ?_⟩
  repeat (first | rw [c_seq] | simp -dsimp only [↓RE,RU,RL,Nat.reduceLeDiff,Nat.reduceLT,pureOp,resK,endV,↓reduceIte,Nat.reduceEqDiff,reduceCtorEq,Nat.reduceAdd,Nat.reduceMul,Int.reduceLT,Int.reduceLE,Int.reduceToNat,decide_true,decide_false,tf65, he2])
  refine compare_ok ?_
  refine ⟨g14, ?_⟩
  have g5 := g14.trans (Grow.alloc w4 (.cells #[.int .i64 (cmpSer a.s.bare.s b.s.bare.s), .int .i64 (cmpI a.x.1 b.x.1)] 3))
  have hrow : Rd (w4.alloc (.cells #[.int .i64 (cmpSer a.s.bare.s b.s.bare.s), .int .i64 (cmpI a.x.1 b.x.1)] 3)) (some ⟨w4.heap.size, 0, none⟩) 2 1 ([cmpSer a.s.bare.s b.s.bare.s, cmpI a.x.1 b.x.1].map (Value.int .i64)) := Rd.of_own (own_new w4 3 1 2 #[.int .i64 (cmpSer a.s.bare.s b.s.bare.s), .int .i64 (cmpI a.x.1 b.x.1)] rfl (by simp [maxLen]))
  repeat (first | rw [c_seq] | simp -dsimp only [↓RE,RU,RL,Nat.reduceLeDiff,Nat.reduceLT,pureOp,resK,endV,↓reduceIte,Nat.reduceEqDiff,reduceCtorEq,Nat.reduceAdd,Nat.reduceMul,Int.reduceLT,Int.reduceLE,Int.reduceToNat,decide_true,decide_false,tf65, he2])
  refine ⟨g5, ?_⟩
  repeat (first | rw [c_seq] | simp -dsimp only [↓RE,RU,RL,Nat.reduceLeDiff,Nat.reduceLT,pureOp,resK,endV,↓reduceIte,Nat.reduceEqDiff,reduceCtorEq,Nat.reduceAdd,Nat.reduceMul,Int.reduceLT,Int.reduceLE,Int.reduceToNat,decide_true,decide_false,tf65, he2])
  refine or_ok hrow (by omega) ?_
  rw [orI2]
  refine ⟨g5, ?_⟩
  repeat (first | rw [c_seq] | simp -dsimp only [↓RE,RU,RL,Nat.reduceLeDiff,Nat.reduceLT,pureOp,resK,endV,↓reduceIte,Nat.reduceEqDiff,reduceCtorEq,Nat.reduceAdd,Nat.reduceMul,Int.reduceLT,Int.reduceLE,Int.reduceToNat,decide_true,decide_false,tf65, he2])
  exact h _ (g1.trans g5)
theorem cmpF_pts : CmpF 65 cmpBV := ⟨by kernel_rfl, fun w a b ha hb R h => pts2_ok ha hb h⟩

end Go.Proofs.YtljgnocpijniiaaGreatDoor
