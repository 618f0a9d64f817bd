/- Series and writes in order: key.Compare, batch.Compare, and the document's. -/
import Derived.Test.YtljgnocpijniiaaGreatDoorTagL
import Derived.Test.YtljgnocpijniiaaGreatDoorCmpI
import Derived.Test.YtljgnocpijniiaaGreatDoorSmpS
set_option linter.unusedVariables false
set_option linter.unusedSimpArgs false
set_option maxRecDepth 100000
namespace Go.Proofs.YtljgnocpijniiaaGreatDoor
open Go

structure Ser where
  m : ByteArray
  tags : List Tg
  f : ByteArray
def cmpSer (a b : Ser) : Int := if (if cmpS a.m b.m = 0 then cmpTs a.tags b.tags else cmpS a.m b.m) = 0 then cmpS a.f b.f else (if cmpS a.m b.m = 0 then cmpTs a.tags b.tags else cmpS a.m b.m)
theorem cmpSer_cmp : Cmp cmpSer := ((cmpS_cmp.pull Ser.m).or (cmpTs_cmp.pull Ser.tags)).or (cmpS_cmp.pull Ser.f)
theorem cmpSer_eq (a b : Ser) : cmpSer a b = 0 ↔ a = b := by
  unfold cmpSer
  obtain ⟨a1, a2, a3⟩ := a
  obtain ⟨b1, b2, b3⟩ := b
  simp only [Ser.mk.injEq]
  rw [← cmpS_eq a1 b1, ← cmpTs_eq a2 b2, ← cmpS_eq a3 b3]
  by_cases h : cmpS a1 b1 = 0 <;> by_cases h2 : cmpTs a2 b2 = 0 <;> simp [h, h2]
/-- a series as it lies: with its row of tags. -/
structure SerV where
  s : Ser
  A : Option Addr
  n : Nat
  c : Nat
def SerV.cells (v : SerV) : List Value := [.string v.s.m, .slice v.A v.n v.c, .string v.s.f]
def SerV.Ok (w : World) (v : SerV) : Prop := RdT w v.A v.n v.s.tags ∧ v.n ≤ 1000000000000
theorem SerV.Ok.grow {w w' : World} {v : SerV} (h : v.Ok w) (g : Grow w w') : v.Ok w' := ⟨h.1.grow g, h.2⟩
theorem serc_ok {w : World} {a b : SerV} (ha : a.Ok w) (hb : b.Ok w) {R : VWK} (h : ∀ w', Grow w w' → R (.int .i64 (cmpSer a.s b.s)) w') : CallsV Tryz.prog 54 [.agg a.cells.toArray, .agg b.cells.toArray] w R := by
  obtain ⟨⟨am, at', af⟩, A, n, c⟩ := a
  obtain ⟨⟨bm, bt, bf⟩, B, m, d⟩ := b
  simp only [SerV.cells]
  obtain ⟨ha, hn⟩ := ha
  obtain ⟨hb, hm⟩ := hb
  simp only at ha hn hb hm h
  refine calls_of_wpC mixed Tryz.func54 rfl (by kernel_rfl) ?_
  intro e he
  have he0 := he 0
  have he1 := he 1
  simp only [List.getD_cons_zero, List.getD_cons_succ] at he0 he1
  clear he
  rw [c_seq]
  simp -dsimp only [↓RE,RU,RL,Nat.reduceLeDiff,Nat.reduceLT,pureOp,resK,endV,↓reduceIte,Nat.reduceEqDiff,reduceCtorEq,Nat.reduceAdd,Nat.reduceMul,Int.reduceLT,Int.reduceLE,Int.reduceToNat,decide_true,decide_false,tf54, he0, he1]
  refine c_gen2 (fun e' w' => ∃ p q, e' 2 = .pointer (some ⟨p, 0, none⟩) ∧ e' 3 = .pointer (some ⟨q, 0, none⟩) ∧ Blk w' p 53 [.string am, .slice A n c, .string af] ∧ Blk w' q 53 [.string bm, .slice B m d, .string bf] ∧ Grow w w') ⟨_, _, ?_, ?_, two_new w _ _ #[.string am, .slice A n c, .string af] #[.string bm, .slice B m d, .string bf]⟩ ?_
  · simp -dsimp only [↓RE,RU,RL,↓reduceIte,Nat.reduceEqDiff,reduceCtorEq,decide_true,decide_false, he0]
  · simp -dsimp only [↓RE,RU,RL,↓reduceIte,Nat.reduceEqDiff,reduceCtorEq,decide_true,decide_false, he0]
  clear he0 he1 e
  rintro e w1 ⟨p, q, he2, he3, hb1, hb2, g1⟩
  have x0 : ∀ w', Grow w1 w' → w'.cell? ⟨p, 0, none⟩ = some (.string am) := fun w' g => ((hb1.grow g).cell 0).trans rfl
  have x1 : ∀ w', Grow w1 w' → w'.cell? ⟨p, 1, none⟩ = some (.slice A n c) := fun w' g => ((hb1.grow g).cell 1).trans rfl
  have x2 : ∀ w', Grow w1 w' → w'.cell? ⟨p, 2, none⟩ = some (.string af) := fun w' g => ((hb1.grow g).cell 2).trans rfl
  have y0 : ∀ w', Grow w1 w' → w'.cell? ⟨q, 0, none⟩ = some (.string bm) := fun w' g => ((hb2.grow g).cell 0).trans rfl
  have y1 : ∀ w', Grow w1 w' → w'.cell? ⟨q, 1, none⟩ = some (.slice B m d) := fun w' g => ((hb2.grow g).cell 1).trans rfl
  have y2 : ∀ w', Grow w1 w' → w'.cell? ⟨q, 2, none⟩ = some (.string bf) := fun w' g => ((hb2.grow g).cell 2).trans rfl
  repeat (first | rw [c_seq] | simp -dsimp only [↓RE,RU,RL,Nat.reduceLeDiff,Nat.reduceLT,pureOp,resK,endV,↓reduceIte,Nat.reduceEqDiff,reduceCtorEq,Nat.reduceAdd,Nat.reduceMul,Int.reduceLT,Int.reduceLE,Int.reduceToNat,decide_true,decide_false,tf54, he2])
  refine wpDraw_by (Grow w1 ·) [(0, true), (1, true), (2, true), (3, true), (5, true), (6, true), (7, true), (8, true), (9, true), (11, true), (12, true), (13, true), (14, true), (4, false), (10, false), (15, false), (16, false), (17, false), (18, true)] (by kernel_rfl) (Grow.drew w1) ?_
  simp only [planL, List.getElem?_toArray, List.getElem?_cons_zero, List.getElem?_cons_succ, Option.toList_some, List.map_cons, List.map_nil, List.cons_append, List.nil_append]
  repeat (first | rw [c_seq] | simp -dsimp only [↓RE,RU,RL,Nat.reduceLeDiff,Nat.reduceLT,pureOp,resK,endV,↓reduceIte,Nat.reduceEqDiff,reduceCtorEq,Nat.reduceAdd,Nat.reduceMul,Int.reduceLT,Int.reduceLE,Int.reduceToNat,decide_true,decide_false,tf54, he2, he3, add_lit', Nat.zero_add])
  refine ⟨_, x0, ?_⟩
  repeat (first | rw [c_seq] | simp -dsimp only [↓RE,RU,RL,Nat.reduceLeDiff,Nat.reduceLT,pureOp,resK,endV,↓reduceIte,Nat.reduceEqDiff,reduceCtorEq,Nat.reduceAdd,Nat.reduceMul,Int.reduceLT,Int.reduceLE,Int.reduceToNat,decide_true,decide_false,tf54, he2, he3, add_lit', Nat.zero_add])
  refine ⟨_, y0, ?_⟩
  repeat (first | rw [c_seq] | simp -dsimp only [↓RE,RU,RL,Nat.reduceLeDiff,Nat.reduceLT,pureOp,resK,endV,↓reduceIte,Nat.reduceEqDiff,reduceCtorEq,Nat.reduceAdd,Nat.reduceMul,Int.reduceLT,Int.reduceLE,Int.reduceToNat,decide_true,decide_false,tf54, he2, he3, add_lit', Nat.zero_add])
  refine ⟨_, x1, ?_⟩
  repeat (first | rw [c_seq] | simp -dsimp only [↓RE,RU,RL,Nat.reduceLeDiff,Nat.reduceLT,pureOp,resK,endV,↓reduceIte,Nat.reduceEqDiff,reduceCtorEq,Nat.reduceAdd,Nat.reduceMul,Int.reduceLT,Int.reduceLE,Int.reduceToNat,decide_true,decide_false,tf54, he2, he3, add_lit', Nat.zero_add])
  refine ⟨_, y1, ?_⟩
  repeat (first | rw [c_seq] | simp -dsimp only [↓RE,RU,RL,Nat.reduceLeDiff,Nat.reduceLT,pureOp,resK,endV,↓reduceIte,Nat.reduceEqDiff,reduceCtorEq,Nat.reduceAdd,Nat.reduceMul,Int.reduceLT,Int.reduceLE,Int.reduceToNat,decide_true,decide_false,tf54, he2, he3, add_lit', Nat.zero_add])
  refine ⟨_, x2, ?_⟩
  repeat (first | rw [c_seq] | simp -dsimp only [↓RE,RU,RL,Nat.reduceLeDiff,Nat.reduceLT,pureOp,resK,endV,↓reduceIte,Nat.reduceEqDiff,reduceCtorEq,Nat.reduceAdd,Nat.reduceMul,Int.reduceLT,Int.reduceLE,Int.reduceToNat,decide_true,decide_false,tf54, he2, he3, add_lit', Nat.zero_add])
  refine ⟨_, y2, ?_⟩
  repeat (first | rw [c_seq] | simp -dsimp only [↓RE,RU,RL,Nat.reduceLeDiff,Nat.reduceLT,pureOp,resK,endV,↓reduceIte,Nat.reduceEqDiff,reduceCtorEq,Nat.reduceAdd,Nat.reduceMul,Int.reduceLT,Int.reduceLE,Int.reduceToNat,decide_true,decide_false,tf54, he2])
  refine compareS_ok ?_
  refine ⟨Grow.drew w1, ?_⟩
  repeat (first | rw [c_seq] | simp -dsimp only [↓RE,RU,RL,Nat.reduceLeDiff,Nat.reduceLT,pureOp,resK,endV,↓reduceIte,Nat.reduceEqDiff,reduceCtorEq,Nat.reduceAdd,Nat.reduceMul,Int.reduceLT,Int.reduceLE,Int.reduceToNat,decide_true,decide_false,tf54, he2])
  have gd := g1.trans (Grow.drew w1)
  refine cfunc_ok (ha.grow gd) (hb.grow gd) (by omega) (by omega) (fun w3 g3 => ?_)
  have gS := (Grow.drew w1).trans g3
  refine ⟨gS, ?_⟩
  repeat (first | rw [c_seq] | simp -dsimp only [↓RE,RU,RL,Nat.reduceLeDiff,Nat.reduceLT,pureOp,resK,endV,↓reduceIte,Nat.reduceEqDiff,reduceCtorEq,Nat.reduceAdd,Nat.reduceMul,Int.reduceLT,Int.reduceLE,Int.reduceToNat,decide_true,decide_false,tf54, he2])
  refine compareS_ok ?_
  refine ⟨gS, ?_⟩
  have g4 := gS.trans (Grow.alloc w3 (.cells #[.int .i64 (cmpS am bm), .int .i64 (cmpTs at' bt), .int .i64 (cmpS af bf)] 3))
  have hrow : Rd (w3.alloc (.cells #[.int .i64 (cmpS am bm), .int .i64 (cmpTs at' bt), .int .i64 (cmpS af bf)] 3)) (some ⟨w3.heap.size, 0, none⟩) 3 1 ([cmpS am bm, cmpTs at' bt, cmpS af bf].map (Value.int .i64)) := Rd.of_own (own_new w3 3 1 3 #[.int .i64 (cmpS am bm), .int .i64 (cmpTs at' bt), .int .i64 (cmpS af bf)] rfl (by simp [maxLen]))
  repeat (first | rw [c_seq] | simp -dsimp only [↓RE,RU,RL,Nat.reduceLeDiff,Nat.reduceLT,pureOp,resK,endV,↓reduceIte,Nat.reduceEqDiff,reduceCtorEq,Nat.reduceAdd,Nat.reduceMul,Int.reduceLT,Int.reduceLE,Int.reduceToNat,decide_true,decide_false,tf54, he2])
  refine ⟨g4, ?_⟩
  repeat (first | rw [c_seq] | simp -dsimp only [↓RE,RU,RL,Nat.reduceLeDiff,Nat.reduceLT,pureOp,resK,endV,↓reduceIte,Nat.reduceEqDiff,reduceCtorEq,Nat.reduceAdd,Nat.reduceMul,Int.reduceLT,Int.reduceLE,Int.reduceToNat,decide_true,decide_false,tf54, he2])
  refine or_ok hrow (by omega) ?_
  rw [orI3]
  refine ⟨g4, ?_⟩
  repeat (first | rw [c_seq] | simp -dsimp only [↓RE,RU,RL,Nat.reduceLeDiff,Nat.reduceLT,pureOp,resK,endV,↓reduceIte,Nat.reduceEqDiff,reduceCtorEq,Nat.reduceAdd,Nat.reduceMul,Int.reduceLT,Int.reduceLE,Int.reduceToNat,decide_true,decide_false,tf54, he2])
  exact h _ (g1.trans g4)
theorem rserc_ok {w : World} {a b : SerV} (ha : a.Ok w) (hb : b.Ok w) {R : VWK} (h : ∀ w', Grow w w' → R (.int .i64 (cmpSer a.s b.s)) w') : CallsV Tryz.prog 56 [.agg a.cells.toArray, .agg b.cells.toArray] w R := by
  obtain ⟨⟨am, at', af⟩, A, n, c⟩ := a
  obtain ⟨⟨bm, bt, bf⟩, B, m, d⟩ := b
  simp only [SerV.cells]
  obtain ⟨ha, hn⟩ := ha
  obtain ⟨hb, hm⟩ := hb
  simp only [cmpSer] at ha hn hb hm h
  refine calls_of_wpC mixed Tryz.func56 rfl (by kernel_rfl) ?_
  intro e he
  have he0 := he 0
  have he1 := he 1
  simp only [List.getD_cons_zero, List.getD_cons_succ] at he0 he1
  clear he
  rw [c_seq]
  simp -dsimp only [↓RE,RU,RL,Nat.reduceLeDiff,Nat.reduceLT,pureOp,binPure,intBin,strBin,eqPure,isConstO,resK,endV,↓reduceIte,Nat.reduceEqDiff,reduceCtorEq,Nat.reduceAdd,Nat.reduceMul,Int.reduceLT,Int.reduceLE,Int.reduceToNat,Int.reduceAdd,ne_eq,decide_true,decide_false,tf56, he0, he1]
  refine c_gen2 (fun e' w' => ∃ p q, e' 2 = .pointer (some ⟨p, 0, none⟩) ∧ e' 3 = .pointer (some ⟨q, 0, none⟩) ∧ Blk w' p 53 [.string am, .slice A n c, .string af] ∧ Blk w' q 53 [.string bm, .slice B m d, .string bf] ∧ Grow w w') ⟨_, _, ?_, ?_, two_new w _ _ #[.string am, .slice A n c, .string af] #[.string bm, .slice B m d, .string bf]⟩ ?_
  · simp -dsimp only [↓RE,RU,RL,↓reduceIte,Nat.reduceEqDiff,reduceCtorEq,decide_true,decide_false, he0]
  · simp -dsimp only [↓RE,RU,RL,↓reduceIte,Nat.reduceEqDiff,reduceCtorEq,decide_true,decide_false, he0]
  clear he0 he1 e
  rintro e w1 ⟨p, q, he2, he3, hb1, hb2, g1⟩
  have x0 : w1.cell? ⟨p, 0, none⟩ = some (.string am) := (hb1.cell 0).trans rfl
  have x1 : w1.cell? ⟨p, 1, none⟩ = some (.slice A n c) := (hb1.cell 1).trans rfl
  have y0 : w1.cell? ⟨q, 0, none⟩ = some (.string bm) := (hb2.cell 0).trans rfl
  have y1 : w1.cell? ⟨q, 1, none⟩ = some (.slice B m d) := (hb2.cell 1).trans rfl
  repeat (first | rw [c_seq] | simp -dsimp only [↓RE,RU,RL,Nat.reduceLeDiff,Nat.reduceLT,pureOp,binPure,intBin,strBin,eqPure,isConstO,resK,endV,↓reduceIte,Nat.reduceEqDiff,reduceCtorEq,Nat.reduceAdd,Nat.reduceMul,Int.reduceLT,Int.reduceLE,Int.reduceToNat,Int.reduceAdd,ne_eq,decide_true,decide_false,tf56, he2, he3, x0, y0, add_lit', Nat.zero_add])
  refine texts_ok ?_
  by_cases h1 : cmpS am bm = 0
  · have h1' : decide (cmpS am bm = 0) = true := decide_eq_true h1
    simp only [if_pos h1] at h
    repeat (first | rw [c_seq] | simp -dsimp only [↓RE,RU,RL,Nat.reduceLeDiff,Nat.reduceLT,pureOp,binPure,intBin,strBin,eqPure,isConstO,resK,endV,↓reduceIte,Nat.reduceEqDiff,reduceCtorEq,Nat.reduceAdd,Nat.reduceMul,Int.reduceLT,Int.reduceLE,Int.reduceToNat,Int.reduceAdd,ne_eq,decide_true,decide_false,tf56, he2, he3, x1, y1, add_lit', Nat.zero_add, h1', Bool.not_true])
    refine rctags_ok (ha.grow g1) (hb.grow g1) (by omega) (by omega) (fun w3 g3 => ?_)
    have gd := g1.trans g3
    by_cases h2 : cmpTs at' bt = 0
    · have h2' : decide (cmpTs at' bt = 0) = true := decide_eq_true h2
      rw [if_pos h2] at h
      have x2 : w3.cell? ⟨p, 2, none⟩ = some (.string af) := ((hb1.grow g3).cell 2).trans rfl
      have y2 : w3.cell? ⟨q, 2, none⟩ = some (.string bf) := ((hb2.grow g3).cell 2).trans rfl
      repeat (first | rw [c_seq] | simp -dsimp only [↓RE,RU,RL,Nat.reduceLeDiff,Nat.reduceLT,pureOp,binPure,intBin,strBin,eqPure,isConstO,resK,endV,↓reduceIte,Nat.reduceEqDiff,reduceCtorEq,Nat.reduceAdd,Nat.reduceMul,Int.reduceLT,Int.reduceLE,Int.reduceToNat,Int.reduceAdd,ne_eq,decide_true,decide_false,tf56, he2, he3, x2, y2, add_lit', Nat.zero_add, h2', Bool.not_true])
      refine texts_ok ?_
      repeat (first | rw [c_seq] | simp -dsimp only [↓RE,RU,RL,Nat.reduceLeDiff,Nat.reduceLT,pureOp,binPure,intBin,strBin,eqPure,isConstO,resK,endV,↓reduceIte,Nat.reduceEqDiff,reduceCtorEq,Nat.reduceAdd,Nat.reduceMul,Int.reduceLT,Int.reduceLE,Int.reduceToNat,Int.reduceAdd,ne_eq,decide_true,decide_false,tf56, he2])
      exact h _ gd
    · have h2' : decide (cmpTs at' bt = 0) = false := decide_eq_false h2
      rw [if_neg h2] at h
      repeat (first | rw [c_seq] | simp -dsimp only [↓RE,RU,RL,Nat.reduceLeDiff,Nat.reduceLT,pureOp,binPure,intBin,strBin,eqPure,isConstO,resK,endV,↓reduceIte,Nat.reduceEqDiff,reduceCtorEq,Nat.reduceAdd,Nat.reduceMul,Int.reduceLT,Int.reduceLE,Int.reduceToNat,Int.reduceAdd,ne_eq,decide_true,decide_false,tf56, h2', Bool.not_false])
      exact h _ gd
  · have h1' : decide (cmpS am bm = 0) = false := decide_eq_false h1
    simp only [if_neg h1] at h
    repeat (first | rw [c_seq] | simp -dsimp only [↓RE,RU,RL,Nat.reduceLeDiff,Nat.reduceLT,pureOp,binPure,intBin,strBin,eqPure,isConstO,resK,endV,↓reduceIte,Nat.reduceEqDiff,reduceCtorEq,Nat.reduceAdd,Nat.reduceMul,Int.reduceLT,Int.reduceLE,Int.reduceToNat,Int.reduceAdd,ne_eq,decide_true,decide_false,tf56, h1', Bool.not_false])
    exact h _ g1
/-- a write: a series, and its sample. -/
structure WrV where
  s : SerV
  x : Int × Int × Int
def WrV.cells (v : WrV) : List Value := [.string v.s.s.m, .slice v.s.A v.s.n v.s.c, .string v.s.s.f, .int .i64 v.x.1, .int .u8 v.x.2.1, .int .i64 v.x.2.2]
theorem WrV.head (a : WrV) {j : Nat} {v : Value} (h : a.s.cells[j]? = some v) : a.cells[j]? = some v := by
  match j, h with
  | 0, h => exact h
  | 1, h => exact h
  | 2, h => exact h
  | j + 3, h => simp [SerV.cells] at h
def WrV.Ok (w : World) (v : WrV) : Prop := v.s.Ok w ∧ SOk v.x
theorem WrV.Ok.grow {w w' : World} {v : WrV} (h : v.Ok w) (g : Grow w w') : v.Ok w' := ⟨h.1.grow g, h.2⟩
abbrev Wr := Ser × (Int × Int × Int)
def WrV.wr (v : WrV) : Wr := (v.s.s, v.x)
def cmpW (a b : Wr) : Int := if cmpSer a.1 b.1 = 0 then cmpI a.2.1 b.2.1 else cmpSer a.1 b.1
theorem cmpI_cmp : Cmp cmpI := by
  refine ⟨fun a b => ?_, fun a b => ?_, fun a b c => ?_⟩ <;> unfold cmpI <;> repeat' split
  all_goals omega
theorem cmpW_cmp : Cmp cmpW := (cmpSer_cmp.pull Prod.fst).or (cmpI_cmp.pull (fun a : Wr => a.2.1))
/-- of the writes as they lie. -/
def cmpV (a b : WrV) : Int := cmpW a.wr b.wr
theorem cmpV_cmp : Cmp cmpV := cmpW_cmp.pull WrV.wr
theorem wcmp_ok {w : World} {a b : WrV} (ha : a.Ok w) (hb : b.Ok w) {R : VWK} (h : ∀ w', Grow w w' → R (.int .i64 (cmpV a b)) w') : CallsV Tryz.prog 25 [.agg a.cells.toArray, .agg b.cells.toArray] w R := by
  refine calls_of_wpC mixed Tryz.func25 rfl (by kernel_rfl) ?_
  intro e he
  have he0 := he 0
  have he1 := he 1
  simp only [List.getD_cons_zero, List.getD_cons_succ] at he0 he1
  clear he
  rw [c_seq]
  simp -dsimp only [↓RE,RU,RL,Nat.reduceLeDiff,Nat.reduceLT,pureOp,resK,endV,↓reduceIte,Nat.reduceEqDiff,reduceCtorEq,Nat.reduceAdd,Nat.reduceMul,Int.reduceLT,Int.reduceLE,Int.reduceToNat,decide_true,decide_false,tf25, he0, he1]
  refine c_gen2 (fun e' w' => ∃ p q, e' 2 = .pointer (some ⟨p, 0, none⟩) ∧ e' 3 = .pointer (some ⟨q, 0, none⟩) ∧ Blk w' p 60 a.cells ∧ Blk w' q 60 b.cells ∧ Grow w w') ⟨_, _, ?_, ?_, two_new w _ _ a.cells.toArray b.cells.toArray⟩ ?_
  · simp -dsimp only [↓RE,RU,RL,↓reduceIte,Nat.reduceEqDiff,reduceCtorEq,decide_true,decide_false, he0]
  · simp -dsimp only [↓RE,RU,RL,↓reduceIte,Nat.reduceEqDiff,reduceCtorEq,decide_true,decide_false, he0]
  clear he0 he1 e
  rintro e w1 ⟨p, q, he2, he3, hb1, hb2, g1⟩
  have x0 : ∀ w', Grow w1 w' → ∀ (j : Nat) v, a.s.cells[j]? = some v → w'.cell? ((⟨p, 0, none⟩ : Addr).add j) = some v := fun w' g j v hv => by rw [add_lit', Nat.zero_add, (hb1.grow g).cell]; exact a.head hv
  have y0 : ∀ w', Grow w1 w' → ∀ (j : Nat) v, b.s.cells[j]? = some v → w'.cell? ((⟨q, 0, none⟩ : Addr).add j) = some v := fun w' g j v hv => by rw [add_lit', Nat.zero_add, (hb2.grow g).cell]; exact b.head hv
  have x3 : ∀ w', Grow w1 w' → w'.cell? ⟨p, 3, none⟩ = some (.int .i64 a.x.1) := fun w' g => ((hb1.grow g).cell 3).trans rfl
  have y3 : ∀ w', Grow w1 w' → w'.cell? ⟨q, 3, none⟩ = some (.int .i64 b.x.1) := fun w' g => ((hb2.grow g).cell 3).trans rfl
  repeat (first | rw [c_seq] | simp -dsimp only [↓RE,RU,RL,Nat.reduceLeDiff,Nat.reduceLT,pureOp,resK,endV,↓reduceIte,Nat.reduceEqDiff,reduceCtorEq,Nat.reduceAdd,Nat.reduceMul,Int.reduceLT,Int.reduceLE,Int.reduceToNat,decide_true,decide_false,tf25, he2])
  refine wpDraw_by (Grow w1 ·) [(0, true), (1, true), (2, true), (3, true), (5, true), (6, true), (7, true), (8, true), (9, true), (10, true), (4, false), (11, false), (12, false), (13, false), (14, true)] (by kernel_rfl) (Grow.drew w1) ?_
  simp only [planL, List.getElem?_toArray, List.getElem?_cons_zero, List.getElem?_cons_succ, Option.toList_some, List.map_cons, List.map_nil, List.cons_append, List.nil_append]
  repeat (first | rw [c_seq] | simp -dsimp only [↓RE,RU,RL,Nat.reduceLeDiff,Nat.reduceLT,pureOp,resK,endV,↓reduceIte,Nat.reduceEqDiff,reduceCtorEq,Nat.reduceAdd,Nat.reduceMul,Int.reduceLT,Int.reduceLE,Int.reduceToNat,decide_true,decide_false,tf25, he2, he3, add_lit', Nat.zero_add])
  refine ⟨a.s.cells, rfl, x0, ?_⟩
  repeat (first | rw [c_seq] | simp -dsimp only [↓RE,RU,RL,Nat.reduceLeDiff,Nat.reduceLT,pureOp,resK,endV,↓reduceIte,Nat.reduceEqDiff,reduceCtorEq,Nat.reduceAdd,Nat.reduceMul,Int.reduceLT,Int.reduceLE,Int.reduceToNat,decide_true,decide_false,tf25, he2, he3, add_lit', Nat.zero_add])
  refine ⟨b.s.cells, rfl, y0, ?_⟩
  repeat (first | rw [c_seq] | simp -dsimp only [↓RE,RU,RL,Nat.reduceLeDiff,Nat.reduceLT,pureOp,resK,endV,↓reduceIte,Nat.reduceEqDiff,reduceCtorEq,Nat.reduceAdd,Nat.reduceMul,Int.reduceLT,Int.reduceLE,Int.reduceToNat,decide_true,decide_false,tf25, he2, he3, add_lit', Nat.zero_add, add_zero'])
  refine ⟨_, x3, ?_⟩
  repeat (first | rw [c_seq] | simp -dsimp only [↓RE,RU,RL,Nat.reduceLeDiff,Nat.reduceLT,pureOp,resK,endV,↓reduceIte,Nat.reduceEqDiff,reduceCtorEq,Nat.reduceAdd,Nat.reduceMul,Int.reduceLT,Int.reduceLE,Int.reduceToNat,decide_true,decide_false,tf25, he2, he3, add_lit', Nat.zero_add, add_zero'])
  refine ⟨_, y3, ?_⟩
  repeat (first | rw [c_seq] | simp -dsimp only [↓RE,RU,RL,Nat.reduceLeDiff,Nat.reduceLT,pureOp,resK,endV,↓reduceIte,Nat.reduceEqDiff,reduceCtorEq,Nat.reduceAdd,Nat.reduceMul,Int.reduceLT,Int.reduceLE,Int.reduceToNat,decide_true,decide_false,tf25, he2])
  have gd := g1.trans (Grow.drew w1)
  refine serc_ok (ha.1.grow gd) (hb.1.grow gd) (fun w3 g3 => ?_)
  have gS := (Grow.drew w1).trans g3
  refine ⟨gS, ?_⟩
  repeat (first | rw [c_seq] | simp -dsimp only [↓RE,RU,RL,Nat.reduceLeDiff,Nat.reduceLT,pureOp,resK,endV,↓reduceIte,Nat.reduceEqDiff,reduceCtorEq,Nat.reduceAdd,Nat.reduceMul,Int.reduceLT,Int.reduceLE,Int.reduceToNat,decide_true,decide_false,tf25, he2])
  refine compare_ok ?_
  refine ⟨gS, ?_⟩
  have g4 := gS.trans (Grow.alloc w3 (.cells #[.int .i64 (cmpSer a.s.s b.s.s), .int .i64 (cmpI a.x.1 b.x.1)] 3))
  have hrow : Rd (w3.alloc (.cells #[.int .i64 (cmpSer a.s.s b.s.s), .int .i64 (cmpI a.x.1 b.x.1)] 3)) (some ⟨w3.heap.size, 0, none⟩) 2 1 ([cmpSer a.s.s b.s.s, cmpI a.x.1 b.x.1].map (Value.int .i64)) := Rd.of_own (own_new w3 3 1 2 #[.int .i64 (cmpSer a.s.s b.s.s), .int .i64 (cmpI a.x.1 b.x.1)] rfl (by simp [maxLen]))
  repeat (first | rw [c_seq] | simp -dsimp only [↓RE,RU,RL,Nat.reduceLeDiff,Nat.reduceLT,pureOp,resK,endV,↓reduceIte,Nat.reduceEqDiff,reduceCtorEq,Nat.reduceAdd,Nat.reduceMul,Int.reduceLT,Int.reduceLE,Int.reduceToNat,decide_true,decide_false,tf25, he2])
  refine ⟨g4, ?_⟩
  repeat (first | rw [c_seq] | simp -dsimp only [↓RE,RU,RL,Nat.reduceLeDiff,Nat.reduceLT,pureOp,resK,endV,↓reduceIte,Nat.reduceEqDiff,reduceCtorEq,Nat.reduceAdd,Nat.reduceMul,Int.reduceLT,Int.reduceLE,Int.reduceToNat,decide_true,decide_false,tf25, he2])
  refine or_ok hrow (by omega) ?_
  rw [orI2]
  refine ⟨g4, ?_⟩
  repeat (first | rw [c_seq] | simp -dsimp only [↓RE,RU,RL,Nat.reduceLeDiff,Nat.reduceLT,pureOp,resK,endV,↓reduceIte,Nat.reduceEqDiff,reduceCtorEq,Nat.reduceAdd,Nat.reduceMul,Int.reduceLT,Int.reduceLE,Int.reduceToNat,decide_true,decide_false,tf25, he2])
  exact h _ (g1.trans g4)
theorem rwcmp_ok {w : World} {a b : WrV} (ha : a.Ok w) (hb : b.Ok w) {R : VWK} (h : ∀ w', Grow w w' → R (.int .i64 (cmpV a b)) w') : CallsV Tryz.prog 26 [.agg a.cells.toArray, .agg b.cells.toArray] w R := by
  refine calls_of_wpC mixed Tryz.func26 rfl (by kernel_rfl) ?_
  intro e he
  have he0 := he 0
  have he1 := he 1
  simp only [List.getD_cons_zero, List.getD_cons_succ] at he0 he1
  clear he
  rw [c_seq]
  simp -dsimp only [↓RE,RU,RL,Nat.reduceLeDiff,Nat.reduceLT,pureOp,binPure,intBin,strBin,eqPure,isConstO,resK,endV,↓reduceIte,Nat.reduceEqDiff,reduceCtorEq,Nat.reduceAdd,Nat.reduceMul,Int.reduceLT,Int.reduceLE,Int.reduceToNat,Int.reduceAdd,ne_eq,decide_true,decide_false,tf26, he0, he1]
  refine c_gen2 (fun e' w' => ∃ p q, e' 2 = .pointer (some ⟨p, 0, none⟩) ∧ e' 3 = .pointer (some ⟨q, 0, none⟩) ∧ Blk w' p 60 a.cells ∧ Blk w' q 60 b.cells ∧ Grow w w') ⟨_, _, ?_, ?_, two_new w _ _ a.cells.toArray b.cells.toArray⟩ ?_
  · simp -dsimp only [↓RE,RU,RL,↓reduceIte,Nat.reduceEqDiff,reduceCtorEq,decide_true,decide_false, he0]
  · simp -dsimp only [↓RE,RU,RL,↓reduceIte,Nat.reduceEqDiff,reduceCtorEq,decide_true,decide_false, he0]
  clear he0 he1 e
  rintro e w1 ⟨p, q, he2, he3, hb1, hb2, g1⟩
  have x0 : ∀ w', Grow w1 w' → ∀ (j : Nat) v, a.s.cells[j]? = some v → w'.cell? ((⟨p, 0, none⟩ : Addr).add j) = some v := fun w' g j v hv => by rw [add_lit', Nat.zero_add, (hb1.grow g).cell]; exact a.head hv
  have y0 : ∀ w', Grow w1 w' → ∀ (j : Nat) v, b.s.cells[j]? = some v → w'.cell? ((⟨q, 0, none⟩ : Addr).add j) = some v := fun w' g j v hv => by rw [add_lit', Nat.zero_add, (hb2.grow g).cell]; exact b.head hv
  have x3 : ∀ w', Grow w1 w' → w'.cell? ⟨p, 3, none⟩ = some (.int .i64 a.x.1) := fun w' g => ((hb1.grow g).cell 3).trans rfl
  have y3 : ∀ w', Grow w1 w' → w'.cell? ⟨q, 3, none⟩ = some (.int .i64 b.x.1) := fun w' g => ((hb2.grow g).cell 3).trans rfl
  have hc : cmpV a b = if cmpSer a.s.s b.s.s = 0 then cmpI a.x.1 b.x.1 else cmpSer a.s.s b.s.s := rfl
  repeat (first | rw [c_seq] | simp -dsimp only [↓RE,RU,RL,Nat.reduceLeDiff,Nat.reduceLT,pureOp,binPure,intBin,strBin,eqPure,isConstO,resK,endV,↓reduceIte,Nat.reduceEqDiff,reduceCtorEq,Nat.reduceAdd,Nat.reduceMul,Int.reduceLT,Int.reduceLE,Int.reduceToNat,Int.reduceAdd,ne_eq,decide_true,decide_false,tf26, he2, he3, add_lit', Nat.zero_add])
  refine ⟨a.s.cells, rfl, x0 w1 (Keep.refl _ _), ?_⟩
  repeat (first | rw [c_seq] | simp -dsimp only [↓RE,RU,RL,Nat.reduceLeDiff,Nat.reduceLT,pureOp,binPure,intBin,strBin,eqPure,isConstO,resK,endV,↓reduceIte,Nat.reduceEqDiff,reduceCtorEq,Nat.reduceAdd,Nat.reduceMul,Int.reduceLT,Int.reduceLE,Int.reduceToNat,Int.reduceAdd,ne_eq,decide_true,decide_false,tf26, he2, he3, add_lit', Nat.zero_add])
  refine ⟨b.s.cells, rfl, y0 w1 (Keep.refl _ _), ?_⟩
  repeat (first | rw [c_seq] | simp -dsimp only [↓RE,RU,RL,Nat.reduceLeDiff,Nat.reduceLT,pureOp,binPure,intBin,strBin,eqPure,isConstO,resK,endV,↓reduceIte,Nat.reduceEqDiff,reduceCtorEq,Nat.reduceAdd,Nat.reduceMul,Int.reduceLT,Int.reduceLE,Int.reduceToNat,Int.reduceAdd,ne_eq,decide_true,decide_false,tf26, he2])
  refine rserc_ok (ha.1.grow g1) (hb.1.grow g1) (fun w3 g3 => ?_)
  have gd := g1.trans g3
  by_cases h1 : cmpSer a.s.s b.s.s = 0
  · have h1' : decide (cmpSer a.s.s b.s.s = 0) = true := decide_eq_true h1
    rw [hc, if_pos h1] at h
    have x3' := x3 w3 g3
    have y3' := y3 w3 g3
    unfold cmpI at h
    by_cases h2 : a.x.1 < b.x.1
    · have h2' : decide (a.x.1 < b.x.1) = true := decide_eq_true h2
      rw [if_pos h2] at h
      repeat (first | rw [c_seq] | simp -dsimp only [↓RE,RU,RL,Nat.reduceLeDiff,Nat.reduceLT,pureOp,binPure,intBin,strBin,eqPure,isConstO,resK,endV,↓reduceIte,Nat.reduceEqDiff,reduceCtorEq,Nat.reduceAdd,Nat.reduceMul,Int.reduceLT,Int.reduceLE,Int.reduceToNat,Int.reduceAdd,ne_eq,decide_true,decide_false,tf26, h1', Bool.not_true, he2, he3, x3', y3', h2', add_lit', Nat.zero_add, add_zero'])
      exact h _ gd
    · have h2' : decide (a.x.1 < b.x.1) = false := decide_eq_false h2
      rw [if_neg h2] at h
      by_cases h3 : b.x.1 < a.x.1
      · have h3' : decide (b.x.1 < a.x.1) = true := decide_eq_true h3
        rw [if_pos h3] at h
        repeat (first | rw [c_seq] | simp -dsimp only [↓RE,RU,RL,Nat.reduceLeDiff,Nat.reduceLT,pureOp,binPure,intBin,strBin,eqPure,isConstO,resK,endV,↓reduceIte,Nat.reduceEqDiff,reduceCtorEq,Nat.reduceAdd,Nat.reduceMul,Int.reduceLT,Int.reduceLE,Int.reduceToNat,Int.reduceAdd,ne_eq,decide_true,decide_false,tf26, h1', Bool.not_true, he2, he3, x3', y3', h2', h3', add_lit', Nat.zero_add, add_zero'])
        exact h _ gd
      · have h3' : decide (b.x.1 < a.x.1) = false := decide_eq_false h3
        rw [if_neg h3] at h
        repeat (first | rw [c_seq] | simp -dsimp only [↓RE,RU,RL,Nat.reduceLeDiff,Nat.reduceLT,pureOp,binPure,intBin,strBin,eqPure,isConstO,resK,endV,↓reduceIte,Nat.reduceEqDiff,reduceCtorEq,Nat.reduceAdd,Nat.reduceMul,Int.reduceLT,Int.reduceLE,Int.reduceToNat,Int.reduceAdd,ne_eq,decide_true,decide_false,tf26, h1', Bool.not_true, he2, he3, x3', y3', h2', h3', add_lit', Nat.zero_add, add_zero'])
        exact h _ gd
  · have h1' : decide (cmpSer a.s.s b.s.s = 0) = false := decide_eq_false h1
    rw [hc, if_neg h1] at h
    repeat (first | rw [c_seq] | simp -dsimp only [↓RE,RU,RL,Nat.reduceLeDiff,Nat.reduceLT,pureOp,binPure,intBin,strBin,eqPure,isConstO,resK,endV,↓reduceIte,Nat.reduceEqDiff,reduceCtorEq,Nat.reduceAdd,Nat.reduceMul,Int.reduceLT,Int.reduceLE,Int.reduceToNat,Int.reduceAdd,ne_eq,decide_true,decide_false,tf26, h1', Bool.not_false])
    exact h _ gd

end Go.Proofs.YtljgnocpijniiaaGreatDoor
