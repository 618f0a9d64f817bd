/- weirboth.Is at the program's errors. -/
/- What must be whatever is asked: batch.Flat of one point, batch.Right of none. -/
import Derived.Test.YtljgnocpijniiaaGreatDoorAsk
import Derived.Test.YtljgnocpijniiaaGreatDoorFlatP
set_option linter.unusedVariables false
set_option linter.unusedSimpArgs false
set_option maxRecDepth 100000
namespace Go.Proofs.YtljgnocpijniiaaGreatDoor
open Go

theorem is_err {w : World} (hL : Lay w) {x : Er} {c : Int} (hc : c ≠ 0) (hx : x.code = c) {R : VWK} (h : ∀ w', Grow w w' → R (.bool true) w') : CallsV Tryz.prog 38 [x.v, .int .i64 c] w R := by
  have hcd : decide (c = 0) = false := decide_eq_false hc
  refine calls_of_wpC mixed Tryz.func38 rfl (by kernel_rfl) ?_
  intro e he
  have he0 := he 0
  have he1 := he 1
  simp only [List.getD_cons_zero, List.getD_cons_succ] at he0 he1
  clear he
  try simp -dsimp only [↓RE,↓c_seq,RU,RL,forall_const,implies_true,Nat.reduceLeDiff,Nat.reduceLT,pureOp,binPure,intBin,strBin,eqPure,isConstO,resK,endV,yieldE,↓reduceIte,Nat.reduceEqDiff,reduceCtorEq,Nat.reduceAdd,Nat.reduceMul,Int.reduceLT,Int.reduceLE,Int.reduceToNat,Int.reduceAdd,decide_true,decide_false,tf38, he0, he1, hcd, Er.v]
  have hB := Blk.new' w 31 #[.int .i64 0]
  have g1 := Grow.alloc w (.cells #[.int .i64 0] 31)
  refine as_ok .no x (hL.grow g1) hB rfl (fun w1 k1 hB1 => ?_)
  rw [Er.find_no] at hB1
  have hs : (x.find .no).isSome = true := by
    have := Er.find_no x
    cases hf : x.find .no with
    | none => rw [hf] at this; cases this
    | some y => rfl
  rw [hs]
  simp only [Option.getD_some] at hB1
  try simp -dsimp only [↓RE,↓c_seq,RU,RL,forall_const,implies_true,Nat.reduceLeDiff,Nat.reduceLT,pureOp,binPure,intBin,strBin,eqPure,isConstO,resK,endV,yieldE,↓reduceIte,Nat.reduceEqDiff,reduceCtorEq,Nat.reduceAdd,Nat.reduceMul,Int.reduceLT,Int.reduceLE,Int.reduceToNat,Int.reduceAdd,decide_true,decide_false,tf38, he0, he1, hcd, Er.v, hB1.cell, hx, eq_self]
  exact h w1 (g1.above k1 (fun i hi e => by omega))

end Go.Proofs.YtljgnocpijniiaaGreatDoor

namespace Go.Proofs.YtljgnocpijniiaaGreatDoor
open Go

def sM : ByteArray := ⟨#[109]⟩
def sV : ByteArray := ⟨#[118]⟩
def ptL : Pt := ⟨sM, [], [(sV, 3)], 5⟩
theorem live_check : checkE [ptL] = none := by decide +kernel
theorem live_flat : flatL [ptL] = [(⟨sM, [], sV⟩, (5, 0, 3))] := by
  rw [flatL, live_check]
  rfl
theorem live_right : rightE p00.p = some (.no 50) := by rfl
theorem one_pt (w : World) (x : PtV) : RdP (w.alloc (.cells x.cells.toArray 25)) (some ⟨w.heap.size, 0, none⟩) 1 [x] := by
  have := Rd.of_own (own_new w 25 4 1 x.cells.toArray rfl (by simp [maxLen]))
  have e : ([x] : List PtV).flatMap PtV.cells = x.cells := by simp
  rw [RdP, e]; exact this
theorem one_fd (w : World) (x : Fd) : RdF (w.alloc (.cells (fcells x).toArray 98)) (some ⟨w.heap.size, 0, none⟩) 1 [x] := by
  have := Rd.of_own (own_new w 98 2 1 (fcells x).toArray rfl (by simp [maxLen]))
  have e : ([x] : List Fd).flatMap fcells = fcells x := by simp
  rw [RdF, e]; exact this
theorem szb_small {s : ByteArray} (h : s.size ≤ 1000) : Szb s := Nat.le_trans h (by decide)
theorem p00_ok (w : World) : p00.Ok w :=
  ⟨Rd.nil _ _ _, Rd.nil _ _ _, (by decide : 0 ≤ 100000000000), (by decide : 0 ≤ 100000000000), szb_small (by decide), fun _ h => (by cases h), fun _ h => (by cases h), by decide, fun _ h => (by cases h)⟩
set_option maxHeartbeats 2000000 in
theorem live7_ok {w : World} (hL : Lay w) (hT : Tabs w) {R : VWK} (h : ∀ w', Grow w w' → R (.bool true) w') : CallsV Tryz.prog 13 [] w R := by
  refine calls_of_wpC mixed Tryz.func13 rfl (by kernel_rfl) ?_
  intro e he
  clear he
  repeat (first | rw [c_seq] | simp -dsimp only [↓RE,RU,RL,forall_const,implies_true,Nat.reduceLeDiff,Nat.reduceLT,pureOp,binPure,intBin,strBin,eqPure,isConstO,lenPure,buildP,resK,endV,yieldE,↓reduceIte,Nat.reduceEqDiff,reduceCtorEq,Nat.reduceAdd,Nat.reduceMul,Int.reduceLT,Int.reduceLE,Int.reduceToNat,Int.reduceAdd,decide_true,decide_false,tf13, add_zero'])
  obtain ⟨x, hx⟩ : ∃ x : PtV, x = ⟨ptL, none, 0, 0, some ⟨w.heap.size, 0, none⟩, 1, 1⟩ := ⟨_, rfl⟩
  have g1 := Grow.alloc w (.cells (fcells (sV, 3)).toArray 98)
  have hF := one_fd w (sV, 3)
  have hP := one_pt (w.alloc (.cells (fcells (sV, 3)).toArray 98)) x
  have g2 := Grow.alloc (w.alloc (.cells (fcells (sV, 3)).toArray 98)) (.cells x.cells.toArray 25)
  have hxo : x.Ok ((w.alloc (.cells (fcells (sV, 3)).toArray 98)).alloc (.cells x.cells.toArray 25)) := by
    rw [hx] at g2 ⊢
    refine ⟨Rd.nil _ _ _, hF.grow g2, (by decide : 0 ≤ 100000000000), (by decide : 1 ≤ 100000000000), szb_small (s := sM) (by decide), fun _ h => (by cases h), fun f hf => ?_, (by decide : (-9223372036854775808 : Int) ≤ 5 ∧ (5 : Int) < 9223372036854775808), fun f hf => ?_⟩
    · rw [List.mem_singleton.1 hf]; exact szb_small (by decide)
    · rw [List.mem_singleton.1 hf]; decide
  have g12 := g1.trans g2
  rw [hx] at hP hxo g12
  refine bflat_ok hP (fun y hy => by rw [List.mem_singleton.1 hy]; exact hxo) (by decide) (hT.grow g12) (fun w1 v D hD g3 => ?_)
  have hD : OrdR _ w1 v D (flatL [ptL]) := hD
  rw [live_flat] at hD
  have he : errOf (checkE (List.map PtV.p [(⟨ptL, none, 0, 0, some ⟨w.heap.size, 0, none⟩, 1, 1⟩ : PtV)])) = .nilIface := congrArg errOf live_check
  rw [he]
  have g13 := g12.trans g3
  have hDl : D.length = 1 := by rw [← List.length_map (f := WrV.wr), hD.eq]; rfl
  obtain ⟨A, c, rfl, _, _⟩ := hD.row.form
  have hrd := hD.row.rd
  obtain ⟨d, rfl⟩ : ∃ d, D = [d] := by
    match D, hDl with
    | [d], _ => exact ⟨d, rfl⟩
  have hdw : d.wr = (⟨sM, [], sV⟩, (5, 0, 3)) := by have := hD.eq; simpa using this
  have hdx : d.x = (5, 0, 3) := congrArg Prod.snd hdw
  obtain ⟨ad, rfl⟩ : ∃ ad, A = some ad := by
    obtain ⟨ad, e, _⟩ := hrd.2 (by simp)
    exact ⟨ad, e⟩
  have hcs := hrd.wrc (k := 0) (by simp)
  rw [show ([d] : List WrV).getD 0 w00 = d from rfl, Nat.zero_mul, add_zero'] at hcs
  have c3 : w1.cell? (ad.add 3) = some (.int .i64 5) := (hcs 3 _ rfl).trans (by rw [hdx])
  have c4 : w1.cell? (ad.add 4) = some (.int .u8 0) := (hcs 4 _ rfl).trans (by rw [hdx])
  have c5 : w1.cell? (ad.add 5) = some (.int .i64 3) := (hcs 5 _ rfl).trans (by rw [hdx])
  have h11 : ((1 : Nat) : Int) = 1 := rfl
  repeat (first | rw [c_seq] | simp -dsimp only [↓RE,RU,RL,forall_const,implies_true,Nat.reduceLeDiff,Nat.reduceLT,pureOp,binPure,intBin,strBin,eqPure,isConstO,lenPure,buildP,resK,endV,yieldE,↓reduceIte,Nat.reduceEqDiff,reduceCtorEq,Nat.reduceAdd,Nat.reduceMul,Int.reduceLT,Int.reduceLE,Int.reduceToNat,Int.reduceAdd,decide_true,decide_false,tf13, add_zero', List.length_singleton, h11, eq_self, decide_true, Int.zero_lt_one, Int.toNat_zero, Nat.zero_mul])
  refine ⟨[.int .i64 5, .int .u8 0, .int .i64 3], rfl, fun j v hv => ?_, ?_⟩
  · match j, hv with
    | 0, hv => injection hv with hv; subst hv; rw [add_zero']; exact c3
    | 1, hv => injection hv with hv; subst hv; exact c4
    | 2, hv => injection hv with hv; subst hv; exact c5
    | j + 3, hv => cases hv
  repeat (first | rw [c_seq] | simp -dsimp only [↓RE,RU,RL,forall_const,implies_true,Nat.reduceLeDiff,Nat.reduceLT,pureOp,binPure,intBin,strBin,eqPure,isConstO,lenPure,buildP,resK,endV,yieldE,↓reduceIte,Nat.reduceEqDiff,reduceCtorEq,Nat.reduceAdd,Nat.reduceMul,Int.reduceLT,Int.reduceLE,Int.reduceToNat,Int.reduceAdd,decide_true,decide_false,tf13, h11, eq_self, decide_true])
  refine bright_ok (x := p00) (p00_ok w1) (hT.grow g13) (fun w2 g4 => ?_)
  rw [live_right]
  repeat (first | rw [c_seq] | simp -dsimp only [↓RE,RU,RL,forall_const,implies_true,Nat.reduceLeDiff,Nat.reduceLT,pureOp,binPure,intBin,strBin,eqPure,isConstO,lenPure,buildP,resK,endV,yieldE,↓reduceIte,Nat.reduceEqDiff,reduceCtorEq,Nat.reduceAdd,Nat.reduceMul,Int.reduceLT,Int.reduceLE,Int.reduceToNat,Int.reduceAdd,decide_true,decide_false,tf13, h11, eq_self, decide_true])
  refine is_err (x := .no 50) (hL.grow (g13.trans g4)) (by decide) rfl (fun w3 g5 => ?_)
  repeat (first | rw [c_seq] | simp -dsimp only [↓RE,RU,RL,forall_const,implies_true,Nat.reduceLeDiff,Nat.reduceLT,pureOp,binPure,intBin,strBin,eqPure,isConstO,lenPure,buildP,resK,endV,yieldE,↓reduceIte,Nat.reduceEqDiff,reduceCtorEq,Nat.reduceAdd,Nat.reduceMul,Int.reduceLT,Int.reduceLE,Int.reduceToNat,Int.reduceAdd,decide_true,decide_false,tf13, h11, eq_self, decide_true])
  exact h w3 ((g13.trans g4).trans g5)

end Go.Proofs.YtljgnocpijniiaaGreatDoor
