/- What is wrong with a point: the program's answer, and the document's. -/
import Derived.Test.YtljgnocpijniiaaGreatDoorTagsQF
import Derived.Test.YtljgnocpijniiaaGreatDoorAsk
set_option linter.unusedVariables false
set_option linter.unusedSimpArgs false
set_option maxRecDepth 100000
namespace Go.Proofs.YtljgnocpijniiaaGreatDoor
open Go

structure Pt where
  m : ByteArray
  tags : List Tg
  fields : List Fd
  t : Int
/-- a point as it lies. -/
structure PtV where
  p : Pt
  A : Option Addr
  n : Nat
  c : Nat
  B : Option Addr
  k : Nat
  d : Nat
def PtV.cells (x : PtV) : List Value := [.string x.p.m, .slice x.A x.n x.c, .slice x.B x.k x.d, .int .i64 x.p.t]
structure PtV.Ok (w : World) (x : PtV) : Prop where
  tags : RdT w x.A x.n x.p.tags
  fields : RdF w x.B x.k x.p.fields
  hn : x.n ≤ 100000000000
  hk : x.k ≤ 100000000000
  hm : Szb x.p.m
  ht : ∀ t ∈ x.p.tags, Szb t.1 ∧ Szb t.2
  hf : ∀ f ∈ x.p.fields, Szb f.1
  time : -9223372036854775808 ≤ x.p.t ∧ x.p.t < 9223372036854775808
  nums : ∀ f ∈ x.p.fields, -9223372036854775808 ≤ f.2 ∧ f.2 < 9223372036854775808
theorem PtV.Ok.keep0 {F : Nat → Prop} {w w' : World} {x : PtV} (h : x.Ok w) (k : Keep F w w') (h1 : 0 < x.n → ∀ q, fpA x.A q → ¬ F q) (h2 : 0 < x.k → ∀ q, fpA x.B q → ¬ F q) : x.Ok w' :=
  ⟨h.tags.keep0 k h1, h.fields.keep0 k h2, h.hn, h.hk, h.hm, h.ht, h.hf, h.time, h.nums⟩
theorem PtV.Ok.grow {w w' : World} {x : PtV} (h : x.Ok w) (k : Grow w w') : x.Ok w' := h.keep0 k (fun _ _ _ h => h) (fun _ _ _ h => h)
theorem pcells_len (x : PtV) : x.cells.length = 4 := rfl
theorem pcells_one (x : PtV) : ∀ v ∈ x.cells, v.oneCell' = true := by
  intro u hu
  simp only [PtV.cells, List.mem_cons, List.not_mem_nil, or_false] at hu
  rcases hu with rfl | rfl | rfl | rfl <;> rfl
def timeBad (t : Int) : Bool := decide (t < -4611686018427387904) || decide (4611686018427387904 < t)
/-- what is wrong with a point. -/
def rightE (p : Pt) : Option Er :=
  if rightB p.m 64 = false then some (.no 50)
  else if tagsB p.tags = false then some (.no 52)
  else if fieldsB p.fields = false then some (.no 70)
  else if timeBad p.t = true then some (.no 2)
  else none
theorem rightE_code {p : Pt} {x : Er} (h : rightE p = some x) : x.code ≠ 0 := by
  unfold rightE at h
  repeat' split at h
  all_goals first | (injection h with h; subst h; decide) | cases h
set_option maxHeartbeats 1000000 in
theorem bright_ok {w : World} {x : PtV} (hx : x.Ok w) (hT : Tabs w) {R : VWK} (h : ∀ w', Grow w w' → R (errOf (rightE x.p)) w') : CallsV Tryz.prog 15 [.agg x.cells.toArray] w R := by
  refine calls_of_wpC mixed Tryz.func15 rfl (by kernel_rfl) ?_
  intro e he
  have he0 := he 0
  simp only [List.getD_cons_zero, List.getD_cons_succ] at he0
  clear he
  rw [c_seq]
  simp -dsimp only [↓RE,RU,RL,forall_const,implies_true,Nat.reduceLeDiff,Nat.reduceLT,pureOp,binPure,intBin,strBin,eqPure,isConstO,unPure,resK,endV,yieldE,↓reduceIte,Nat.reduceEqDiff,reduceCtorEq,Nat.reduceAdd,Nat.reduceMul,Int.reduceLT,Int.reduceLE,Int.reduceToNat,Int.reduceAdd,ne_eq,decide_true,decide_false,tf15, he0]
  refine c_gen2 (fun e' w' => ∃ b, e' 1 = .pointer (some ⟨b, 0, none⟩) ∧ Blk w' b 25 x.cells ∧ Grow w w') ⟨w.heap.size, ?_, Blk.new' w _ x.cells.toArray, Grow.alloc w _⟩ ?_
  · simp -dsimp only [↓RE,RU,RL,↓reduceIte,Nat.reduceEqDiff,reduceCtorEq,decide_true,decide_false, he0]
  clear he0 e
  rintro e w1 ⟨b, he1, hb, g1⟩
  have x0 : ∀ w', Grow w1 w' → w'.cell? ⟨b, 0, none⟩ = some (.string x.p.m) := fun w' g => ((hb.grow g).cell 0).trans rfl
  have x1 : ∀ w', Grow w1 w' → w'.cell? ⟨b, 1, none⟩ = some (.slice x.A x.n x.c) := fun w' g => ((hb.grow g).cell 1).trans rfl
  have x2 : ∀ w', Grow w1 w' → w'.cell? ⟨b, 2, none⟩ = some (.slice x.B x.k x.d) := fun w' g => ((hb.grow g).cell 2).trans rfl
  have x3 : ∀ w', Grow w1 w' → w'.cell? ⟨b, 3, none⟩ = some (.int .i64 x.p.t) := fun w' g => ((hb.grow g).cell 3).trans rfl
  have x0a := x0 w1 (Keep.refl _ _)
  unfold rightE at h
  repeat (first | rw [c_seq] | simp -dsimp only [↓RE,RU,RL,forall_const,implies_true,Nat.reduceLeDiff,Nat.reduceLT,pureOp,binPure,intBin,strBin,eqPure,isConstO,unPure,resK,endV,yieldE,↓reduceIte,Nat.reduceEqDiff,reduceCtorEq,Nat.reduceAdd,Nat.reduceMul,Int.reduceLT,Int.reduceLE,Int.reduceToNat,Int.reduceAdd,ne_eq,decide_true,decide_false,tf15, he1, x0a, add_lit', Nat.zero_add])
  refine name_ok hx.hm (hT.grow g1) (fun w2 g2 => ?_)
  cases hr : rightB x.p.m 64 with
  | false =>
    rw [if_pos hr] at h
    repeat (first | rw [c_seq] | simp -dsimp only [↓RE,RU,RL,forall_const,implies_true,Nat.reduceLeDiff,Nat.reduceLT,pureOp,binPure,intBin,strBin,eqPure,isConstO,unPure,resK,endV,yieldE,↓reduceIte,Nat.reduceEqDiff,reduceCtorEq,Nat.reduceAdd,Nat.reduceMul,Int.reduceLT,Int.reduceLE,Int.reduceToNat,Int.reduceAdd,ne_eq,decide_true,decide_false,tf15, he1, errO, Bool.false_eq_true, if_false])
    refine fnew_ok (by decide) ?_
    repeat (first | rw [c_seq] | simp -dsimp only [↓RE,RU,RL,forall_const,implies_true,Nat.reduceLeDiff,Nat.reduceLT,pureOp,binPure,intBin,strBin,eqPure,isConstO,unPure,resK,endV,yieldE,↓reduceIte,Nat.reduceEqDiff,reduceCtorEq,Nat.reduceAdd,Nat.reduceMul,Int.reduceLT,Int.reduceLE,Int.reduceToNat,Int.reduceAdd,ne_eq,decide_true,decide_false,tf15, he1])
    exact h w2 (g1.trans g2)
  | true =>
    rw [if_neg (by rw [hr]; decide)] at h
    have x1a := x1 w2 g2
    repeat (first | rw [c_seq] | simp -dsimp only [↓RE,RU,RL,forall_const,implies_true,Nat.reduceLeDiff,Nat.reduceLT,pureOp,binPure,intBin,strBin,eqPure,isConstO,unPure,resK,endV,yieldE,↓reduceIte,Nat.reduceEqDiff,reduceCtorEq,Nat.reduceAdd,Nat.reduceMul,Int.reduceLT,Int.reduceLE,Int.reduceToNat,Int.reduceAdd,ne_eq,decide_true,decide_false,tf15, he1, errO, if_true, x1a, add_lit', Nat.zero_add])
    refine ptags_ok (hx.tags.grow (g1.trans g2)) hx.hn hx.ht (hT.grow (g1.trans g2)) (fun w3 g3 => ?_)
    cases htg : tagsB x.p.tags with
    | false =>
      rw [if_pos htg] at h
      repeat (first | rw [c_seq] | simp -dsimp only [↓RE,RU,RL,forall_const,implies_true,Nat.reduceLeDiff,Nat.reduceLT,pureOp,binPure,intBin,strBin,eqPure,isConstO,unPure,resK,endV,yieldE,↓reduceIte,Nat.reduceEqDiff,reduceCtorEq,Nat.reduceAdd,Nat.reduceMul,Int.reduceLT,Int.reduceLE,Int.reduceToNat,Int.reduceAdd,ne_eq,decide_true,decide_false,tf15, he1, Bool.not_false])
      refine fnew_ok (by decide) ?_
      repeat (first | rw [c_seq] | simp -dsimp only [↓RE,RU,RL,forall_const,implies_true,Nat.reduceLeDiff,Nat.reduceLT,pureOp,binPure,intBin,strBin,eqPure,isConstO,unPure,resK,endV,yieldE,↓reduceIte,Nat.reduceEqDiff,reduceCtorEq,Nat.reduceAdd,Nat.reduceMul,Int.reduceLT,Int.reduceLE,Int.reduceToNat,Int.reduceAdd,ne_eq,decide_true,decide_false,tf15, he1])
      exact h w3 ((g1.trans g2).trans g3)
    | true =>
      rw [if_neg (by rw [htg]; decide)] at h
      have x2a := x2 w3 (g2.trans g3)
      repeat (first | rw [c_seq] | simp -dsimp only [↓RE,RU,RL,forall_const,implies_true,Nat.reduceLeDiff,Nat.reduceLT,pureOp,binPure,intBin,strBin,eqPure,isConstO,unPure,resK,endV,yieldE,↓reduceIte,Nat.reduceEqDiff,reduceCtorEq,Nat.reduceAdd,Nat.reduceMul,Int.reduceLT,Int.reduceLE,Int.reduceToNat,Int.reduceAdd,ne_eq,decide_true,decide_false,tf15, he1, Bool.not_true, x2a, add_lit', Nat.zero_add])
      have g13 := (g1.trans g2).trans g3
      refine pfields_ok (hx.fields.grow g13) hx.hk hx.hf (hT.grow g13) (fun w4 g4 => ?_)
      cases hfd : fieldsB x.p.fields with
      | false =>
        rw [if_pos hfd] at h
        repeat (first | rw [c_seq] | simp -dsimp only [↓RE,RU,RL,forall_const,implies_true,Nat.reduceLeDiff,Nat.reduceLT,pureOp,binPure,intBin,strBin,eqPure,isConstO,unPure,resK,endV,yieldE,↓reduceIte,Nat.reduceEqDiff,reduceCtorEq,Nat.reduceAdd,Nat.reduceMul,Int.reduceLT,Int.reduceLE,Int.reduceToNat,Int.reduceAdd,ne_eq,decide_true,decide_false,tf15, he1, Bool.not_false])
        refine fnew_ok (by decide) ?_
        repeat (first | rw [c_seq] | simp -dsimp only [↓RE,RU,RL,forall_const,implies_true,Nat.reduceLeDiff,Nat.reduceLT,pureOp,binPure,intBin,strBin,eqPure,isConstO,unPure,resK,endV,yieldE,↓reduceIte,Nat.reduceEqDiff,reduceCtorEq,Nat.reduceAdd,Nat.reduceMul,Int.reduceLT,Int.reduceLE,Int.reduceToNat,Int.reduceAdd,ne_eq,decide_true,decide_false,tf15, he1])
        exact h w4 (g13.trans g4)
      | true =>
        rw [if_neg (by rw [hfd]; decide)] at h
        have x3a := x3 w4 ((g2.trans g3).trans g4)
        cases h1 : decide (x.p.t < -4611686018427387904) with
        | true =>
          rw [if_pos (by unfold timeBad; rw [h1]; rfl)] at h
          repeat (first | rw [c_seq] | simp -dsimp only [↓RE,RU,RL,forall_const,implies_true,Nat.reduceLeDiff,Nat.reduceLT,pureOp,binPure,intBin,strBin,eqPure,isConstO,unPure,resK,endV,yieldE,↓reduceIte,Nat.reduceEqDiff,reduceCtorEq,Nat.reduceAdd,Nat.reduceMul,Int.reduceLT,Int.reduceLE,Int.reduceToNat,Int.reduceAdd,ne_eq,decide_true,decide_false,tf15, he1, Bool.not_true, x3a, h1, add_lit', Nat.zero_add, undef])
          refine fnew_ok (by decide) ?_
          repeat (first | rw [c_seq] | simp -dsimp only [↓RE,RU,RL,forall_const,implies_true,Nat.reduceLeDiff,Nat.reduceLT,pureOp,binPure,intBin,strBin,eqPure,isConstO,unPure,resK,endV,yieldE,↓reduceIte,Nat.reduceEqDiff,reduceCtorEq,Nat.reduceAdd,Nat.reduceMul,Int.reduceLT,Int.reduceLE,Int.reduceToNat,Int.reduceAdd,ne_eq,decide_true,decide_false,tf15, he1])
          exact h w4 (g13.trans g4)
        | false =>
          cases h2 : decide ((4611686018427387904 : Int) < x.p.t) with
          | true =>
            rw [if_pos (by unfold timeBad; rw [h1, h2]; rfl)] at h
            repeat (first | rw [c_seq] | simp -dsimp only [↓RE,RU,RL,forall_const,implies_true,Nat.reduceLeDiff,Nat.reduceLT,pureOp,binPure,intBin,strBin,eqPure,isConstO,unPure,resK,endV,yieldE,↓reduceIte,Nat.reduceEqDiff,reduceCtorEq,Nat.reduceAdd,Nat.reduceMul,Int.reduceLT,Int.reduceLE,Int.reduceToNat,Int.reduceAdd,ne_eq,decide_true,decide_false,tf15, he1, Bool.not_true, x3a, h1, h2, add_lit', Nat.zero_add])
            refine fnew_ok (by decide) ?_
            repeat (first | rw [c_seq] | simp -dsimp only [↓RE,RU,RL,forall_const,implies_true,Nat.reduceLeDiff,Nat.reduceLT,pureOp,binPure,intBin,strBin,eqPure,isConstO,unPure,resK,endV,yieldE,↓reduceIte,Nat.reduceEqDiff,reduceCtorEq,Nat.reduceAdd,Nat.reduceMul,Int.reduceLT,Int.reduceLE,Int.reduceToNat,Int.reduceAdd,ne_eq,decide_true,decide_false,tf15, he1])
            exact h w4 (g13.trans g4)
          | false =>
            rw [if_neg (by unfold timeBad; rw [h1, h2]; decide)] at h
            repeat (first | rw [c_seq] | simp -dsimp only [↓RE,RU,RL,forall_const,implies_true,Nat.reduceLeDiff,Nat.reduceLT,pureOp,binPure,intBin,strBin,eqPure,isConstO,unPure,resK,endV,yieldE,↓reduceIte,Nat.reduceEqDiff,reduceCtorEq,Nat.reduceAdd,Nat.reduceMul,Int.reduceLT,Int.reduceLE,Int.reduceToNat,Int.reduceAdd,ne_eq,decide_true,decide_false,tf15, he1, Bool.not_true, x3a, h1, h2, add_lit', Nat.zero_add])
            exact h w4 (g13.trans g4)
/-- the document's word, laid into its place. -/
theorem bad_ret {w w' : World} {z : Nat} {b : BadV} (hb : Blk w' z 33 [.int .i64 0, .int .i64 0, .int .i64 0, .bool false, .bool false]) (hz : w.heap.size ≤ z) (g : Grow w w') {K : WK} {tk : Tok K}
    (hK : ∀ w2, Blk w2 z 33 b.cells → Grow w w2 → K w2) : aggSt Tryz.prog w' ⟨z, 0, none⟩ b.cells K tk := by
  refine hb.stAgg (by simp [BadV.cells]) (by intro v hv; simp only [BadV.cells, List.mem_cons, List.not_mem_nil, or_false] at hv; rcases hv with rfl | rfl | rfl | rfl | rfl <;> rfl) (fun w2 hB k2 => hK w2 (by simpa [BadV.cells] using hB) (g.above k2 (fun q hq e => by omega)))
set_option maxHeartbeats 1000000 in
theorem qright_ok {w : World} {x : PtV} (hx : x.Ok w) {R : VWK} (h : ∀ w', Grow w w' → R (badOf (rightE x.p)).v w') : CallsV Tryz.prog 16 [.agg x.cells.toArray] w R := by
  refine calls_of_wpC mixed Tryz.func16 rfl (by kernel_rfl) ?_
  intro e he
  have he0 := he 0
  simp only [List.getD_cons_zero, List.getD_cons_succ] at he0
  clear he
  rw [c_seq]
  simp -dsimp only [↓RE,RU,RL,forall_const,implies_true,Nat.reduceLeDiff,Nat.reduceLT,pureOp,binPure,intBin,strBin,unPure,buildP,resK,endV,yieldE,↓reduceIte,Nat.reduceEqDiff,reduceCtorEq,Nat.reduceAdd,Nat.reduceMul,Int.reduceLT,Int.reduceLE,Int.reduceToNat,Int.reduceAdd,decide_true,decide_false,tf16, he0]
  refine c_gen2 (fun e' w' => ∃ b z, e' 1 = .pointer (some ⟨b, 0, none⟩) ∧ e' 2 = .pointer (some ⟨z, 0, none⟩) ∧ Blk w' b 25 x.cells ∧ Blk w' z 33 [.int .i64 0, .int .i64 0, .int .i64 0, .bool false, .bool false] ∧ w.heap.size ≤ z ∧ Grow w w')
    ⟨w.heap.size, _, ?_, ?_, (two_new w _ _ x.cells.toArray #[.int .i64 0, .int .i64 0, .int .i64 0, .bool false, .bool false]).1, (two_new w 25 _ x.cells.toArray #[.int .i64 0, .int .i64 0, .int .i64 0, .bool false, .bool false]).2.1, by rw [szA]; omega, (two_new w 25 33 x.cells.toArray #[.int .i64 0, .int .i64 0, .int .i64 0, .bool false, .bool false]).2.2⟩ ?_
  · simp -dsimp only [↓RE,RU,RL,↓reduceIte,Nat.reduceEqDiff,reduceCtorEq,decide_true,decide_false, he0]
  · simp -dsimp only [↓RE,RU,RL,↓reduceIte,Nat.reduceEqDiff,reduceCtorEq,decide_true,decide_false, he0]
  clear he0 e
  rintro e w1 ⟨b, z, he1, he2, hb, hbz, hzw, g1⟩
  have x0 : ∀ w', Grow w1 w' → w'.cell? ⟨b, 0, none⟩ = some (.string x.p.m) := fun w' g => ((hb.grow g).cell 0).trans rfl
  have x1 : ∀ w', Grow w1 w' → w'.cell? ⟨b, 1, none⟩ = some (.slice x.A x.n x.c) := fun w' g => ((hb.grow g).cell 1).trans rfl
  have x2 : ∀ w', Grow w1 w' → w'.cell? ⟨b, 2, none⟩ = some (.slice x.B x.k x.d) := fun w' g => ((hb.grow g).cell 2).trans rfl
  have x3 : ∀ w', Grow w1 w' → w'.cell? ⟨b, 3, none⟩ = some (.int .i64 x.p.t) := fun w' g => ((hb.grow g).cell 3).trans rfl
  have x0a := x0 w1 (Keep.refl _ _)
  unfold rightE at h
  repeat (first | rw [c_seq] | simp -dsimp only [↓RE,RU,RL,forall_const,implies_true,Nat.reduceLeDiff,Nat.reduceLT,pureOp,binPure,intBin,strBin,unPure,buildP,resK,endV,yieldE,↓reduceIte,Nat.reduceEqDiff,reduceCtorEq,Nat.reduceAdd,Nat.reduceMul,Int.reduceLT,Int.reduceLE,Int.reduceToNat,Int.reduceAdd,decide_true,decide_false,tf16, he1, x0a, add_lit', Nat.zero_add])
  refine isname_ok hx.hm ?_
  cases hr : rightB x.p.m 64 with
  | false =>
    rw [if_pos hr] at h
    repeat (first | rw [c_seq] | simp -dsimp only [↓RE,RU,RL,forall_const,implies_true,Nat.reduceLeDiff,Nat.reduceLT,pureOp,binPure,intBin,strBin,unPure,buildP,resK,endV,yieldE,↓reduceIte,Nat.reduceEqDiff,reduceCtorEq,Nat.reduceAdd,Nat.reduceMul,Int.reduceLT,Int.reduceLE,Int.reduceToNat,Int.reduceAdd,decide_true,decide_false,tf16, he1, Bool.not_false])
    refine rnew_ok (fun w2 g2 => ?_)
    repeat (first | rw [c_seq] | simp -dsimp only [↓RE,RU,RL,forall_const,implies_true,Nat.reduceLeDiff,Nat.reduceLT,pureOp,binPure,intBin,strBin,unPure,buildP,resK,endV,yieldE,↓reduceIte,Nat.reduceEqDiff,reduceCtorEq,Nat.reduceAdd,Nat.reduceMul,Int.reduceLT,Int.reduceLE,Int.reduceToNat,Int.reduceAdd,decide_true,decide_false,tf16, he2, BadV.v, BadV.cells])
    refine bad_ret (b := badC 50) (hbz.grow g2) hzw (g1.trans g2) (fun w3 hB3 g3 => ?_)
    repeat (first | rw [c_seq] | simp -dsimp only [↓RE,RU,RL,forall_const,implies_true,Nat.reduceLeDiff,Nat.reduceLT,pureOp,binPure,intBin,strBin,unPure,buildP,resK,endV,yieldE,↓reduceIte,Nat.reduceEqDiff,reduceCtorEq,Nat.reduceAdd,Nat.reduceMul,Int.reduceLT,Int.reduceLE,Int.reduceToNat,Int.reduceAdd,decide_true,decide_false,tf16, he2])
    refine hB3.aggK (by simp [BadV.cells]) ?_
    exact h w3 g3
  | true =>
    rw [if_neg (by rw [hr]; decide)] at h
    have x1a := x1 w1 (Keep.refl _ _)
    repeat (first | rw [c_seq] | simp -dsimp only [↓RE,RU,RL,forall_const,implies_true,Nat.reduceLeDiff,Nat.reduceLT,pureOp,binPure,intBin,strBin,unPure,buildP,resK,endV,yieldE,↓reduceIte,Nat.reduceEqDiff,reduceCtorEq,Nat.reduceAdd,Nat.reduceMul,Int.reduceLT,Int.reduceLE,Int.reduceToNat,Int.reduceAdd,decide_true,decide_false,tf16, he1, Bool.not_true, x1a, add_lit', Nat.zero_add])
    refine rtags_ok (hx.tags.grow g1) hx.hn hx.ht (fun w3 g3 => ?_)
    cases htg : tagsB x.p.tags with
    | false =>
      rw [if_pos htg] at h
      repeat (first | rw [c_seq] | simp -dsimp only [↓RE,RU,RL,forall_const,implies_true,Nat.reduceLeDiff,Nat.reduceLT,pureOp,binPure,intBin,strBin,unPure,buildP,resK,endV,yieldE,↓reduceIte,Nat.reduceEqDiff,reduceCtorEq,Nat.reduceAdd,Nat.reduceMul,Int.reduceLT,Int.reduceLE,Int.reduceToNat,Int.reduceAdd,decide_true,decide_false,tf16, he1, Bool.not_false])
      refine rnew_ok (fun w2 g2 => ?_)
      repeat (first | rw [c_seq] | simp -dsimp only [↓RE,RU,RL,forall_const,implies_true,Nat.reduceLeDiff,Nat.reduceLT,pureOp,binPure,intBin,strBin,unPure,buildP,resK,endV,yieldE,↓reduceIte,Nat.reduceEqDiff,reduceCtorEq,Nat.reduceAdd,Nat.reduceMul,Int.reduceLT,Int.reduceLE,Int.reduceToNat,Int.reduceAdd,decide_true,decide_false,tf16, he2, BadV.v, BadV.cells])
      refine bad_ret (b := badC 52) (hbz.grow (g3.trans g2)) hzw (g1.trans (g3.trans g2)) (fun w3 hB3 g3 => ?_)
      repeat (first | rw [c_seq] | simp -dsimp only [↓RE,RU,RL,forall_const,implies_true,Nat.reduceLeDiff,Nat.reduceLT,pureOp,binPure,intBin,strBin,unPure,buildP,resK,endV,yieldE,↓reduceIte,Nat.reduceEqDiff,reduceCtorEq,Nat.reduceAdd,Nat.reduceMul,Int.reduceLT,Int.reduceLE,Int.reduceToNat,Int.reduceAdd,decide_true,decide_false,tf16, he2])
      refine hB3.aggK (by simp [BadV.cells]) ?_
      exact h w3 g3
    | true =>
      rw [if_neg (by rw [htg]; decide)] at h
      have x2a := x2 w3 g3
      repeat (first | rw [c_seq] | simp -dsimp only [↓RE,RU,RL,forall_const,implies_true,Nat.reduceLeDiff,Nat.reduceLT,pureOp,binPure,intBin,strBin,unPure,buildP,resK,endV,yieldE,↓reduceIte,Nat.reduceEqDiff,reduceCtorEq,Nat.reduceAdd,Nat.reduceMul,Int.reduceLT,Int.reduceLE,Int.reduceToNat,Int.reduceAdd,decide_true,decide_false,tf16, he1, Bool.not_true, x2a, add_lit', Nat.zero_add])
      refine rfields_ok (hx.fields.grow (g1.trans g3)) hx.hk hx.hf (fun w4 g4 => ?_)
      have g14 := g3.trans g4
      cases hfd : fieldsB x.p.fields with
      | false =>
        rw [if_pos hfd] at h
        repeat (first | rw [c_seq] | simp -dsimp only [↓RE,RU,RL,forall_const,implies_true,Nat.reduceLeDiff,Nat.reduceLT,pureOp,binPure,intBin,strBin,unPure,buildP,resK,endV,yieldE,↓reduceIte,Nat.reduceEqDiff,reduceCtorEq,Nat.reduceAdd,Nat.reduceMul,Int.reduceLT,Int.reduceLE,Int.reduceToNat,Int.reduceAdd,decide_true,decide_false,tf16, he1, Bool.not_false])
        refine rnew_ok (fun w2 g2 => ?_)
        repeat (first | rw [c_seq] | simp -dsimp only [↓RE,RU,RL,forall_const,implies_true,Nat.reduceLeDiff,Nat.reduceLT,pureOp,binPure,intBin,strBin,unPure,buildP,resK,endV,yieldE,↓reduceIte,Nat.reduceEqDiff,reduceCtorEq,Nat.reduceAdd,Nat.reduceMul,Int.reduceLT,Int.reduceLE,Int.reduceToNat,Int.reduceAdd,decide_true,decide_false,tf16, he2, BadV.v, BadV.cells])
        refine bad_ret (b := badC 70) (hbz.grow (g14.trans g2)) hzw (g1.trans (g14.trans g2)) (fun w3 hB3 g3 => ?_)
        repeat (first | rw [c_seq] | simp -dsimp only [↓RE,RU,RL,forall_const,implies_true,Nat.reduceLeDiff,Nat.reduceLT,pureOp,binPure,intBin,strBin,unPure,buildP,resK,endV,yieldE,↓reduceIte,Nat.reduceEqDiff,reduceCtorEq,Nat.reduceAdd,Nat.reduceMul,Int.reduceLT,Int.reduceLE,Int.reduceToNat,Int.reduceAdd,decide_true,decide_false,tf16, he2])
        refine hB3.aggK (by simp [BadV.cells]) ?_
        exact h w3 g3
      | true =>
        rw [if_neg (by rw [hfd]; decide)] at h
        have x3a := x3 w4 g14
        have hend : timeBad x.p.t = true → ∀ w', Grow w w' → R (BadV.v (badC 2)) w' := fun hq w' g => by
          rw [if_pos hq] at h
          exact h w' g
        cases h1 : decide (x.p.t < -4611686018427387904) with
        | true =>
          have hend := hend (by unfold timeBad; rw [h1]; rfl)
          repeat (first | rw [c_seq] | simp -dsimp only [↓RE,RU,RL,forall_const,implies_true,Nat.reduceLeDiff,Nat.reduceLT,pureOp,binPure,intBin,strBin,unPure,buildP,resK,endV,yieldE,↓reduceIte,Nat.reduceEqDiff,reduceCtorEq,Nat.reduceAdd,Nat.reduceMul,Int.reduceLT,Int.reduceLE,Int.reduceToNat,Int.reduceAdd,decide_true,decide_false,tf16, he1, Bool.not_true, x3a, h1, add_lit', Nat.zero_add, undef])
          refine rnew_ok (fun w2 g2 => ?_)
          repeat (first | rw [c_seq] | simp -dsimp only [↓RE,RU,RL,forall_const,implies_true,Nat.reduceLeDiff,Nat.reduceLT,pureOp,binPure,intBin,strBin,unPure,buildP,resK,endV,yieldE,↓reduceIte,Nat.reduceEqDiff,reduceCtorEq,Nat.reduceAdd,Nat.reduceMul,Int.reduceLT,Int.reduceLE,Int.reduceToNat,Int.reduceAdd,decide_true,decide_false,tf16, he2, BadV.v, BadV.cells])
          refine bad_ret (b := badC 2) (hbz.grow (g14.trans g2)) hzw (g1.trans (g14.trans g2)) (fun w3 hB3 g3 => ?_)
          repeat (first | rw [c_seq] | simp -dsimp only [↓RE,RU,RL,forall_const,implies_true,Nat.reduceLeDiff,Nat.reduceLT,pureOp,binPure,intBin,strBin,unPure,buildP,resK,endV,yieldE,↓reduceIte,Nat.reduceEqDiff,reduceCtorEq,Nat.reduceAdd,Nat.reduceMul,Int.reduceLT,Int.reduceLE,Int.reduceToNat,Int.reduceAdd,decide_true,decide_false,tf16, he2])
          refine hB3.aggK (by simp [BadV.cells]) ?_
          exact hend w3 g3
        | false =>
          cases h2 : decide ((4611686018427387904 : Int) < x.p.t) with
          | true =>
            have hend := hend (by unfold timeBad; rw [h1, h2]; rfl)
            repeat (first | rw [c_seq] | simp -dsimp only [↓RE,RU,RL,forall_const,implies_true,Nat.reduceLeDiff,Nat.reduceLT,pureOp,binPure,intBin,strBin,unPure,buildP,resK,endV,yieldE,↓reduceIte,Nat.reduceEqDiff,reduceCtorEq,Nat.reduceAdd,Nat.reduceMul,Int.reduceLT,Int.reduceLE,Int.reduceToNat,Int.reduceAdd,decide_true,decide_false,tf16, he1, Bool.not_true, x3a, h1, h2, add_lit', Nat.zero_add])
            refine rnew_ok (fun w2 g2 => ?_)
            repeat (first | rw [c_seq] | simp -dsimp only [↓RE,RU,RL,forall_const,implies_true,Nat.reduceLeDiff,Nat.reduceLT,pureOp,binPure,intBin,strBin,unPure,buildP,resK,endV,yieldE,↓reduceIte,Nat.reduceEqDiff,reduceCtorEq,Nat.reduceAdd,Nat.reduceMul,Int.reduceLT,Int.reduceLE,Int.reduceToNat,Int.reduceAdd,decide_true,decide_false,tf16, he2, BadV.v, BadV.cells])
            refine bad_ret (b := badC 2) (hbz.grow (g14.trans g2)) hzw (g1.trans (g14.trans g2)) (fun w3 hB3 g3 => ?_)
            repeat (first | rw [c_seq] | simp -dsimp only [↓RE,RU,RL,forall_const,implies_true,Nat.reduceLeDiff,Nat.reduceLT,pureOp,binPure,intBin,strBin,unPure,buildP,resK,endV,yieldE,↓reduceIte,Nat.reduceEqDiff,reduceCtorEq,Nat.reduceAdd,Nat.reduceMul,Int.reduceLT,Int.reduceLE,Int.reduceToNat,Int.reduceAdd,decide_true,decide_false,tf16, he2])
            refine hB3.aggK (by simp [BadV.cells]) ?_
            exact hend w3 g3
          | false =>
            rw [if_neg (by unfold timeBad; rw [h1, h2]; decide)] at h
            repeat (first | rw [c_seq] | simp -dsimp only [↓RE,RU,RL,forall_const,implies_true,Nat.reduceLeDiff,Nat.reduceLT,pureOp,binPure,intBin,strBin,unPure,buildP,resK,endV,yieldE,↓reduceIte,Nat.reduceEqDiff,reduceCtorEq,Nat.reduceAdd,Nat.reduceMul,Int.reduceLT,Int.reduceLE,Int.reduceToNat,Int.reduceAdd,decide_true,decide_false,tf16, he1, he2, Bool.not_true, x3a, h1, h2, add_lit', Nat.zero_add])
            refine bad_ret (b := BadV.none) (hbz.grow g14) hzw (g1.trans g14) (fun w3 hB3 g3 => ?_)
            repeat (first | rw [c_seq] | simp -dsimp only [↓RE,RU,RL,forall_const,implies_true,Nat.reduceLeDiff,Nat.reduceLT,pureOp,binPure,intBin,strBin,unPure,buildP,resK,endV,yieldE,↓reduceIte,Nat.reduceEqDiff,reduceCtorEq,Nat.reduceAdd,Nat.reduceMul,Int.reduceLT,Int.reduceLE,Int.reduceToNat,Int.reduceAdd,decide_true,decide_false,tf16, he2])
            refine hB3.aggK (by simp [BadV.cells]) ?_
            exact h w3 g3

end Go.Proofs.YtljgnocpijniiaaGreatDoor
