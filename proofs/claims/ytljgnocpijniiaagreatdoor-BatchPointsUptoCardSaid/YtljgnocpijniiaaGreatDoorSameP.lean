/- The document's SamePoint, SamePoints: of like points they say true. -/
import Derived.Test.YtljgnocpijniiaaGreatDoorChk
set_option linter.unusedVariables false
set_option linter.unusedSimpArgs false
set_option maxRecDepth 100000
namespace Go.Proofs.YtljgnocpijniiaaGreatDoor
open Go

/-- a point that can be read. -/
structure PtRd (w : World) (x : PtV) : Prop where
  tags : RdT w x.A x.n x.p.tags
  fields : RdF w x.B x.k x.p.fields
  hn : x.n ≤ 1000000000000
  hk : x.k ≤ 1000000000000
theorem PtV.Ok.rdy {w : World} {x : PtV} (h : x.Ok w) : PtRd w x := ⟨h.tags, h.fields, Nat.le_trans h.hn (by decide), Nat.le_trans h.hk (by decide)⟩
theorem PtRd.grow {w w' : World} {x : PtV} (h : PtRd w x) (g : Grow w w') : PtRd w' x := ⟨h.tags.grow g, h.fields.grow g, h.hn, h.hk⟩
theorem sametags_ok {w : World} {A B : Option Addr} {n m c d : Nat} {x y : List Tg} (hx : RdT w A n x) (hy : RdT w B m y) (hn : n ≤ 4611686018427387904) (hm : m ≤ 4611686018427387904) (he : x = y) {R : VWK}
    (h : ∀ w', Grow w w' → R (.bool true) w') : CallsV Tryz.prog 121 [.slice A n c, .slice B m d] w R := by
  have hz : cmpTs x y = 0 := (cmpTs_eq x y).2 he
  have d0 : decide ((0 : Int) = 0) = true := rfl
  refine calls_of_wpC mixed Tryz.func121 rfl (by kernel_rfl) ?_
  intro e he
  have he0 := he 0
  have he1 := he 1
  simp only [List.getD_cons_zero, List.getD_cons_succ] at he0 he1
  clear he
  repeat (first | rw [c_seq] | simp -dsimp only [↓RE,RU,RL,Nat.reduceLeDiff,Nat.reduceLT,pureOp,binPure,intBin,strBin,eqPure,isConstO,resK,endV,↓reduceIte,Nat.reduceEqDiff,reduceCtorEq,Nat.reduceAdd,Nat.reduceMul,Int.reduceLT,Int.reduceLE,Int.reduceToNat,Int.reduceAdd,decide_true,decide_false,tf121, he0, he1])
  refine rctags_ok hx hy hn hm (fun w1 g1 => ?_)
  rw [hz]
  repeat (first | rw [c_seq] | simp -dsimp only [↓RE,RU,RL,Nat.reduceLeDiff,Nat.reduceLT,pureOp,binPure,intBin,strBin,eqPure,isConstO,resK,endV,↓reduceIte,Nat.reduceEqDiff,reduceCtorEq,Nat.reduceAdd,Nat.reduceMul,Int.reduceLT,Int.reduceLE,Int.reduceToNat,Int.reduceAdd,decide_true,decide_false,tf121, he0, d0])
  exact h w1 g1
set_option maxHeartbeats 4000000 in
theorem samep_ok {w : World} {x y : PtV} (hx : PtRd w x) (hy : PtRd w y) (he : x.p = y.p) {R : VWK} (h : ∀ w', Grow w w' → R (.bool true) w') : CallsV Tryz.prog 61 [.agg x.cells.toArray, .agg y.cells.toArray] w R := by
  obtain ⟨p, A, n, c, B, k, d⟩ := x
  obtain ⟨p', A', n', c', B', k', d'⟩ := y
  simp only at he
  subst he
  have hn1 := hx.tags.tlen
  have hn2 := hy.tags.tlen
  have hk1 := hx.fields.flen
  have hk2 := hy.fields.flen
  simp only at hn1 hn2 hk1 hk2
  subst hn1; subst hk1
  have hn2 : n' = p.tags.length := hn2.symm
  have hk2 : k' = p.fields.length := hk2.symm
  subst hn2; subst hk2
  have hln := hx.hn
  have hlk := hx.hk
  simp only at hln hlk
  refine calls_of_wpC mixed Tryz.func61 rfl (by kernel_rfl) ?_
  intro e he
  have he0 := he 0
  have he1 := he 1
  simp only [List.getD_cons_zero, List.getD_cons_succ] at he0 he1
  clear he
  rw [c_seq]
  simp -dsimp only [↓RE,RU,RL,forall_const,implies_true,Nat.reduceLeDiff,Nat.reduceLT,pureOp,binPure,intBin,strBin,eqPure,isConstO,unPure,lenPure,resK,endV,yieldE,↓reduceIte,Nat.reduceEqDiff,reduceCtorEq,Nat.reduceAdd,Nat.reduceMul,Int.reduceLT,Int.reduceLE,Int.reduceToNat,Int.reduceAdd,ne_eq,decide_true,decide_false,tf61, he0, he1, PtV.cells]
  refine c_gen2 (fun e' w' => ∃ b z, e' 2 = .pointer (some ⟨b, 0, none⟩) ∧ e' 3 = .pointer (some ⟨z, 0, none⟩) ∧ Blk w' b 25 [.string p.m, .slice A p.tags.length c, .slice B p.fields.length d, .int .i64 p.t] ∧ Blk w' z 25 [.string p.m, .slice A' p.tags.length c', .slice B' p.fields.length d', .int .i64 p.t] ∧ Grow w w')
    ⟨w.heap.size, _, ?_, ?_, (two_new w _ 25 #[.string p.m, .slice A p.tags.length c, .slice B p.fields.length d, .int .i64 p.t] #[.string p.m, .slice A' p.tags.length c', .slice B' p.fields.length d', .int .i64 p.t]).1, (two_new w 25 _ #[.string p.m, .slice A p.tags.length c, .slice B p.fields.length d, .int .i64 p.t] #[.string p.m, .slice A' p.tags.length c', .slice B' p.fields.length d', .int .i64 p.t]).2.1, (two_new w 25 25 #[.string p.m, .slice A p.tags.length c, .slice B p.fields.length d, .int .i64 p.t] #[.string p.m, .slice A' p.tags.length c', .slice B' p.fields.length d', .int .i64 p.t]).2.2⟩ ?_
  · simp -dsimp only [↓RE,RU,RL,↓reduceIte,Nat.reduceEqDiff,reduceCtorEq,decide_true,decide_false, he0]
  · simp -dsimp only [↓RE,RU,RL,↓reduceIte,Nat.reduceEqDiff,reduceCtorEq,decide_true,decide_false, he0]
  clear he0 he1 e
  rintro e w1 ⟨b, z, he2, he3, hb, hz, g1⟩
  have b0 : w1.cell? ⟨b, 0, none⟩ = some (.string p.m) := (hb.cell 0).trans rfl
  have b1 : w1.cell? ⟨b, 1, none⟩ = some (.slice A p.tags.length c) := (hb.cell 1).trans rfl
  have b2 : w1.cell? ⟨b, 2, none⟩ = some (.slice B p.fields.length d) := (hb.cell 2).trans rfl
  have b3 : w1.cell? ⟨b, 3, none⟩ = some (.int .i64 p.t) := (hb.cell 3).trans rfl
  have z0 : w1.cell? ⟨z, 0, none⟩ = some (.string p.m) := (hz.cell 0).trans rfl
  have z1 : w1.cell? ⟨z, 1, none⟩ = some (.slice A' p.tags.length c') := (hz.cell 1).trans rfl
  have z2 : w1.cell? ⟨z, 2, none⟩ = some (.slice B' p.fields.length d') := (hz.cell 2).trans rfl
  have z3 : w1.cell? ⟨z, 3, none⟩ = some (.int .i64 p.t) := (hz.cell 3).trans rfl
  have dt : decide (p.t = p.t) = true := decide_eq_true rfl
  have dk : decide (((p.fields.length : Nat) : Int) = (p.fields.length : Nat)) = true := decide_eq_true rfl
  repeat (first | rw [c_seq] | simp -dsimp only [↓RE,RU,RL,forall_const,implies_true,Nat.reduceLeDiff,Nat.reduceLT,pureOp,binPure,intBin,strBin,eqPure,isConstO,unPure,lenPure,resK,endV,yieldE,↓reduceIte,Nat.reduceEqDiff,reduceCtorEq,Nat.reduceAdd,Nat.reduceMul,Int.reduceLT,Int.reduceLE,Int.reduceToNat,Int.reduceAdd,ne_eq,decide_true,decide_false,tf61, he2, he3, b0, b1, b2, b3, z0, z1, z2, z3, add_lit', Nat.zero_add, beq_self_eq_true, dt, Bool.not_true])
  refine sametags_ok (hx.tags.grow g1) (hy.tags.grow g1) (show p.tags.length ≤ _ by omega) (show p.tags.length ≤ _ by omega) rfl (fun w2 g2 => ?_)
  have hb := hb.grow g2
  have hz := hz.grow g2
  have g02 := g1.trans g2
  clear b0 b1 b2 b3 z0 z1 z2 z3
  have b2 : w2.cell? ⟨b, 2, none⟩ = some (.slice B p.fields.length d) := (hb.cell 2).trans rfl
  have z2 : w2.cell? ⟨z, 2, none⟩ = some (.slice B' p.fields.length d') := (hz.cell 2).trans rfl
  repeat (first | rw [c_seq] | simp -dsimp only [↓RE,RU,RL,forall_const,implies_true,Nat.reduceLeDiff,Nat.reduceLT,pureOp,binPure,intBin,strBin,eqPure,isConstO,unPure,lenPure,resK,endV,yieldE,↓reduceIte,Nat.reduceEqDiff,reduceCtorEq,Nat.reduceAdd,Nat.reduceMul,Int.reduceLT,Int.reduceLE,Int.reduceToNat,Int.reduceAdd,ne_eq,decide_true,decide_false,tf61, he2, he3, b2, z2, add_lit', Nat.zero_add, dk, Bool.not_true])
  refine wpLoop_intro (fun e' w' => (Blk w' b 25 [.string p.m, .slice A p.tags.length c, .slice B p.fields.length d, .int .i64 p.t] ∧ Blk w' z 25 [.string p.m, .slice A' p.tags.length c', .slice B' p.fields.length d', .int .i64 p.t] ∧ Grow w w') ∧ (e' 2 = .pointer (some ⟨b, 0, none⟩) ∧ e' 3 = .pointer (some ⟨z, 0, none⟩)) ∧ ∃ k : Nat, k ≤ p.fields.length ∧ e' 5 = .int .i64 (k : Int))
    (fun e' _ => p.fields.length - (envInt (e' 5)).toNat) ⟨⟨hb, hz, g02⟩, ⟨?_, ?_⟩, 0, Nat.zero_le _, ?_⟩ ?_
  · simp -dsimp only [↓RE,RU,RL,↓reduceIte,Nat.reduceEqDiff,reduceCtorEq,decide_true,decide_false, he2]
  · simp -dsimp only [↓RE,RU,RL,↓reduceIte,Nat.reduceEqDiff,reduceCtorEq,decide_true,decide_false, he3]
  · simp -dsimp only [↓RE,RU,RL,↓reduceIte,Nat.reduceEqDiff,reduceCtorEq,decide_true,decide_false, he2]
    rfl
  clear he2 he3 b2 z2 hb hz e
  rintro e w3 ⟨⟨hb, hz, g3⟩, ⟨he2, he3⟩, k, hk, he5⟩
  have b2 : ∀ w', Grow w3 w' → w'.cell? ⟨b, 2, none⟩ = some (.slice B p.fields.length d) := fun w' g => ((hb.grow g).cell 2).trans rfl
  have z2 : ∀ w', Grow w3 w' → w'.cell? ⟨z, 2, none⟩ = some (.slice B' p.fields.length d') := fun w' g => ((hz.grow g).cell 2).trans rfl
  have b2a := b2 w3 (Keep.refl _ _)
  rcases Nat.lt_or_ge k p.fields.length with hlt | hge
  · have hdk : decide ((k : Int) < (p.fields.length : Nat)) = true := decide_eq_true (by omega)
    have hw1 : IntKind.i64.wrap ((k : Int) + 1) = ((k + 1 : Nat) : Int) := by rw [wrap_i64_in (by omega) (by omega)]; omega
    have hmu : (envInt (e 5)).toNat = k := by rw [he5]; exact Int.toNat_natCast k
    obtain ⟨fa, rfl⟩ : ∃ fd, B = some fd := by
      obtain ⟨ad, e, _⟩ := hx.fields.2 (show 0 < p.fields.length by omega)
      exact ⟨ad, e⟩
    obtain ⟨fb, rfl⟩ : ∃ fd, B' = some fd := by
      obtain ⟨ad, e, _⟩ := hy.fields.2 (show 0 < p.fields.length by omega)
      exact ⟨ad, e⟩
    have fa0 := fun w' (g : Grow w3 w') => ((Rd.grow hx.fields (g3.trans g)).fd hlt).1
    have fa1 := fun w' (g : Grow w3 w') => ((Rd.grow hx.fields (g3.trans g)).fd hlt).2.1
    have fb0 := fun w' (g : Grow w3 w') => ((Rd.grow hy.fields (g3.trans g)).fd hlt).1
    have fb1 := fun w' (g : Grow w3 w') => ((Rd.grow hy.fields (g3.trans g)).fd hlt).2.1
    simp only at fa0 fa1 fb0 fb1
    generalize p.fields.getD k f00 = f at fa0 fa1 fb0 fb1
    have la : ∀ w', Grow w3 w' → ∀ j v, (fcells f)[j]? = some v → w'.cell? ((fa.add (k * 2)).add j) = some v := fun w' g j v hv => by
      match j, hv with
      | 0, hv => injection hv with hv; subst hv; rw [add_zero']; exact fa0 w' g
      | 1, hv => injection hv with hv; subst hv; exact fa1 w' g
      | j + 2, hv => cases hv
    have lb : ∀ w', Grow w3 w' → ∀ j v, (fcells f)[j]? = some v → w'.cell? ((fb.add (k * 2)).add j) = some v := fun w' g j v hv => by
      match j, hv with
      | 0, hv => injection hv with hv; subst hv; rw [add_zero']; exact fb0 w' g
      | 1, hv => injection hv with hv; subst hv; exact fb1 w' g
      | j + 2, hv => cases hv
    repeat (first | rw [c_seq] | simp -dsimp only [↓RE,RU,RL,forall_const,implies_true,Nat.reduceLeDiff,Nat.reduceLT,pureOp,binPure,intBin,strBin,eqPure,isConstO,unPure,lenPure,resK,endV,yieldE,↓reduceIte,Nat.reduceEqDiff,reduceCtorEq,Nat.reduceAdd,Nat.reduceMul,Int.reduceLT,Int.reduceLE,Int.reduceToNat,Int.reduceAdd,ne_eq,decide_true,decide_false,tf61, he2, he5, b2a, hdk, add_lit', Nat.zero_add])
    refine wpDraw_by (Grow w3 ·) [(0, true), (1, true), (2, true), (3, true), (4, true), (5, true), (6, true), (7, true), (8, true), (9, true), (10, true)] (by kernel_rfl) (Grow.drew w3) ?_
    simp only [planL, List.getElem?_toArray, List.getElem?_cons_zero, List.getElem?_cons_succ, Option.toList_some, List.map_cons, List.map_nil, List.cons_append, List.nil_append]
    repeat (first | rw [c_seq] | simp -dsimp only [↓RE,RU,RL,forall_const,implies_true,Nat.reduceLeDiff,Nat.reduceLT,pureOp,binPure,intBin,strBin,eqPure,isConstO,unPure,lenPure,resK,endV,yieldE,↓reduceIte,Nat.reduceEqDiff,reduceCtorEq,Nat.reduceAdd,Nat.reduceMul,Int.reduceLT,Int.reduceLE,Int.reduceToNat,Int.reduceAdd,ne_eq,decide_true,decide_false,tf61, he2, he3, he5, add_lit', Nat.zero_add, Int.toNat_natCast])
    refine ⟨_, b2, ?_⟩
    repeat (first | rw [c_seq] | simp -dsimp only [↓RE,RU,RL,forall_const,implies_true,Nat.reduceLeDiff,Nat.reduceLT,pureOp,binPure,intBin,strBin,eqPure,isConstO,unPure,lenPure,resK,endV,yieldE,↓reduceIte,Nat.reduceEqDiff,reduceCtorEq,Nat.reduceAdd,Nat.reduceMul,Int.reduceLT,Int.reduceLE,Int.reduceToNat,Int.reduceAdd,ne_eq,decide_true,decide_false,tf61, he2, he3, he5, add_lit', Nat.zero_add, Int.toNat_natCast])
    refine ⟨⟨by omega, by omega⟩, fcells f, rfl, la, ?_⟩
    repeat (first | rw [c_seq] | simp -dsimp only [↓RE,RU,RL,forall_const,implies_true,Nat.reduceLeDiff,Nat.reduceLT,pureOp,binPure,intBin,strBin,eqPure,isConstO,unPure,lenPure,resK,endV,yieldE,↓reduceIte,Nat.reduceEqDiff,reduceCtorEq,Nat.reduceAdd,Nat.reduceMul,Int.reduceLT,Int.reduceLE,Int.reduceToNat,Int.reduceAdd,ne_eq,decide_true,decide_false,tf61, he2, he3, he5, add_lit', Nat.zero_add, Int.toNat_natCast])
    refine ⟨_, z2, ?_⟩
    repeat (first | rw [c_seq] | simp -dsimp only [↓RE,RU,RL,forall_const,implies_true,Nat.reduceLeDiff,Nat.reduceLT,pureOp,binPure,intBin,strBin,eqPure,isConstO,unPure,lenPure,resK,endV,yieldE,↓reduceIte,Nat.reduceEqDiff,reduceCtorEq,Nat.reduceAdd,Nat.reduceMul,Int.reduceLT,Int.reduceLE,Int.reduceToNat,Int.reduceAdd,ne_eq,decide_true,decide_false,tf61, he2, he3, he5, add_lit', Nat.zero_add, Int.toNat_natCast])
    refine ⟨⟨by omega, by omega⟩, fcells f, rfl, lb, ?_⟩
    repeat (first | rw [c_seq] | simp -dsimp only [↓RE,RU,RL,forall_const,implies_true,Nat.reduceLeDiff,Nat.reduceLT,pureOp,binPure,intBin,strBin,eqPure,isConstO,unPure,lenPure,resK,endV,yieldE,↓reduceIte,Nat.reduceEqDiff,reduceCtorEq,Nat.reduceAdd,Nat.reduceMul,Int.reduceLT,Int.reduceLE,Int.reduceToNat,Int.reduceAdd,ne_eq,decide_true,decide_false,tf61, he5, hw1, fcells, eq_self, and_self, decide_true, Bool.not_true])
    refine hold_intro ⟨⟨⟨hb.drew, hz.drew, g3.trans (Grow.drew w3)⟩, ⟨?_, ?_⟩, k + 1, hlt, ?_⟩, ?_⟩
    · simp -dsimp only [↓RE,RU,RL,↓reduceIte,Nat.reduceEqDiff,reduceCtorEq,decide_true,decide_false, he2]
    · simp -dsimp only [↓RE,RU,RL,↓reduceIte,Nat.reduceEqDiff,reduceCtorEq,decide_true,decide_false, he3]
    · simp -dsimp only [↓RE,RU,RL,↓reduceIte,Nat.reduceEqDiff,reduceCtorEq,decide_true,decide_false, hw1]
    · rw [hmu]
      simp -dsimp only [↓RE,↓c_seq,RU,RL,forall_const,implies_true,Nat.reduceLeDiff,Nat.reduceLT,pureOp,binPure,intBin,strBin,eqPure,isConstO,unPure,lenPure,resK,endV,yieldE,↓reduceIte,Nat.reduceEqDiff,reduceCtorEq,Nat.reduceAdd,Nat.reduceMul,Int.reduceLT,Int.reduceLE,Int.reduceToNat,Int.reduceAdd,ne_eq,decide_true,decide_false,tf61, hw1]
      simp only [envInt_int]; omega
  · have hdk : decide ((k : Int) < (p.fields.length : Nat)) = false := decide_eq_false (by omega)
    repeat (first | rw [c_seq] | simp -dsimp only [↓RE,RU,RL,forall_const,implies_true,Nat.reduceLeDiff,Nat.reduceLT,pureOp,binPure,intBin,strBin,eqPure,isConstO,unPure,lenPure,resK,endV,yieldE,↓reduceIte,Nat.reduceEqDiff,reduceCtorEq,Nat.reduceAdd,Nat.reduceMul,Int.reduceLT,Int.reduceLE,Int.reduceToNat,Int.reduceAdd,ne_eq,decide_true,decide_false,tf61, he2, he5, b2a, hdk, add_lit', Nat.zero_add])
    exact h w3 g3
set_option maxHeartbeats 2000000 in
theorem samepts_ok {w : World} {A B : Option Addr} {n c d : Nat} {X Y : List PtV} (hX : RdP w A n X) (hY : RdP w B n Y) (hoX : ∀ x ∈ X, PtRd w x) (hoY : ∀ x ∈ Y, PtRd w x) (he : X.map PtV.p = Y.map PtV.p) (hn : n ≤ 100000000000) {R : VWK}
    (h : ∀ w', Grow w w' → R (.bool true) w') : CallsV Tryz.prog 32 [.slice A n c, .slice B n d] w R := by
  have hXl := hX.plen
  have hYl := hY.plen
  have dn : decide ((n : Int) = (n : Int)) = true := decide_eq_true rfl
  refine calls_of_wpC mixed Tryz.func32 rfl (by kernel_rfl) ?_
  intro e he
  have he0 := he 0
  have he1 := he 1
  simp only [List.getD_cons_zero, List.getD_cons_succ] at he0 he1
  clear he
  repeat (first | rw [c_seq] | simp -dsimp only [↓RE,RU,RL,Nat.reduceLeDiff,Nat.reduceLT,pureOp,binPure,intBin,strBin,eqPure,isConstO,unPure,lenPure,resK,endV,↓reduceIte,Nat.reduceEqDiff,reduceCtorEq,Nat.reduceAdd,Nat.reduceMul,Int.reduceLT,Int.reduceLE,Int.reduceToNat,Int.reduceAdd,ne_eq,decide_true,decide_false,tf32, he0, he1, dn, Bool.not_true])
  refine wpLoop_intro (fun e' w' => Grow w w' ∧ (e' 0 = .slice A n c ∧ e' 1 = .slice B n d) ∧ ∃ k : Nat, k ≤ n ∧ e' 5 = .int .i64 (k : Int))
    (fun e' _ => n - (envInt (e' 5)).toNat) ⟨Keep.refl _ _, ⟨?_, ?_⟩, 0, Nat.zero_le _, ?_⟩ ?_
  · simp -dsimp only [↓RE,RU,RL,↓reduceIte,Nat.reduceEqDiff,reduceCtorEq,decide_true,decide_false, he0]
  · simp -dsimp only [↓RE,RU,RL,↓reduceIte,Nat.reduceEqDiff,reduceCtorEq,decide_true,decide_false, he1]
  · simp -dsimp only [↓RE,RU,RL,↓reduceIte,Nat.reduceEqDiff,reduceCtorEq,decide_true,decide_false, he0]
    rfl
  clear he0 he1 e
  rintro e w3 ⟨g3, ⟨he0, he1⟩, k, hk, he5⟩
  rcases Nat.lt_or_ge k n with hlt | hge
  · have hdk : decide ((k : Int) < (n : Int)) = true := decide_eq_true (by omega)
    have hw1 : IntKind.i64.wrap ((k : Int) + 1) = ((k + 1 : Nat) : Int) := by rw [wrap_i64_in (by omega) (by omega)]; omega
    have hmu : (envInt (e 5)).toNat = k := by rw [he5]; exact Int.toNat_natCast k
    obtain ⟨a, rfl⟩ : ∃ a, A = some a := by
      obtain ⟨ad, e, _⟩ := hX.2 (by omega)
      exact ⟨ad, e⟩
    obtain ⟨b, rfl⟩ : ∃ a, B = some a := by
      obtain ⟨ad, e, _⟩ := hY.2 (by omega)
      exact ⟨ad, e⟩
    have xc := fun w' (g : Grow w3 w') => (Rd.grow hX (g3.trans g)).pt hlt
    have yc := fun w' (g : Grow w3 w') => (Rd.grow hY (g3.trans g)).pt hlt
    have ox := hoX _ (getP_mem (l := X) (k := k) (by omega))
    have oy := hoY _ (getP_mem (l := Y) (k := k) (by omega))
    have hp : (X.getD k p00).p = (Y.getD k p00).p := by
      have := congrArg (fun l => l.getD k p00.p) he
      simp only [List.getD_eq_getElem?_getD, List.getElem?_map] at this
      simp only [List.getD_eq_getElem?_getD]
      rw [List.getElem?_eq_getElem (by omega), List.getElem?_eq_getElem (by omega)] at this ⊢
      exact this
    generalize X.getD k p00 = x at xc ox hp
    generalize Y.getD k p00 = y at yc oy hp
    repeat (first | rw [c_seq] | simp -dsimp only [↓RE,RU,RL,Nat.reduceLeDiff,Nat.reduceLT,pureOp,binPure,intBin,strBin,eqPure,isConstO,unPure,lenPure,resK,endV,↓reduceIte,Nat.reduceEqDiff,reduceCtorEq,Nat.reduceAdd,Nat.reduceMul,Int.reduceLT,Int.reduceLE,Int.reduceToNat,Int.reduceAdd,ne_eq,decide_true,decide_false,tf32, he0, he1, he5, hdk])
    refine wpDraw_by (Grow w3 ·) [(0, true), (1, true), (2, true), (3, true), (4, true), (5, true), (6, true), (7, true), (8, false), (9, true)] (by kernel_rfl) (Grow.drew w3) ?_
    simp only [planL, List.getElem?_toArray, List.getElem?_cons_zero, List.getElem?_cons_succ, Option.toList_some, List.map_cons, List.map_nil, List.cons_append, List.nil_append]
    repeat (first | rw [c_seq] | simp -dsimp only [↓RE,RU,RL,Nat.reduceLeDiff,Nat.reduceLT,pureOp,binPure,intBin,strBin,eqPure,isConstO,unPure,lenPure,resK,endV,↓reduceIte,Nat.reduceEqDiff,reduceCtorEq,Nat.reduceAdd,Nat.reduceMul,Int.reduceLT,Int.reduceLE,Int.reduceToNat,Int.reduceAdd,ne_eq,decide_true,decide_false,tf32, he0, he1, he5, Int.toNat_natCast])
    refine ⟨⟨by omega, by omega⟩, x.cells, rfl, xc, ?_⟩
    repeat (first | rw [c_seq] | simp -dsimp only [↓RE,RU,RL,Nat.reduceLeDiff,Nat.reduceLT,pureOp,binPure,intBin,strBin,eqPure,isConstO,unPure,lenPure,resK,endV,↓reduceIte,Nat.reduceEqDiff,reduceCtorEq,Nat.reduceAdd,Nat.reduceMul,Int.reduceLT,Int.reduceLE,Int.reduceToNat,Int.reduceAdd,ne_eq,decide_true,decide_false,tf32, he0, he1, he5, Int.toNat_natCast])
    refine ⟨⟨by omega, by omega⟩, y.cells, rfl, yc, ?_⟩
    repeat (first | rw [c_seq] | simp -dsimp only [↓RE,RU,RL,Nat.reduceLeDiff,Nat.reduceLT,pureOp,binPure,intBin,strBin,eqPure,isConstO,unPure,lenPure,resK,endV,↓reduceIte,Nat.reduceEqDiff,reduceCtorEq,Nat.reduceAdd,Nat.reduceMul,Int.reduceLT,Int.reduceLE,Int.reduceToNat,Int.reduceAdd,ne_eq,decide_true,decide_false,tf32, he0, he1, he5, Int.toNat_natCast])
    refine samep_ok (ox.grow (g3.trans (Grow.drew w3))) (oy.grow (g3.trans (Grow.drew w3))) hp (fun w4 g4 => ?_)
    have g34 := (Grow.drew w3).trans g4
    refine ⟨g34, ?_⟩
    repeat (first | rw [c_seq] | simp -dsimp only [↓RE,RU,RL,Nat.reduceLeDiff,Nat.reduceLT,pureOp,binPure,intBin,strBin,eqPure,isConstO,unPure,lenPure,resK,endV,↓reduceIte,Nat.reduceEqDiff,reduceCtorEq,Nat.reduceAdd,Nat.reduceMul,Int.reduceLT,Int.reduceLE,Int.reduceToNat,Int.reduceAdd,ne_eq,decide_true,decide_false,tf32, he5, hw1, Bool.not_true])
    refine hold_intro ⟨⟨g3.trans g34, ⟨?_, ?_⟩, k + 1, hlt, ?_⟩, ?_⟩
    · simp -dsimp only [↓RE,RU,RL,↓reduceIte,Nat.reduceEqDiff,reduceCtorEq,decide_true,decide_false, he0]
    · simp -dsimp only [↓RE,RU,RL,↓reduceIte,Nat.reduceEqDiff,reduceCtorEq,decide_true,decide_false, he1]
    · simp -dsimp only [↓RE,RU,RL,↓reduceIte,Nat.reduceEqDiff,reduceCtorEq,decide_true,decide_false, hw1]
    · rw [hmu]
      simp -dsimp only [↓RE,↓c_seq,RU,RL,Nat.reduceLeDiff,Nat.reduceLT,pureOp,binPure,intBin,strBin,eqPure,isConstO,unPure,lenPure,resK,endV,↓reduceIte,Nat.reduceEqDiff,reduceCtorEq,Nat.reduceAdd,Nat.reduceMul,Int.reduceLT,Int.reduceLE,Int.reduceToNat,Int.reduceAdd,ne_eq,decide_true,decide_false,tf32, hw1]
      simp only [envInt_int]; omega
  · have hdk : decide ((k : Int) < (n : Int)) = false := decide_eq_false (by omega)
    repeat (first | rw [c_seq] | simp -dsimp only [↓RE,RU,RL,Nat.reduceLeDiff,Nat.reduceLT,pureOp,binPure,intBin,strBin,eqPure,isConstO,unPure,lenPure,resK,endV,↓reduceIte,Nat.reduceEqDiff,reduceCtorEq,Nat.reduceAdd,Nat.reduceMul,Int.reduceLT,Int.reduceLE,Int.reduceToNat,Int.reduceAdd,ne_eq,decide_true,decide_false,tf32, he0, he5, hdk])
    exact h w3 g3

end Go.Proofs.YtljgnocpijniiaaGreatDoor
