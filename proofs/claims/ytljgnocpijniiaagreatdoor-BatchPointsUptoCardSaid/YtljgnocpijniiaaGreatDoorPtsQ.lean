/- The document's Points. -/
import Derived.Test.YtljgnocpijniiaaGreatDoorPtsB
import Derived.Test.YtljgnocpijniiaaGreatDoorOrdQ
set_option linter.unusedVariables false
set_option linter.unusedSimpArgs false
set_option maxRecDepth 100000
namespace Go.Proofs.YtljgnocpijniiaaGreatDoor
open Go

/-- a point that can be compared. -/
structure PtC (w : World) (x : PtV) : Prop where
  tg : RdT w x.A x.n x.p.tags
  hn : x.n ≤ 1000000000000
  tm : SOk (x.p.t, 0, 0)
theorem PtC.grow {w w' : World} {x : PtV} (h : PtC w x) (g : Grow w w') : PtC w' x := ⟨h.tg.grow g, h.hn, h.tm⟩
def PtV.asW (x : PtV) : WrV := ⟨⟨⟨x.p.m, x.p.tags, .empty⟩, x.A, x.n, x.c⟩, (x.p.t, 0, 0)⟩
theorem PtC.ok {w : World} {x : PtV} (h : PtC w x) : x.asW.Ok w := ⟨⟨h.tg, h.hn⟩, h.tm⟩
theorem bld_eq (m : ByteArray) (A : Option Addr) (n c : Nat) (t : Int) :
    (Option.map Value.agg (if (List.take 3 (List.drop 0 [Value.string m, .slice A n c, .string .empty])).length = 3 ∧ (List.take 3 (List.drop 0 [Value.string m, .slice A n c, .string .empty])).length ≤ 6 then
      if 6 ≤ (putAt #[Value.string .empty, .slice none 0 0, .string .empty, .int .i64 0, .int .u8 0, .int .i64 0] 0 (List.take 3 (List.drop 0 [Value.string m, .slice A n c, .string .empty]))).size then
        some ((((putAt #[Value.string .empty, .slice none 0 0, .string .empty, .int .i64 0, .int .u8 0, .int .i64 0] 0 (List.take 3 (List.drop 0 [Value.string m, .slice A n c, .string .empty]))).setIfInBounds 3 (.int .i64 t)).setIfInBounds 4 (.int .u8 0)).setIfInBounds 5 (.int .i64 0))
      else none else none)) = some (.agg #[.string m, .slice A n c, .string .empty, .int .i64 t, .int .u8 0, .int .i64 0]) := rfl
set_option maxHeartbeats 1000000 in
theorem ahead_ok {w : World} {a b : PtV} (ha : PtC w a) (hb : PtC w b) {R : VWK} (h : ∀ w', Grow w w' → R (.int .i64 (cmpB (ptK a.p) (ptK b.p))) w') : CallsV Tryz.prog 67 [.agg a.cells.toArray, .agg b.cells.toArray] w R := by
  refine calls_of_wpC mixed Tryz.func67 rfl (by kernel_rfl) ?_
  intro e he
  have he0 := he 0
  have he1 := he 1
  simp only [List.getD_cons_zero, List.getD_cons_succ] at he0 he1
  clear he
  rw [c_seq]
  simp -dsimp only [↓RE,RU,RL,Nat.reduceLeDiff,Nat.reduceLT,pureOp,buildP,resK,endV,↓reduceIte,Nat.reduceEqDiff,reduceCtorEq,Nat.reduceAdd,Nat.reduceMul,Int.reduceLT,Int.reduceLE,Int.reduceToNat,decide_true,decide_false,tf67, he0, he1]
  refine c_gen2 (fun e' w' => ∃ p q, e' 2 = .pointer (some ⟨p, 0, none⟩) ∧ e' 3 = .pointer (some ⟨q, 0, none⟩) ∧ Blk w' p 25 a.cells ∧ Blk w' q 25 b.cells ∧ Grow w w') ⟨_, _, ?_, ?_, two_new w _ _ a.cells.toArray b.cells.toArray⟩ ?_
  · simp -dsimp only [↓RE,RU,RL,↓reduceIte,Nat.reduceEqDiff,reduceCtorEq,decide_true,decide_false, he0]
  · simp -dsimp only [↓RE,RU,RL,↓reduceIte,Nat.reduceEqDiff,reduceCtorEq,decide_true,decide_false, he0]
  clear he0 he1 e
  rintro e w1 ⟨p, q, he2, he3, hb1, hb2, g1⟩
  have a0 : w1.cell? ⟨p, 0, none⟩ = some (.string a.p.m) := (hb1.cell 0).trans rfl
  have a1 : w1.cell? ⟨p, 1, none⟩ = some (.slice a.A a.n a.c) := (hb1.cell 1).trans rfl
  repeat (first | rw [c_seq] | simp -dsimp only [↓RE,RU,RL,Nat.reduceLeDiff,Nat.reduceLT,pureOp,buildP,resK,endV,↓reduceIte,Nat.reduceEqDiff,reduceCtorEq,Nat.reduceAdd,Nat.reduceMul,Int.reduceLT,Int.reduceLE,Int.reduceToNat,decide_true,decide_false,tf67, he2, a0, a1, add_lit', Nat.zero_add])
  refine new3 (fun w2 hs2 g2 => ?_) rfl rfl rfl
  have b0 : w2.cell? ⟨q, 0, none⟩ = some (.string b.p.m) := ((hb2.grow g2).cell 0).trans rfl
  have b1 : w2.cell? ⟨q, 1, none⟩ = some (.slice b.A b.n b.c) := ((hb2.grow g2).cell 1).trans rfl
  repeat (first | rw [c_seq] | simp -dsimp only [↓RE,RU,RL,Nat.reduceLeDiff,Nat.reduceLT,pureOp,buildP,resK,endV,↓reduceIte,Nat.reduceEqDiff,reduceCtorEq,Nat.reduceAdd,Nat.reduceMul,Int.reduceLT,Int.reduceLE,Int.reduceToNat,decide_true,decide_false,tf67, he2, he3, b0, b1, add_lit', Nat.zero_add])
  refine new3 (fun w3 hs3 g3 => ?_) rfl rfl rfl
  have hs2' := hs2.grow g3
  have g13 := g2.trans g3
  have a3 : w3.cell? ⟨p, 3, none⟩ = some (.int .i64 a.p.t) := ((hb1.grow g13).cell 3).trans rfl
  have b3 : w3.cell? ⟨q, 3, none⟩ = some (.int .i64 b.p.t) := ((hb2.grow g13).cell 3).trans rfl
  repeat (first | rw [c_seq] | simp -dsimp only [↓RE,RU,RL,Nat.reduceLeDiff,Nat.reduceLT,pureOp,buildP,resK,endV,↓reduceIte,Nat.reduceEqDiff,reduceCtorEq,Nat.reduceAdd,Nat.reduceMul,Int.reduceLT,Int.reduceLE,Int.reduceToNat,decide_true,decide_false,tf67, he2, he3, a3, b3, add_lit', Nat.zero_add])
  refine hs2'.aggK (cs := [.string a.p.m, .slice a.A a.n a.c, .string .empty]) (by simp) ?_
  repeat (first | rw [c_seq] | simp -dsimp only [↓RE,RU,RL,Nat.reduceLeDiff,Nat.reduceLT,pureOp,buildP,resK,endV,↓reduceIte,Nat.reduceEqDiff,reduceCtorEq,Nat.reduceAdd,Nat.reduceMul,Int.reduceLT,Int.reduceLE,Int.reduceToNat,decide_true,decide_false,tf67, he2, he3, a3, b3, add_lit', Nat.zero_add])
  repeat (first | rw [c_seq] | simp -dsimp only [↓RE,RU,RL,Nat.reduceLeDiff,Nat.reduceLT,pureOp,buildP,resK,endV,↓reduceIte,Nat.reduceEqDiff,reduceCtorEq,Nat.reduceAdd,Nat.reduceMul,Int.reduceLT,Int.reduceLE,Int.reduceToNat,decide_true,decide_false,tf67, he2, he3, b3, bld_eq, add_lit', Nat.zero_add])
  refine hs3.aggK (cs := [.string b.p.m, .slice b.A b.n b.c, .string .empty]) (by simp) ?_
  repeat (first | rw [c_seq] | simp -dsimp only [↓RE,RU,RL,Nat.reduceLeDiff,Nat.reduceLT,pureOp,buildP,resK,endV,↓reduceIte,Nat.reduceEqDiff,reduceCtorEq,Nat.reduceAdd,Nat.reduceMul,Int.reduceLT,Int.reduceLE,Int.reduceToNat,decide_true,decide_false,tf67, he2, he3, b3, bld_eq, add_lit', Nat.zero_add])
  have g03 := g1.trans g13
  refine rwcmp_ok (a := a.asW) (b := b.asW) (ha.grow g03).ok (hb.grow g03).ok (fun w4 g4 => ?_)
  repeat (first | rw [c_seq] | simp -dsimp only [↓RE,RU,RL,Nat.reduceLeDiff,Nat.reduceLT,pureOp,buildP,resK,endV,↓reduceIte,Nat.reduceEqDiff,reduceCtorEq,Nat.reduceAdd,Nat.reduceMul,Int.reduceLT,Int.reduceLE,Int.reduceToNat,decide_true,decide_false,tf67, he2])
  exact h w4 (g03.trans g4)

theorem filt_snoc (L : List Wr) (x : Wr) : (L ++ [x]).filter k0 = if k0 x = true then L.filter k0 ++ [x] else L.filter k0 := by
  rw [List.filter_append]
  cases h : k0 x with
  | true => rw [List.filter_cons_of_pos h]; rfl
  | false => rw [List.filter_cons_of_neg (by rw [h]; simp), List.filter_nil, List.append_nil]; rfl
theorem shift_getP {S : List PtV} {x : PtV} {j : Nat} (h0 : 0 < j) (hj : j ≤ S.length) : (S.take j ++ x :: S.drop j)[j - 1]? = some (S.getD (j - 1) p00) := by
  rw [List.getElem?_append_left (by rw [List.length_take]; omega), List.getElem?_take, if_pos (by omega), List.getD_eq_getElem?_getD, List.getElem?_eq_getElem (by omega)]; rfl
theorem shift_endP {S : List PtV} {x t : PtV} {i : Nat} (hi : i ≤ S.length) : (S.take i ++ x :: S.drop i).set i t = S.take i ++ t :: S.drop i := by
  have hl : (S.take i).length = i := by rw [List.length_take]; omega
  rw [List.set_append_right _ _ (by omega), hl, Nat.sub_self]; rfl
theorem shift_setP {S : List PtV} {x : PtV} {j : Nat} (h0 : 0 < j) (hj : j ≤ S.length) : (S.take j ++ x :: S.drop j).set j (S.getD (j - 1) p00) = S.take (j - 1) ++ S.getD (j - 1) p00 :: S.drop (j - 1) := by
  rw [shift_endP hj]
  have h1 : S.take j = S.take (j - 1) ++ [S.getD (j - 1) p00] := by
    have := ptk_snoc (l := S) (k := j - 1) (by omega)
    rw [show j - 1 + 1 = j by omega] at this
    exact this
  have h2 : S.drop (j - 1) = S.getD (j - 1) p00 :: S.drop j := by
    rw [List.drop_eq_getElem_cons (by omega), show j - 1 + 1 = j by omega, List.getD_eq_getElem?_getD, List.getElem?_eq_getElem (by omega)]; rfl
  rw [h1, h2, List.append_assoc]
  rfl
set_option maxHeartbeats 16000000 in
theorem qpoints_ok {w : World} {A : Option Addr} {n c : Nat} {L : List WrV} (hL : RdW w A n L) (ho : ∀ x ∈ L, x.Ok w) (hn : n ≤ 100000000) (hc : n ≤ c) {R : VWK}
    (h : ∀ w' v D, PtsR w w' v D (ptsP (L.map WrV.wr)) → Grow w w' → R v w') : CallsV Tryz.prog 34 [.slice A n c] w R := by
  have hLl := hL.wlen
  refine calls_of_wpC mixed Tryz.func34 rfl (by kernel_rfl) ?_
  intro e he
  have he0 := he 0
  simp only [List.getD_cons_zero, List.getD_cons_succ] at he0
  clear he
  repeat (first | rw [c_seq] | simp -dsimp only [↓RE,RU,RL,forall_const,implies_true,Nat.reduceLeDiff,Nat.reduceLT,pureOp,binPure,intBin,strBin,eqPure,isConstO,lenPure,buildP,resK,endV,yieldE,↓reduceIte,Nat.reduceEqDiff,reduceCtorEq,Nat.reduceAdd,Nat.reduceMul,Int.reduceLT,Int.reduceLE,Int.reduceToNat,Int.reduceAdd,Int.reduceSub,ne_eq,decide_true,decide_false,tf34, he0])
  refine rorder_ok _ hL ho (by omega) hc (fun w1 v1 D hD g1 => ?_)
  have hl1 := wOrd_len (L.map WrV.wr)
  rw [← hD.eq, List.length_map, List.length_map] at hl1
  obtain ⟨A1, c1, rfl, _, _⟩ := hD.row.form
  have h : ∀ w' v D', PtsR w1 w' v D' (pAll ((D.map WrV.wr).filter k0)) → Grow w1 w' → R v w' := fun w' v D' hD' g => h w' v D' ⟨by rw [hD'.eq, hD.eq]; rfl, hD'.row, hD'.own, fun q hq => Nat.le_trans g1.size (hD'.fresh q hq)⟩ (g1.trans g)
  have hrd := hD.row.rd
  have hDo := hD.ok
  obtain ⟨m, hm⟩ : ∃ m, m = D.length := ⟨_, rfl⟩
  rw [← hm] at hrd hl1 ⊢
  have hm8 : m ≤ 100000000 := by omega
  clear hD hL ho hLl g1
  repeat (first | rw [c_seq] | simp -dsimp only [↓RE,RU,RL,forall_const,implies_true,Nat.reduceLeDiff,Nat.reduceLT,pureOp,binPure,intBin,strBin,eqPure,isConstO,lenPure,buildP,resK,endV,yieldE,↓reduceIte,Nat.reduceEqDiff,reduceCtorEq,Nat.reduceAdd,Nat.reduceMul,Int.reduceLT,Int.reduceLE,Int.reduceToNat,Int.reduceAdd,Int.reduceSub,ne_eq,decide_true,decide_false,tf34, he0])
  refine wpLoop_intro (fun e' w' => Grow w1 w' ∧ e' 4 = .slice A1 m c1 ∧ ∃ (k : Nat) (Out : List PtV) (v : Value), k ≤ m ∧ e' 5 = .int .i64 (k : Int) ∧ e' 3 = v ∧ Out.map PtV.p = pAll (((D.take k).map WrV.wr).filter k0) ∧ PRow w' v Out ∧ (∀ u ∈ Out, PtOwn w' u ∧ u.k ≤ k ∧ SOk (u.p.t, 0, 0)) ∧ ApartF Out ∧ (∀ q, fpV v q → w1.heap.size ≤ q) ∧ (∀ u ∈ Out, ∀ q, fpA u.B q → w1.heap.size ≤ q) ∧ Out.length ≤ k)
    (fun e' _ => m - (envInt (e' 5)).toNat) ⟨Keep.refl _ _, ?_, 0, [], .slice none 0 0, Nat.zero_le _, ?_, ?_, rfl, LRow.nil _ _ _, (fun x hx => by cases hx), List.Pairwise.nil, (fun q hq => (fpV_none _ hq).elim), (fun x hx => by cases hx), Nat.zero_le _⟩ ?_
  · simp -dsimp only [↓RE,RU,RL,↓reduceIte,Nat.reduceEqDiff,reduceCtorEq,decide_true,decide_false, he0]
  · simp -dsimp only [↓RE,RU,RL,↓reduceIte,Nat.reduceEqDiff,reduceCtorEq,decide_true,decide_false, he0]
    rfl
  · simp -dsimp only [↓RE,RU,RL,↓reduceIte,Nat.reduceEqDiff,reduceCtorEq,decide_true,decide_false, he0]
  clear he0 e
  rintro e w4 ⟨g4, he4, k, Out, v, hk, he5, he3, hout, hv, hown, hap, hF, hFB, holn⟩
  rcases Nat.lt_or_ge k m with hlt | hge
  · have hdk : decide ((k : Int) < (m : Int)) = true := decide_eq_true (by omega)
    have hw1 : IntKind.i64.wrap ((k : Int) + 1) = ((k + 1 : Nat) : Int) := by rw [wrap_i64_in (by omega) (by omega)]; omega
    have hmu : (envInt (e 5)).toNat = k := by rw [he5]; exact Int.toNat_natCast k
    have hsn := wtk_snoc (l := D) (k := k) (by omega)
    obtain ⟨ad, rfl⟩ : ∃ ad, A1 = some ad := by
      obtain ⟨ad, e, _⟩ := hrd.2 (by omega)
      exact ⟨ad, e⟩
    have hcs := (Rd.grow hrd g4).wrc hlt
    have hxo := hDo _ (getD_mem (l := D) (k := k) (by omega))
    have hnext : ((D.take (k + 1)).map WrV.wr).filter k0 = if k0 (D.getD k w00).wr = true then ((D.take k).map WrV.wr).filter k0 ++ [(D.getD k w00).wr] else ((D.take k).map WrV.wr).filter k0 := by
      rw [hsn, List.map_append]; exact filt_snoc _ _
    generalize hx : D.getD k w00 = x at hcs hxo hsn hnext
    rw [c_seq, c_seq]
    simp -dsimp only [↓RE,RU,RL,forall_const,implies_true,Nat.reduceLeDiff,Nat.reduceLT,pureOp,binPure,intBin,strBin,eqPure,isConstO,lenPure,buildP,resK,endV,yieldE,↓reduceIte,Nat.reduceEqDiff,reduceCtorEq,Nat.reduceAdd,Nat.reduceMul,Int.reduceLT,Int.reduceLE,Int.reduceToNat,Int.reduceAdd,Int.reduceSub,ne_eq,decide_true,decide_false,tf34, he4, he5, hdk]
    rw [c_seq]
    simp -dsimp only [↓RE,RU,RL,forall_const,implies_true,Nat.reduceLeDiff,Nat.reduceLT,pureOp,binPure,intBin,strBin,eqPure,isConstO,lenPure,buildP,resK,endV,yieldE,↓reduceIte,Nat.reduceEqDiff,reduceCtorEq,Nat.reduceAdd,Nat.reduceMul,Int.reduceLT,Int.reduceLE,Int.reduceToNat,Int.reduceAdd,Int.reduceSub,ne_eq,decide_true,decide_false,tf34, he4, he5, hdk]
    rw [c_seq]
    simp -dsimp only [↓RE,RU,RL,forall_const,implies_true,Nat.reduceLeDiff,Nat.reduceLT,pureOp,binPure,intBin,strBin,eqPure,isConstO,lenPure,buildP,resK,endV,yieldE,↓reduceIte,Nat.reduceEqDiff,reduceCtorEq,Nat.reduceAdd,Nat.reduceMul,Int.reduceLT,Int.reduceLE,Int.reduceToNat,Int.reduceAdd,Int.reduceSub,ne_eq,decide_true,decide_false,tf34, he4, he5, Int.toNat_natCast]
    refine ⟨⟨by omega, by omega⟩, x.cells, rfl, hcs, ?_⟩
    simp -dsimp only [↓RE,RU,RL,forall_const,implies_true,Nat.reduceLeDiff,Nat.reduceLT,pureOp,binPure,intBin,strBin,eqPure,isConstO,lenPure,buildP,resK,endV,yieldE,↓reduceIte,Nat.reduceEqDiff,reduceCtorEq,Nat.reduceAdd,Nat.reduceMul,Int.reduceLT,Int.reduceLE,Int.reduceToNat,Int.reduceAdd,Int.reduceSub,ne_eq,decide_true,decide_false,tf34, he5]
    refine ⟨rfl, newN rfl (wcells_one x) (fun w5 hb5 g5 => ?_)⟩
    have hbb : w4.heap.size ≤ w4.heap.size := Nat.le_refl _
    generalize hbs : w4.heap.size = b at hb5
    refine os_gen (fun e' => e' 4 = .slice (some ad) m c1 ∧ e' 5 = .int .i64 (k : Int) ∧ e' 3 = v ∧ e' 6 = .pointer (some ⟨b, 0, none⟩)) ⟨?_, ?_, ?_, ?_⟩ ?_
    · simp -dsimp only [↓RE,RU,RL,↓reduceIte,Nat.reduceEqDiff,reduceCtorEq,decide_true,decide_false, he4]
    · simp -dsimp only [↓RE,RU,RL,↓reduceIte,Nat.reduceEqDiff,reduceCtorEq,decide_true,decide_false, he5]
    · simp -dsimp only [↓RE,RU,RL,↓reduceIte,Nat.reduceEqDiff,reduceCtorEq,decide_true,decide_false, he3]
    · simp -dsimp only [↓RE,RU,RL,↓reduceIte,Nat.reduceEqDiff,reduceCtorEq,decide_true,decide_false, he5, hbs]
    clear he4 he5 he3
    rintro e1 ⟨he4, he5, he3, he6⟩
    have b4 : w5.cell? ⟨b, 4, none⟩ = some (.int .u8 x.x.2.1) := (hb5.cell 4).trans rfl
    obtain ⟨Av, cv, rfl, hnc, hAv⟩ := hv.form
    simp -dsimp only [↓RE,RU,RL,forall_const,implies_true,Nat.reduceLeDiff,Nat.reduceLT,pureOp,binPure,intBin,strBin,eqPure,isConstO,lenPure,buildP,resK,endV,yieldE,↓reduceIte,Nat.reduceEqDiff,reduceCtorEq,Nat.reduceAdd,Nat.reduceMul,Int.reduceLT,Int.reduceLE,Int.reduceToNat,Int.reduceAdd,Int.reduceSub,ne_eq,decide_true,decide_false,tf34, he6]
    rw [c_seq]
    cases hkk : k0 x.wr with
    | false =>
      have dkd : decide (x.x.2.1 = 0) = false := hkk
      rw [if_neg (by rw [hkk]; simp)] at hnext
      repeat (first | rw [c_seq] | simp -dsimp only [↓RE,RU,RL,forall_const,implies_true,Nat.reduceLeDiff,Nat.reduceLT,pureOp,binPure,intBin,strBin,eqPure,isConstO,lenPure,buildP,resK,endV,yieldE,↓reduceIte,Nat.reduceEqDiff,reduceCtorEq,Nat.reduceAdd,Nat.reduceMul,Int.reduceLT,Int.reduceLE,Int.reduceToNat,Int.reduceAdd,Int.reduceSub,ne_eq,decide_true,decide_false,tf34, he5, he6, b4, dkd, hw1, add_lit', Nat.zero_add, Bool.not_false])
      refine hold_intro ⟨⟨g4.trans g5, ?_, k + 1, Out, .slice Av Out.length cv, hlt, ?_, ?_, by rw [hnext]; exact hout, hv.grow g5, fun u hu => ⟨(hown u hu).1.grow g5, Nat.le_succ_of_le (hown u hu).2.1, (hown u hu).2.2⟩, hap, hF, hFB, Nat.le_succ_of_le holn⟩, ?_⟩
      · simp -dsimp only [↓RE,RU,RL,↓reduceIte,Nat.reduceEqDiff,reduceCtorEq,decide_true,decide_false, he4]
      · simp -dsimp only [↓RE,RU,RL,↓reduceIte,Nat.reduceEqDiff,reduceCtorEq,decide_true,decide_false, hw1]
      · simp -dsimp only [↓RE,RU,RL,↓reduceIte,Nat.reduceEqDiff,reduceCtorEq,decide_true,decide_false, he3]
      · rw [hmu]
        simp -dsimp only [↓RE,↓c_seq,RU,RL,forall_const,implies_true,Nat.reduceLeDiff,Nat.reduceLT,pureOp,binPure,intBin,strBin,eqPure,isConstO,lenPure,buildP,resK,endV,yieldE,↓reduceIte,Nat.reduceEqDiff,reduceCtorEq,Nat.reduceAdd,Nat.reduceMul,Int.reduceLT,Int.reduceLE,Int.reduceToNat,Int.reduceAdd,Int.reduceSub,ne_eq,decide_true,decide_false,tf34, hw1]
        simp only [envInt_int]; omega
    | true =>
      have dkd : decide (x.x.2.1 = 0) = true := hkk
      rw [if_pos hkk] at hnext
      have b0 : w5.cell? ⟨b, 0, none⟩ = some (.string x.s.s.m) := (hb5.cell 0).trans rfl
      have b1 : w5.cell? ⟨b, 1, none⟩ = some (.slice x.s.A x.s.n x.s.c) := (hb5.cell 1).trans rfl
      have b3 : w5.cell? ⟨b, 3, none⟩ = some (.int .i64 x.x.1) := (hb5.cell 3).trans rfl
      obtain ⟨pv, hpv⟩ : ∃ pv : PtV, pv = ⟨⟨x.s.s.m, x.s.s.tags, [], x.x.1⟩, x.s.A, x.s.n, x.s.c, none, 0, 0⟩ := ⟨_, rfl⟩
      have hpvc : pv.cells = [.string x.s.s.m, .slice x.s.A x.s.n x.s.c, .slice none 0 0, .int .i64 x.x.1] := by rw [hpv]; rfl
      repeat (first | rw [c_seq] | simp -dsimp only [↓RE,RU,RL,forall_const,implies_true,Nat.reduceLeDiff,Nat.reduceLT,pureOp,binPure,intBin,strBin,eqPure,isConstO,lenPure,buildP,resK,endV,yieldE,↓reduceIte,Nat.reduceEqDiff,reduceCtorEq,Nat.reduceAdd,Nat.reduceMul,Int.reduceLT,Int.reduceLE,Int.reduceToNat,Int.reduceAdd,Int.reduceSub,ne_eq,decide_true,decide_false,tf34, he6, b0, b1, b3, b4, dkd, add_lit', Nat.zero_add, Bool.not_true])
      refine newN (cs := [.string x.s.s.m, .slice x.s.A x.s.n x.s.c, .slice none 0 0, .int .i64 x.x.1]) rfl (by rw [← hpvc]; exact pcells_one pv) (fun w6 hp6 g6 => ?_)
      have hpb5 := g5.size
      generalize hpbs : w5.heap.size = pb at hp6 hpb5
      refine os_gen (fun e' => e' 4 = .slice (some ad) m c1 ∧ e' 5 = .int .i64 (k : Int) ∧ e' 3 = .slice Av Out.length cv ∧ e' 6 = .pointer (some ⟨b, 0, none⟩) ∧ e' 7 = .pointer (some ⟨pb, 0, none⟩)) ⟨?_, ?_, ?_, ?_, ?_⟩ ?_
      · simp -dsimp only [↓RE,RU,RL,↓reduceIte,Nat.reduceEqDiff,reduceCtorEq,decide_true,decide_false, he4]
      · simp -dsimp only [↓RE,RU,RL,↓reduceIte,Nat.reduceEqDiff,reduceCtorEq,decide_true,decide_false, he5]
      · simp -dsimp only [↓RE,RU,RL,↓reduceIte,Nat.reduceEqDiff,reduceCtorEq,decide_true,decide_false, he3]
      · simp -dsimp only [↓RE,RU,RL,↓reduceIte,Nat.reduceEqDiff,reduceCtorEq,decide_true,decide_false, he6]
      · simp -dsimp only [↓RE,RU,RL,↓reduceIte,Nat.reduceEqDiff,reduceCtorEq,decide_true,decide_false, he6, hpbs]
      clear he4 he5 he3 he6
      rintro e2 ⟨he4, he5, he3, he6, he7⟩
      have c2a : w6.cell? ⟨b, 2, none⟩ = some (.string x.s.s.f) := ((hb5.grow g6).cell 2).trans rfl
      have c5a : w6.cell? ⟨b, 5, none⟩ = some (.int .i64 x.x.2.2) := ((hb5.grow g6).cell 5).trans rfl
      repeat (first | rw [c_seq] | simp -dsimp only [↓RE,RU,RL,forall_const,implies_true,Nat.reduceLeDiff,Nat.reduceLT,pureOp,binPure,intBin,strBin,eqPure,isConstO,lenPure,buildP,resK,endV,yieldE,↓reduceIte,Nat.reduceEqDiff,reduceCtorEq,Nat.reduceAdd,Nat.reduceMul,Int.reduceLT,Int.reduceLE,Int.reduceToNat,Int.reduceAdd,Int.reduceSub,ne_eq,decide_true,decide_false,tf34, he6, c2a, c5a, add_lit', Nat.zero_add])
      refine new2 (fun w7 hf7 g7 => ?_) rfl rfl
      have hff : w4.heap.size ≤ w6.heap.size := Nat.le_trans hpb5 (by rw [← hpbs]; exact g6.size)
      have hpf : pb < w6.heap.size := hp6.lt
      generalize hfs : w6.heap.size = f at hf7 hff hpf
      refine os_gen (fun e' => e' 4 = .slice (some ad) m c1 ∧ e' 5 = .int .i64 (k : Int) ∧ e' 3 = .slice Av Out.length cv ∧ e' 6 = .pointer (some ⟨b, 0, none⟩) ∧ e' 7 = .pointer (some ⟨pb, 0, none⟩) ∧ e' 8 = .pointer (some ⟨f, 0, none⟩)) ⟨?_, ?_, ?_, ?_, ?_, ?_⟩ ?_
      · simp -dsimp only [↓RE,RU,RL,↓reduceIte,Nat.reduceEqDiff,reduceCtorEq,decide_true,decide_false, he4]
      · simp -dsimp only [↓RE,RU,RL,↓reduceIte,Nat.reduceEqDiff,reduceCtorEq,decide_true,decide_false, he5]
      · simp -dsimp only [↓RE,RU,RL,↓reduceIte,Nat.reduceEqDiff,reduceCtorEq,decide_true,decide_false, he3]
      · simp -dsimp only [↓RE,RU,RL,↓reduceIte,Nat.reduceEqDiff,reduceCtorEq,decide_true,decide_false, he6]
      · simp -dsimp only [↓RE,RU,RL,↓reduceIte,Nat.reduceEqDiff,reduceCtorEq,decide_true,decide_false, he7]
      · simp -dsimp only [↓RE,RU,RL,↓reduceIte,Nat.reduceEqDiff,reduceCtorEq,decide_true,decide_false, he6, hfs]
      clear he4 he5 he3 he6 he7
      rintro e3 ⟨he4, he5, he3, he6, he7, he8⟩
      have hp7 : Blk w7 pb 25 pv.cells := by rw [hpvc]; exact hp6.grow g7
      have hb7 := (hb5.grow g6).grow g7
      have g47 := (g5.trans g6).trans g7
      have g17 := g4.trans g47
      have hv7 : PRow w7 (.slice Av Out.length cv) Out := hv.grow g47
      have hkey : ∀ u : PtV, cmpB (ptK u.p) (ptK pv.p) = cmpB (ptK u.p) x.wr := fun u => by rw [hpv]; rfl
      have hpc : PtC w7 pv := by
        rw [hpv]
        exact ⟨(hxo.1.1).grow g17, hxo.1.2, hxo.2.1, (show (0 : Int) ≤ 0 ∧ (0 : Int) < 256 by decide), (show (-9223372036854775808 : Int) ≤ 0 ∧ (0 : Int) < 9223372036854775808 by decide)⟩
      have hoc : ∀ u ∈ Out, PtC w7 u := fun u hu => ⟨((hown u hu).1.grow g47).tg.rd, (hown u hu).1.hn, (hown u hu).2.2⟩
      simp -dsimp only [↓RE,RU,RL,forall_const,implies_true,Nat.reduceLeDiff,Nat.reduceLT,pureOp,binPure,intBin,strBin,eqPure,isConstO,lenPure,buildP,resK,endV,yieldE,↓reduceIte,Nat.reduceEqDiff,reduceCtorEq,Nat.reduceAdd,Nat.reduceMul,Int.reduceLT,Int.reduceLE,Int.reduceToNat,Int.reduceAdd,Int.reduceSub,ne_eq,decide_true,decide_false,tf34, he6]
      rw [c_seq]
      simp -dsimp only [↓RE,RU,RL,forall_const,implies_true,Nat.reduceLeDiff,Nat.reduceLT,pureOp,binPure,intBin,strBin,eqPure,isConstO,lenPure,buildP,resK,endV,yieldE,↓reduceIte,Nat.reduceEqDiff,reduceCtorEq,Nat.reduceAdd,Nat.reduceMul,Int.reduceLT,Int.reduceLE,Int.reduceToNat,Int.reduceAdd,Int.reduceSub,ne_eq,decide_true,decide_false,tf34, he6]
      refine c_seq_cut (fun e' w' => Grow w7 w' ∧ (e' 4 = .slice (some ad) m c1 ∧ e' 5 = .int .i64 (k : Int) ∧ e' 3 = .slice Av Out.length cv ∧ e' 6 = .pointer (some ⟨b, 0, none⟩) ∧ e' 7 = .pointer (some ⟨pb, 0, none⟩) ∧ e' 8 = .pointer (some ⟨f, 0, none⟩)) ∧ ∃ a : Nat, a ≤ Out.length ∧ e' 9 = .int .i64 (a : Int) ∧ (∀ u ∈ Out.take a, cmpB (ptK u.p) x.wr < 0) ∧ (∀ u, Out[a]? = some u → ¬ cmpB (ptK u.p) x.wr < 0)) ?_ ?_
      · simp -dsimp only [↓RE,RU,RL,forall_const,implies_true,Nat.reduceLeDiff,Nat.reduceLT,pureOp,binPure,intBin,strBin,eqPure,isConstO,lenPure,buildP,resK,endV,yieldE,↓reduceIte,Nat.reduceEqDiff,reduceCtorEq,Nat.reduceAdd,Nat.reduceMul,Int.reduceLT,Int.reduceLE,Int.reduceToNat,Int.reduceAdd,Int.reduceSub,ne_eq,decide_true,decide_false,tf34, he6]
        refine wpLoop_intro (fun e' w' => Grow w7 w' ∧ (e' 4 = .slice (some ad) m c1 ∧ e' 5 = .int .i64 (k : Int) ∧ e' 3 = .slice Av Out.length cv ∧ e' 6 = .pointer (some ⟨b, 0, none⟩) ∧ e' 7 = .pointer (some ⟨pb, 0, none⟩) ∧ e' 8 = .pointer (some ⟨f, 0, none⟩)) ∧ ∃ a : Nat, a ≤ Out.length ∧ e' 9 = .int .i64 (a : Int) ∧ (∀ u ∈ Out.take a, cmpB (ptK u.p) x.wr < 0))
          (fun e' _ => Out.length - (envInt (e' 9)).toNat) ⟨Keep.refl _ _, ⟨?_, ?_, ?_, ?_, ?_, ?_⟩, 0, Nat.zero_le _, ?_, fun u hu => by simp at hu⟩ ?_
        · simp -dsimp only [↓RE,RU,RL,↓reduceIte,Nat.reduceEqDiff,reduceCtorEq,decide_true,decide_false, he4]
        · simp -dsimp only [↓RE,RU,RL,↓reduceIte,Nat.reduceEqDiff,reduceCtorEq,decide_true,decide_false, he5]
        · simp -dsimp only [↓RE,RU,RL,↓reduceIte,Nat.reduceEqDiff,reduceCtorEq,decide_true,decide_false, he3]
        · simp -dsimp only [↓RE,RU,RL,↓reduceIte,Nat.reduceEqDiff,reduceCtorEq,decide_true,decide_false, he6]
        · simp -dsimp only [↓RE,RU,RL,↓reduceIte,Nat.reduceEqDiff,reduceCtorEq,decide_true,decide_false, he7]
        · simp -dsimp only [↓RE,RU,RL,↓reduceIte,Nat.reduceEqDiff,reduceCtorEq,decide_true,decide_false, he8]
        · simp -dsimp only [↓RE,RU,RL,↓reduceIte,Nat.reduceEqDiff,reduceCtorEq,decide_true,decide_false, he6]
          rfl
        clear he4 he5 he3 he6 he7 he8
        rintro e4 w8 ⟨g8, ⟨he4, he5, he3, he6, he7, he8⟩, a, ha, he9, hlow⟩
        have gd := Grow.drew w8
        rcases Nat.lt_or_ge a Out.length with hal | hag
        · have da : decide ((a : Int) < (Out.length : Nat)) = true := decide_eq_true (by omega)
          have hwa : IntKind.i64.wrap ((a : Int) + 1) = ((a + 1 : Nat) : Int) := by rw [wrap_i64_in (by omega) (by omega)]; omega
          have hma : (envInt (e4 9)).toNat = a := by rw [he9]; exact Int.toNat_natCast a
          obtain ⟨av, rfl⟩ : ∃ av, Av = some av := by
            cases Av with
            | none => have := hAv rfl; omega
            | some av => exact ⟨av, rfl⟩
          have huc : ∀ w', Grow w8 w' → ∀ j v, (Out.getD a p00).cells[j]? = some v → w'.cell? ((av.add (a * 4)).add j) = some v := fun w' g => (LRow.rd (hv7.grow (g8.trans g))).pt hal
          have hum := getP_mem (l := Out) (k := a) hal
          have huo := hoc _ hum
          have hsn2 := ptk_snoc (l := Out) (k := a) hal
          have hug : Out[a]? = some (Out.getD a p00) := getP_some hal
          generalize Out.getD a p00 = u at huc hum huo hsn2 hug
          have hpl : ∀ w', Grow w8 w' → ∀ j v, pv.cells[j]? = some v → w'.cell? ((⟨pb, 0, none⟩ : Addr).add j) = some v := fun w' g j v hv => by rw [add_lit', Nat.zero_add, (hp7.grow (g8.trans g)).cell]; exact hv
          repeat (first | rw [c_seq] | simp -dsimp only [↓RE,RU,RL,forall_const,implies_true,Nat.reduceLeDiff,Nat.reduceLT,pureOp,binPure,intBin,strBin,eqPure,isConstO,lenPure,buildP,resK,endV,yieldE,↓reduceIte,Nat.reduceEqDiff,reduceCtorEq,Nat.reduceAdd,Nat.reduceMul,Int.reduceLT,Int.reduceLE,Int.reduceToNat,Int.reduceAdd,Int.reduceSub,ne_eq,decide_true,decide_false,tf34, he9])
          refine wpDraw_by (Grow w8 ·) [(0, true), (1, true), (2, true), (3, true), (4, true), (5, true), (6, true), (7, true), (8, true), (9, true), (10, false), (11, true), (12, true)] (by kernel_rfl) gd ?_
          simp only [planL, List.getElem?_toArray, List.getElem?_cons_zero, List.getElem?_cons_succ, Option.toList_some, List.map_cons, List.map_nil, List.cons_append, List.nil_append]
          repeat (first | rw [c_seq] | simp -dsimp only [↓RE,RU,RL,forall_const,implies_true,Nat.reduceLeDiff,Nat.reduceLT,pureOp,binPure,intBin,strBin,eqPure,isConstO,lenPure,buildP,resK,endV,yieldE,↓reduceIte,Nat.reduceEqDiff,reduceCtorEq,Nat.reduceAdd,Nat.reduceMul,Int.reduceLT,Int.reduceLE,Int.reduceToNat,Int.reduceAdd,Int.reduceSub,ne_eq,decide_true,decide_false,tf34, he3, he7, he9, da, Int.toNat_natCast])
          refine ⟨⟨by omega, by omega⟩, u.cells, rfl, huc, ?_⟩
          repeat (first | rw [c_seq] | simp -dsimp only [↓RE,RU,RL,forall_const,implies_true,Nat.reduceLeDiff,Nat.reduceLT,pureOp,binPure,intBin,strBin,eqPure,isConstO,lenPure,buildP,resK,endV,yieldE,↓reduceIte,Nat.reduceEqDiff,reduceCtorEq,Nat.reduceAdd,Nat.reduceMul,Int.reduceLT,Int.reduceLE,Int.reduceToNat,Int.reduceAdd,Int.reduceSub,ne_eq,decide_true,decide_false,tf34, he3, he7, he9, da, Int.toNat_natCast])
          refine ⟨pv.cells, rfl, hpl, ?_⟩
          repeat (first | rw [c_seq] | simp -dsimp only [↓RE,RU,RL,forall_const,implies_true,Nat.reduceLeDiff,Nat.reduceLT,pureOp,binPure,intBin,strBin,eqPure,isConstO,lenPure,buildP,resK,endV,yieldE,↓reduceIte,Nat.reduceEqDiff,reduceCtorEq,Nat.reduceAdd,Nat.reduceMul,Int.reduceLT,Int.reduceLE,Int.reduceToNat,Int.reduceAdd,Int.reduceSub,ne_eq,decide_true,decide_false,tf34, he3, he7, he9, da, Int.toNat_natCast])
          refine ahead_ok (huo.grow (g8.trans gd)) (hpc.grow (g8.trans gd)) (fun w9 g9 => ?_)
          have g89 := gd.trans g9
          refine ⟨g89, ?_⟩
          rw [hkey]
          by_cases hcl : cmpB (ptK u.p) x.wr < 0
          · have dc : decide (cmpB (ptK u.p) x.wr < 0) = true := decide_eq_true hcl
            repeat (first | rw [c_seq] | simp -dsimp only [↓RE,RU,RL,forall_const,implies_true,Nat.reduceLeDiff,Nat.reduceLT,pureOp,binPure,intBin,strBin,eqPure,isConstO,lenPure,buildP,resK,endV,yieldE,↓reduceIte,Nat.reduceEqDiff,reduceCtorEq,Nat.reduceAdd,Nat.reduceMul,Int.reduceLT,Int.reduceLE,Int.reduceToNat,Int.reduceAdd,Int.reduceSub,ne_eq,decide_true,decide_false,tf34, he9, da, dc, hwa])
            refine hold_intro ⟨⟨g8.trans g89, ⟨?_, ?_, ?_, ?_, ?_, ?_⟩, a + 1, hal, ?_, fun t ht => ?_⟩, ?_⟩
            · simp -dsimp only [↓RE,RU,RL,↓reduceIte,Nat.reduceEqDiff,reduceCtorEq,decide_true,decide_false, he4]
            · simp -dsimp only [↓RE,RU,RL,↓reduceIte,Nat.reduceEqDiff,reduceCtorEq,decide_true,decide_false, he5]
            · simp -dsimp only [↓RE,RU,RL,↓reduceIte,Nat.reduceEqDiff,reduceCtorEq,decide_true,decide_false, he3]
            · simp -dsimp only [↓RE,RU,RL,↓reduceIte,Nat.reduceEqDiff,reduceCtorEq,decide_true,decide_false, he6]
            · simp -dsimp only [↓RE,RU,RL,↓reduceIte,Nat.reduceEqDiff,reduceCtorEq,decide_true,decide_false, he7]
            · simp -dsimp only [↓RE,RU,RL,↓reduceIte,Nat.reduceEqDiff,reduceCtorEq,decide_true,decide_false, he8]
            · simp -dsimp only [↓RE,RU,RL,↓reduceIte,Nat.reduceEqDiff,reduceCtorEq,decide_true,decide_false, hwa]
            · rw [hsn2] at ht
              rcases List.mem_append.1 ht with ht | ht
              · exact hlow t ht
              · rw [List.mem_singleton.1 ht]; exact hcl
            · rw [hma]
              simp -dsimp only [↓RE,↓c_seq,RU,RL,forall_const,implies_true,Nat.reduceLeDiff,Nat.reduceLT,pureOp,binPure,intBin,strBin,eqPure,isConstO,lenPure,buildP,resK,endV,yieldE,↓reduceIte,Nat.reduceEqDiff,reduceCtorEq,Nat.reduceAdd,Nat.reduceMul,Int.reduceLT,Int.reduceLE,Int.reduceToNat,Int.reduceAdd,Int.reduceSub,ne_eq,decide_true,decide_false,tf34, hwa]
              simp only [envInt_int]; omega
          · have dc : decide (cmpB (ptK u.p) x.wr < 0) = false := decide_eq_false hcl
            repeat (first | rw [c_seq] | simp -dsimp only [↓RE,RU,RL,forall_const,implies_true,Nat.reduceLeDiff,Nat.reduceLT,pureOp,binPure,intBin,strBin,eqPure,isConstO,lenPure,buildP,resK,endV,yieldE,↓reduceIte,Nat.reduceEqDiff,reduceCtorEq,Nat.reduceAdd,Nat.reduceMul,Int.reduceLT,Int.reduceLE,Int.reduceToNat,Int.reduceAdd,Int.reduceSub,ne_eq,decide_true,decide_false,tf34, he9, da, dc])
            refine hold_intro ⟨g8.trans g89, ⟨?_, ?_, ?_, ?_, ?_, ?_⟩, a, ha, ?_, hlow, fun t ht => ?_⟩
            · simp -dsimp only [↓RE,RU,RL,↓reduceIte,Nat.reduceEqDiff,reduceCtorEq,decide_true,decide_false, he4]
            · simp -dsimp only [↓RE,RU,RL,↓reduceIte,Nat.reduceEqDiff,reduceCtorEq,decide_true,decide_false, he5]
            · simp -dsimp only [↓RE,RU,RL,↓reduceIte,Nat.reduceEqDiff,reduceCtorEq,decide_true,decide_false, he3]
            · simp -dsimp only [↓RE,RU,RL,↓reduceIte,Nat.reduceEqDiff,reduceCtorEq,decide_true,decide_false, he6]
            · simp -dsimp only [↓RE,RU,RL,↓reduceIte,Nat.reduceEqDiff,reduceCtorEq,decide_true,decide_false, he7]
            · simp -dsimp only [↓RE,RU,RL,↓reduceIte,Nat.reduceEqDiff,reduceCtorEq,decide_true,decide_false, he8]
            · simp -dsimp only [↓RE,RU,RL,↓reduceIte,Nat.reduceEqDiff,reduceCtorEq,decide_true,decide_false, he9]
            · rw [hug] at ht
              injection ht with ht
              subst ht
              exact hcl
        · have da : decide ((a : Int) < (Out.length : Nat)) = false := decide_eq_false (by omega)
          repeat (first | rw [c_seq] | simp -dsimp only [↓RE,RU,RL,forall_const,implies_true,Nat.reduceLeDiff,Nat.reduceLT,pureOp,binPure,intBin,strBin,eqPure,isConstO,lenPure,buildP,resK,endV,yieldE,↓reduceIte,Nat.reduceEqDiff,reduceCtorEq,Nat.reduceAdd,Nat.reduceMul,Int.reduceLT,Int.reduceLE,Int.reduceToNat,Int.reduceAdd,Int.reduceSub,ne_eq,decide_true,decide_false,tf34, he9])
          refine wpDraw_by (Grow w8 ·) [(0, true), (1, true), (2, true), (3, true), (4, true), (5, true), (6, true), (7, true), (8, true), (9, true), (10, false), (11, true), (12, true)] (by kernel_rfl) gd ?_
          simp only [planL, List.getElem?_toArray, List.getElem?_cons_zero, List.getElem?_cons_succ, Option.toList_some, List.map_cons, List.map_nil, List.cons_append, List.nil_append]
          repeat (first | rw [c_seq] | simp -dsimp only [↓RE,RU,RL,forall_const,implies_true,Nat.reduceLeDiff,Nat.reduceLT,pureOp,binPure,intBin,strBin,eqPure,isConstO,lenPure,buildP,resK,endV,yieldE,↓reduceIte,Nat.reduceEqDiff,reduceCtorEq,Nat.reduceAdd,Nat.reduceMul,Int.reduceLT,Int.reduceLE,Int.reduceToNat,Int.reduceAdd,Int.reduceSub,ne_eq,decide_true,decide_false,tf34, he3, he9, da, undef])
          refine ⟨gd, ?_⟩
          repeat (first | rw [c_seq] | simp -dsimp only [↓RE,RU,RL,forall_const,implies_true,Nat.reduceLeDiff,Nat.reduceLT,pureOp,binPure,intBin,strBin,eqPure,isConstO,lenPure,buildP,resK,endV,yieldE,↓reduceIte,Nat.reduceEqDiff,reduceCtorEq,Nat.reduceAdd,Nat.reduceMul,Int.reduceLT,Int.reduceLE,Int.reduceToNat,Int.reduceAdd,Int.reduceSub,ne_eq,decide_true,decide_false,tf34, he9, da, undef])
          refine hold_intro ⟨g8.trans gd, ⟨?_, ?_, ?_, ?_, ?_, ?_⟩, a, ha, ?_, hlow, fun t ht => ?_⟩
          · simp -dsimp only [↓RE,RU,RL,↓reduceIte,Nat.reduceEqDiff,reduceCtorEq,decide_true,decide_false, he4]
          · simp -dsimp only [↓RE,RU,RL,↓reduceIte,Nat.reduceEqDiff,reduceCtorEq,decide_true,decide_false, he5]
          · simp -dsimp only [↓RE,RU,RL,↓reduceIte,Nat.reduceEqDiff,reduceCtorEq,decide_true,decide_false, he3]
          · simp -dsimp only [↓RE,RU,RL,↓reduceIte,Nat.reduceEqDiff,reduceCtorEq,decide_true,decide_false, he6]
          · simp -dsimp only [↓RE,RU,RL,↓reduceIte,Nat.reduceEqDiff,reduceCtorEq,decide_true,decide_false, he7]
          · simp -dsimp only [↓RE,RU,RL,↓reduceIte,Nat.reduceEqDiff,reduceCtorEq,decide_true,decide_false, he8]
          · simp -dsimp only [↓RE,RU,RL,↓reduceIte,Nat.reduceEqDiff,reduceCtorEq,decide_true,decide_false, he9]
          · rw [List.getElem?_eq_none hag] at ht; cases ht
      · clear he4 he5 he3 he6 he7 he8
        rintro e4 w8 ⟨g8, ⟨he4, he5, he3, he6, he7, he8⟩, a, ha, he9, hlow, hup⟩
        have gd := Grow.drew w8
        refine c_seq_cut (fun e' w' => Grow w8 w' ∧ (e' 4 = .slice (some ad) m c1 ∧ e' 5 = .int .i64 (k : Int) ∧ e' 3 = .slice Av Out.length cv ∧ e' 6 = .pointer (some ⟨b, 0, none⟩) ∧ e' 7 = .pointer (some ⟨pb, 0, none⟩) ∧ e' 8 = .pointer (some ⟨f, 0, none⟩)) ∧ e' 9 = .int .i64 (a : Int) ∧ (∀ u, Out[a]? = some u → 0 < cmpB (ptK u.p) x.wr)) ?_ ?_
        · rcases Nat.lt_or_ge a Out.length with hal | hag
          · have da : decide ((a : Int) < (Out.length : Nat)) = true := decide_eq_true (by omega)
            obtain ⟨av, rfl⟩ : ∃ av, Av = some av := by
              cases Av with
              | none => have := hAv rfl; omega
              | some av => exact ⟨av, rfl⟩
            have huc : ∀ w', Grow w8 w' → ∀ j v, (Out.getD a p00).cells[j]? = some v → w'.cell? ((av.add (a * 4)).add j) = some v := fun w' g => (LRow.rd (hv7.grow (g8.trans g))).pt hal
            have hum := getP_mem (l := Out) (k := a) hal
            have huo := hoc _ hum
            have hug : Out[a]? = some (Out.getD a p00) := getP_some hal
            generalize hud : Out.getD a p00 = u at huc hum huo hug
            have hpl : ∀ w', Grow w8 w' → ∀ j v, pv.cells[j]? = some v → w'.cell? ((⟨pb, 0, none⟩ : Addr).add j) = some v := fun w' g j v hv => by rw [add_lit', Nat.zero_add, (hp7.grow (g8.trans g)).cell]; exact hv
            rw [c_seq]
            simp -dsimp only [↓RE,RU,RL,forall_const,implies_true,Nat.reduceLeDiff,Nat.reduceLT,pureOp,binPure,intBin,strBin,eqPure,isConstO,lenPure,buildP,resK,endV,yieldE,↓reduceIte,Nat.reduceEqDiff,reduceCtorEq,Nat.reduceAdd,Nat.reduceMul,Int.reduceLT,Int.reduceLE,Int.reduceToNat,Int.reduceAdd,Int.reduceSub,ne_eq,decide_true,decide_false,tf34, he9]
            refine wpDraw_by (Grow w8 ·) [(0, true), (1, true), (2, true), (3, true), (4, true), (5, true), (6, true), (7, true), (8, true), (9, true), (10, false), (11, true), (12, true)] (by kernel_rfl) gd ?_
            simp only [planL, List.getElem?_toArray, List.getElem?_cons_zero, List.getElem?_cons_succ, Option.toList_some, List.map_cons, List.map_nil, List.cons_append, List.nil_append]
            repeat (first | rw [c_seq] | simp -dsimp only [↓RE,RU,RL,forall_const,implies_true,Nat.reduceLeDiff,Nat.reduceLT,pureOp,binPure,intBin,strBin,eqPure,isConstO,lenPure,buildP,resK,endV,yieldE,↓reduceIte,Nat.reduceEqDiff,reduceCtorEq,Nat.reduceAdd,Nat.reduceMul,Int.reduceLT,Int.reduceLE,Int.reduceToNat,Int.reduceAdd,Int.reduceSub,ne_eq,decide_true,decide_false,tf34, he3, he7, he9, da, Int.toNat_natCast])
            refine ⟨⟨by omega, by omega⟩, u.cells, rfl, huc, ?_⟩
            repeat (first | rw [c_seq] | simp -dsimp only [↓RE,RU,RL,forall_const,implies_true,Nat.reduceLeDiff,Nat.reduceLT,pureOp,binPure,intBin,strBin,eqPure,isConstO,lenPure,buildP,resK,endV,yieldE,↓reduceIte,Nat.reduceEqDiff,reduceCtorEq,Nat.reduceAdd,Nat.reduceMul,Int.reduceLT,Int.reduceLE,Int.reduceToNat,Int.reduceAdd,Int.reduceSub,ne_eq,decide_true,decide_false,tf34, he3, he7, he9, da, Int.toNat_natCast])
            refine ⟨pv.cells, rfl, hpl, ?_⟩
            repeat (first | rw [c_seq] | simp -dsimp only [↓RE,RU,RL,forall_const,implies_true,Nat.reduceLeDiff,Nat.reduceLT,pureOp,binPure,intBin,strBin,eqPure,isConstO,lenPure,buildP,resK,endV,yieldE,↓reduceIte,Nat.reduceEqDiff,reduceCtorEq,Nat.reduceAdd,Nat.reduceMul,Int.reduceLT,Int.reduceLE,Int.reduceToNat,Int.reduceAdd,Int.reduceSub,ne_eq,decide_true,decide_false,tf34, he3, he7, he9, da, Int.toNat_natCast])
            refine ahead_ok (huo.grow (g8.trans gd)) (hpc.grow (g8.trans gd)) (fun w9 g9 => ?_)
            have g89 := gd.trans g9
            refine ⟨g89, ?_⟩
            rw [hkey]
            by_cases hc0 : cmpB (ptK u.p) x.wr = 0
            · have dc : decide (cmpB (ptK u.p) x.wr = 0) = true := decide_eq_true hc0
              have hins := (pIns_at (G := Out.map PtV.p) (x := x.wr) (i := a) (by rw [List.length_map]; omega) (fun p hp => by
                rw [← List.map_take] at hp
                obtain ⟨t, ht, rfl⟩ := List.mem_map.1 hp
                exact hlow t ht)).1 u.p (by rw [List.getElem?_map, hug]; rfl) hc0
              repeat (first | rw [c_seq] | simp -dsimp only [↓RE,RU,RL,forall_const,implies_true,Nat.reduceLeDiff,Nat.reduceLT,pureOp,binPure,intBin,strBin,eqPure,isConstO,lenPure,buildP,resK,endV,yieldE,↓reduceIte,Nat.reduceEqDiff,reduceCtorEq,Nat.reduceAdd,Nat.reduceMul,Int.reduceLT,Int.reduceLE,Int.reduceToNat,Int.reduceAdd,Int.reduceSub,ne_eq,decide_true,decide_false,tf34, he9, da, dc])
              obtain ⟨huo4, huk, hut⟩ := hown u hum
              rcases hv7.2 with ⟨h0, _⟩ | ⟨gv, cv', cur, hvv, hbv, hnc', _⟩
              · cases h0
              injection hvv with hva _ hvc
              injection hva with hva
              subst hva
              subst hvc
              have g49 := g47.trans (g8.trans g89)
              have hv9 : LRow w9 25 4 (.slice (some ⟨gv, 0, none⟩) Out.length cv) Out.length (Out.flatMap PtV.cells) := hv7.grow (g8.trans g89)
              have huo9 := huo4.grow g49
              have hzl : ∀ q, fpA u.B q → q < w4.heap.size := fun q hq => huo4.fl.lt q ((fpV_fpA _ _ _ _).2 hq)
              have hvz : ∀ q, fpV (.slice (some ⟨gv, 0, none⟩) Out.length cv) q → ¬ fpA u.B q := fun q hq hq2 => LRow.ne hv9 huo9.fl (by decide) q hq ((fpV_fpA _ _ _ _).2 hq2)
              have hz2 : ∀ w', Keep (fpA u.B) w9 w' → w'.cell? ⟨gv, a * 4 + 2, none⟩ = some (.slice u.B u.k u.d) := fun w' kk => by
                have hr := LRow.rd (hv9.keep kk hvz)
                have := hr.pt (k := a) hal 2 (.slice u.B u.k u.d) (by rw [hud]; rfl)
                rwa [add_lit', Nat.zero_add, add_lit'] at this
              have hbf : Blk w9 f 98 [.string x.s.s.f, .int .i64 x.x.2.2] := hf7.grow (g8.trans g89)
              have hfz : ¬ fpA u.B f := fun hq => by have := hzl f hq; omega
              have hzlen : u.p.fields.length = u.k := huo9.fl.rd.flen
              have hO : Out = Out.take a ++ u :: Out.drop (a + 1) := by
                have e1 := List.drop_eq_getElem_cons hal
                have e2 : Out[a] = u := by
                  have := hug
                  rw [List.getElem?_eq_getElem hal] at this
                  exact Option.some.inj this
                rw [e2] at e1
                rw [← e1, List.take_append_drop]
              have hap' := hap
              unfold ApartF at hap'
              rw [hO] at hap'
              obtain ⟨hapP, hapU, hapPU⟩ := List.pairwise_append.1 hap'
              obtain ⟨hapQ1, hapQ⟩ := List.pairwise_cons.1 hapU
              have hother : ∀ t, t ∈ Out.take a ∨ t ∈ Out.drop (a + 1) → t ∈ Out ∧ ∀ q, fpA t.B q → ¬ fpA u.B q := fun t ht => by
                rcases ht with ht | ht
                · exact ⟨List.mem_of_mem_take ht, hapPU t ht u List.mem_cons_self⟩
                · exact ⟨List.mem_of_mem_drop ht, fun q h1 h2 => hapQ1 t ht q h2 h1⟩
              have gd9 := Grow.drew w9
              refine wpDraw_fin (Keep (fpA u.B) w9 ·) [(0, true), (1, true), (2, true), (3, true), (4, true), (5, true), (6, true), (7, true), (8, false), (9, false), (10, true), (11, true)] 12 (by kernel_rfl) (gd9.mono (fun _ _ h => h.elim)) ?_
              simp only [planL, List.getElem?_toArray, List.getElem?_cons_zero, List.getElem?_cons_succ, Option.toList_some, List.map_cons, List.map_nil, List.cons_append, List.nil_append]
              repeat (first | rw [c_seq] | simp -dsimp only [↓RE,RU,RL,forall_const,implies_true,Nat.reduceLeDiff,Nat.reduceLT,pureOp,binPure,intBin,strBin,eqPure,isConstO,lenPure,buildP,resK,endV,yieldE,↓reduceIte,Nat.reduceEqDiff,reduceCtorEq,Nat.reduceAdd,Nat.reduceMul,Int.reduceLT,Int.reduceLE,Int.reduceToNat,Int.reduceAdd,Int.reduceSub,ne_eq,decide_true,decide_false,tf34, he3, he9, add_lit', Nat.zero_add, Int.toNat_natCast])
              refine ⟨⟨by omega, by omega⟩, _, hz2, ?_⟩
              repeat (first | rw [c_seq] | simp -dsimp only [↓RE,RU,RL,forall_const,implies_true,Nat.reduceLeDiff,Nat.reduceLT,pureOp,binPure,intBin,strBin,eqPure,isConstO,lenPure,buildP,resK,endV,yieldE,↓reduceIte,Nat.reduceEqDiff,reduceCtorEq,Nat.reduceAdd,Nat.reduceMul,Int.reduceLT,Int.reduceLE,Int.reduceToNat,Int.reduceAdd,Int.reduceSub,ne_eq,decide_true,decide_false,tf34, he8, add_lit', Nat.zero_add])
              refine ⟨[.string x.s.s.f, .int .i64 x.x.2.2], rfl, fun w' kk j v hv => by rw [add_lit', Nat.zero_add, (hbf.keep kk hfz).cell]; exact hv, ?_⟩
              repeat (first | rw [c_seq] | simp -dsimp only [↓RE,RU,RL,forall_const,implies_true,Nat.reduceLeDiff,Nat.reduceLT,pureOp,binPure,intBin,strBin,eqPure,isConstO,lenPure,buildP,resK,endV,yieldE,↓reduceIte,Nat.reduceEqDiff,reduceCtorEq,Nat.reduceAdd,Nat.reduceMul,Int.reduceLT,Int.reduceLE,Int.reduceToNat,Int.reduceAdd,Int.reduceSub,ne_eq,decide_true,decide_false,tf34, he8, add_lit', Nat.zero_add])
              have ga := Grow.alloc w9.drew (.cells #[.string x.s.s.f, .int .i64 x.x.2.2] 98)
              have gda := gd9.trans ga
              have hzf' : FRow w9 (.slice u.B u.k u.d) u.p.fields := by unfold FRow; rw [hzlen]; exact huo9.fl
              refine ⟨gda.mono (fun _ _ h => h.elim), app_f (hzf'.grow gda) (one_frow w9.drew (fldW x.wr)) (by omega) (fun B8 d8 w10 hL8 k8 f8 => ?_)⟩
              have hl8 : (u.p.fields ++ [fldW x.wr]).length = u.k + 1 := by rw [List.length_append, hzlen]; rfl
              rw [hl8, hzlen] at hL8
              rw [hzlen] at f8
              rw [hzlen]
              have k8' : Keep (fpA u.B) (w9.drew.alloc (.cells #[.string x.s.s.f, .int .i64 x.x.2.2] 98)) w10 := k8.mono (fun q _ hq => (fpV_fpA _ _ _ _).1 hq)
              have k78 : Keep (fpA u.B) w9 w10 := gda.then k8'
              obtain ⟨z', hz'⟩ : ∃ z' : PtV, z' = ⟨addP u.p x.wr, u.A, u.n, u.c, B8, u.k + 1, d8⟩ := ⟨_, rfl⟩
              have hv10 := hv9.keep k78 hvz
              have hst := fun (K : WK) (tk : Tok K) hK => LRow.stCell (f := PtV.cells) (size := 4) (fun _ => rfl) hv10 rfl (k := a) hal (x := u) (x' := z') hug (o := 2) (by omega) (u := .slice B8 (u.k + 1) d8) (by rw [hz']; rfl) (K := K) (tk := tk) hK
              rw [add_lit', Nat.zero_add, add_lit'] at hst
              refine ⟨k78, ?_⟩
              repeat (first | rw [c_seq] | simp -dsimp only [↓RE,RU,RL,forall_const,implies_true,Nat.reduceLeDiff,Nat.reduceLT,pureOp,binPure,intBin,strBin,eqPure,isConstO,lenPure,buildP,resK,endV,yieldE,↓reduceIte,Nat.reduceEqDiff,reduceCtorEq,Nat.reduceAdd,Nat.reduceMul,Int.reduceLT,Int.reduceLE,Int.reduceToNat,Int.reduceAdd,Int.reduceSub,ne_eq,decide_true,decide_false,tf34, he3, he9, add_lit', Nat.zero_add, Int.toNat_natCast])
              refine ⟨⟨by omega, by omega⟩, hst _ _ (fun w11 hr11 k11 => ?_)⟩
              have hset : Out.set a z' = Out.take a ++ z' :: Out.drop (a + 1) := by rw [List.set_eq_take_append_cons_drop, if_pos hal]
              have hsz9 := g49.size
              have hsz4 := g4.size
              have hB8 : ∀ q, fpA B8 q → fpA u.B q ∨ w4.heap.size ≤ q := fun q hq => by
                rcases f8 q ((fpV_fpA _ _ _ _).2 hq) with e | e
                · exact .inl ((fpV_fpA _ _ _ _).1 e)
                · have := gda.size
                  exact .inr (by omega)
              have hzB3 := hFB u hum
              have g11 : Grow w1 w11 := by
                have h1 : Grow w1 w10 := (g4.trans g49).above k78 (fun q hq e => by have := hzB3 q e; omega)
                exact h1.above k11 (fun q hq e => by have e : q = gv := e; have := hF gv ((fpV_some _ _ _ _).2 rfl); omega)
              have hkeep11 : ∀ t, PtOwn w10 t → PtOwn w11 t := fun t ht => ht.keep k11 (fun q hq e => by
                have := LRow.ne ht.tg hv10 (by decide) q hq
                rw [fpV_some] at this
                exact this e) (fun q hq e => by
                have := LRow.ne ht.fl hv10 (by decide) q hq
                rw [fpV_some] at this
                exact this e)
              have hown11 : ∀ t, t ∈ Out.take a ∨ t ∈ Out.drop (a + 1) → PtOwn w11 t ∧ t.k ≤ k + 1 ∧ SOk (t.p.t, 0, 0) := fun t ht => by
                obtain ⟨hto, hta⟩ := hother t ht
                obtain ⟨h1, h2, h3⟩ := hown t hto
                have h9 := h1.grow g49
                exact ⟨hkeep11 t (h9.keep k78 (fun q hq e => LRow.ne h9.tg huo9.fl (by decide) q hq ((fpV_fpA _ _ _ _).2 e)) (fun q hq e => hta q ((fpV_fpA _ _ _ _).1 hq) e)), by omega, h3⟩
              have hz11 : PtOwn w11 z' := by
                refine hkeep11 z' ?_
                rw [hz']
                exact ⟨huo9.tg.keep k78 (fun q hq e => LRow.ne huo9.tg huo9.fl (by decide) q hq ((fpV_fpA _ _ _ _).2 e)), hL8, huo4.hn⟩
              repeat (first | rw [c_seq] | simp -dsimp only [↓RE,RU,RL,forall_const,implies_true,Nat.reduceLeDiff,Nat.reduceLT,pureOp,binPure,intBin,strBin,eqPure,isConstO,lenPure,buildP,resK,endV,yieldE,↓reduceIte,Nat.reduceEqDiff,reduceCtorEq,Nat.reduceAdd,Nat.reduceMul,Int.reduceLT,Int.reduceLE,Int.reduceToNat,Int.reduceAdd,Int.reduceSub,ne_eq,decide_true,decide_false,tf34, he5, hw1])
              refine hold_intro ⟨⟨g11, ?_, k + 1, Out.set a z', .slice (some ⟨gv, 0, none⟩) Out.length cv, hlt, ?_, ?_, ?_, ?_, fun t ht => ?_, ?_, hF, fun t ht => ?_, ?_⟩, ?_⟩
              · simp -dsimp only [↓RE,RU,RL,↓reduceIte,Nat.reduceEqDiff,reduceCtorEq,decide_true,decide_false, he4]
              · simp -dsimp only [↓RE,RU,RL,↓reduceIte,Nat.reduceEqDiff,reduceCtorEq,decide_true,decide_false, hw1]
              · simp -dsimp only [↓RE,RU,RL,↓reduceIte,Nat.reduceEqDiff,reduceCtorEq,decide_true,decide_false, he3]
              · rw [hnext, pAll_snoc, ← hout, hins, List.map_set, hz']
              · unfold PRow; rw [List.length_set]; exact hr11
              · rw [hset] at ht
                rcases List.mem_append.1 ht with ht | ht
                · exact hown11 t (.inl ht)
                · rcases List.mem_cons.1 ht with rfl | ht
                  · refine ⟨hz11, ?_, ?_⟩
                    · rw [hz']; show u.k + 1 ≤ _; omega
                    · rw [hz']; exact hut
                  · exact hown11 t (.inr ht)
              · unfold ApartF
                rw [hset]
                refine List.pairwise_append.2 ⟨hapP, List.pairwise_cons.2 ⟨fun t ht q hq hq2 => ?_, hapQ⟩, fun t ht t2 ht2 q hq hq2 => ?_⟩
                · rw [hz'] at hq
                  rcases hB8 q hq with e | e
                  · exact hapQ1 t ht q e hq2
                  · have := (hown t (hother t (.inr ht)).1).1.fl.lt q ((fpV_fpA _ _ _ _).2 hq2)
                    omega
                · rcases List.mem_cons.1 ht2 with rfl | ht2
                  · rw [hz'] at hq2
                    rcases hB8 q hq2 with e | e
                    · exact (hother t (.inl ht)).2 q hq e
                    · have := (hown t (hother t (.inl ht)).1).1.fl.lt q ((fpV_fpA _ _ _ _).2 hq)
                      omega
                  · exact hapPU t ht t2 (List.mem_cons_of_mem _ ht2) q hq hq2
              · rw [hset] at ht
                rcases List.mem_append.1 ht with ht | ht
                · exact hFB t (hother t (.inl ht)).1
                · rcases List.mem_cons.1 ht with rfl | ht
                  · rw [hz']
                    intro q hq
                    rcases hB8 q hq with e | e
                    · exact hzB3 q e
                    · omega
                  · exact hFB t (hother t (.inr ht)).1
              · rw [List.length_set]; omega
              · rw [hmu]
                simp -dsimp only [↓RE,↓c_seq,RU,RL,forall_const,implies_true,Nat.reduceLeDiff,Nat.reduceLT,pureOp,binPure,intBin,strBin,eqPure,isConstO,lenPure,buildP,resK,endV,yieldE,↓reduceIte,Nat.reduceEqDiff,reduceCtorEq,Nat.reduceAdd,Nat.reduceMul,Int.reduceLT,Int.reduceLE,Int.reduceToNat,Int.reduceAdd,Int.reduceSub,ne_eq,decide_true,decide_false,tf34, hw1]
                simp only [envInt_int]; omega
            · have dc : decide (cmpB (ptK u.p) x.wr = 0) = false := decide_eq_false hc0
              repeat (first | rw [c_seq] | simp -dsimp only [↓RE,RU,RL,forall_const,implies_true,Nat.reduceLeDiff,Nat.reduceLT,pureOp,binPure,intBin,strBin,eqPure,isConstO,lenPure,buildP,resK,endV,yieldE,↓reduceIte,Nat.reduceEqDiff,reduceCtorEq,Nat.reduceAdd,Nat.reduceMul,Int.reduceLT,Int.reduceLE,Int.reduceToNat,Int.reduceAdd,Int.reduceSub,ne_eq,decide_true,decide_false,tf34, he9, da, dc])
              refine hold_intro ⟨g89, ⟨?_, ?_, ?_, ?_, ?_, ?_⟩, ?_, fun t ht => ?_⟩
              · simp -dsimp only [↓RE,RU,RL,↓reduceIte,Nat.reduceEqDiff,reduceCtorEq,decide_true,decide_false, he4]
              · simp -dsimp only [↓RE,RU,RL,↓reduceIte,Nat.reduceEqDiff,reduceCtorEq,decide_true,decide_false, he5]
              · simp -dsimp only [↓RE,RU,RL,↓reduceIte,Nat.reduceEqDiff,reduceCtorEq,decide_true,decide_false, he3]
              · simp -dsimp only [↓RE,RU,RL,↓reduceIte,Nat.reduceEqDiff,reduceCtorEq,decide_true,decide_false, he6]
              · simp -dsimp only [↓RE,RU,RL,↓reduceIte,Nat.reduceEqDiff,reduceCtorEq,decide_true,decide_false, he7]
              · simp -dsimp only [↓RE,RU,RL,↓reduceIte,Nat.reduceEqDiff,reduceCtorEq,decide_true,decide_false, he8]
              · simp -dsimp only [↓RE,RU,RL,↓reduceIte,Nat.reduceEqDiff,reduceCtorEq,decide_true,decide_false, he9]
              · rw [hug] at ht
                injection ht with ht
                subst ht
                have := hup u hug
                omega
          · have da : decide ((a : Int) < (Out.length : Nat)) = false := decide_eq_false (by omega)
            rw [c_seq]
            simp -dsimp only [↓RE,RU,RL,forall_const,implies_true,Nat.reduceLeDiff,Nat.reduceLT,pureOp,binPure,intBin,strBin,eqPure,isConstO,lenPure,buildP,resK,endV,yieldE,↓reduceIte,Nat.reduceEqDiff,reduceCtorEq,Nat.reduceAdd,Nat.reduceMul,Int.reduceLT,Int.reduceLE,Int.reduceToNat,Int.reduceAdd,Int.reduceSub,ne_eq,decide_true,decide_false,tf34, he9]
            refine wpDraw_by (Grow w8 ·) [(0, true), (1, true), (2, true), (3, true), (4, true), (5, true), (6, true), (7, true), (8, true), (9, true), (10, false), (11, true), (12, true)] (by kernel_rfl) gd ?_
            simp only [planL, List.getElem?_toArray, List.getElem?_cons_zero, List.getElem?_cons_succ, Option.toList_some, List.map_cons, List.map_nil, List.cons_append, List.nil_append]
            repeat (first | rw [c_seq] | simp -dsimp only [↓RE,RU,RL,forall_const,implies_true,Nat.reduceLeDiff,Nat.reduceLT,pureOp,binPure,intBin,strBin,eqPure,isConstO,lenPure,buildP,resK,endV,yieldE,↓reduceIte,Nat.reduceEqDiff,reduceCtorEq,Nat.reduceAdd,Nat.reduceMul,Int.reduceLT,Int.reduceLE,Int.reduceToNat,Int.reduceAdd,Int.reduceSub,ne_eq,decide_true,decide_false,tf34, he3, he9, da, undef])
            refine ⟨gd, ?_⟩
            repeat (first | rw [c_seq] | simp -dsimp only [↓RE,RU,RL,forall_const,implies_true,Nat.reduceLeDiff,Nat.reduceLT,pureOp,binPure,intBin,strBin,eqPure,isConstO,lenPure,buildP,resK,endV,yieldE,↓reduceIte,Nat.reduceEqDiff,reduceCtorEq,Nat.reduceAdd,Nat.reduceMul,Int.reduceLT,Int.reduceLE,Int.reduceToNat,Int.reduceAdd,Int.reduceSub,ne_eq,decide_true,decide_false,tf34, he9, da, undef])
            refine hold_intro ⟨gd, ⟨?_, ?_, ?_, ?_, ?_, ?_⟩, ?_, fun t ht => ?_⟩
            · simp -dsimp only [↓RE,RU,RL,↓reduceIte,Nat.reduceEqDiff,reduceCtorEq,decide_true,decide_false, he4]
            · simp -dsimp only [↓RE,RU,RL,↓reduceIte,Nat.reduceEqDiff,reduceCtorEq,decide_true,decide_false, he5]
            · simp -dsimp only [↓RE,RU,RL,↓reduceIte,Nat.reduceEqDiff,reduceCtorEq,decide_true,decide_false, he3]
            · simp -dsimp only [↓RE,RU,RL,↓reduceIte,Nat.reduceEqDiff,reduceCtorEq,decide_true,decide_false, he6]
            · simp -dsimp only [↓RE,RU,RL,↓reduceIte,Nat.reduceEqDiff,reduceCtorEq,decide_true,decide_false, he7]
            · simp -dsimp only [↓RE,RU,RL,↓reduceIte,Nat.reduceEqDiff,reduceCtorEq,decide_true,decide_false, he8]
            · simp -dsimp only [↓RE,RU,RL,↓reduceIte,Nat.reduceEqDiff,reduceCtorEq,decide_true,decide_false, he9]
            · rw [List.getElem?_eq_none hag] at ht; cases ht
        · clear he4 he5 he3 he6 he7 he8 he9
          rintro e5 w9 ⟨g9, ⟨he4, he5, he3, he6, he7, he8⟩, he9, hgt⟩
          have g79 := g8.trans g9
          have g49 := g47.trans g79
          have hb9 := hb7.grow g79
          have hp9 := hp7.grow g79
          have hf9 : Blk w9 f 98 [.string x.s.s.f, .int .i64 x.x.2.2] := hf7.grow g79
          have hv9 : PRow w9 (.slice Av Out.length cv) Out := hv7.grow g79
          have hx3 : (Value.agg (List.take 3 (List.drop 0 x.cells)).toArray) = .agg x.s.cells.toArray := rfl
          have hins := (pIns_at (G := Out.map PtV.p) (x := x.wr) (i := a) (by rw [List.length_map]; omega) (fun p hp => by
            rw [← List.map_take] at hp
            obtain ⟨t, ht, rfl⟩ := List.mem_map.1 hp
            exact hlow t ht)).2 (fun p hp => by
            rw [List.getElem?_map] at hp
            obtain ⟨t, ht, rfl⟩ := Option.map_eq_some_iff.1 hp
            exact hgt t ht)
          repeat (first | rw [c_seq] | simp -dsimp only [↓RE,RU,RL,forall_const,implies_true,Nat.reduceLeDiff,Nat.reduceLT,pureOp,binPure,intBin,strBin,eqPure,isConstO,lenPure,buildP,resK,endV,yieldE,↓reduceIte,Nat.reduceEqDiff,reduceCtorEq,Nat.reduceAdd,Nat.reduceMul,Int.reduceLT,Int.reduceLE,Int.reduceToNat,Int.reduceAdd,Int.reduceSub,ne_eq,decide_true,decide_false,tf34, he6, add_lit', Nat.zero_add])
          refine hb9.aggK (cs := x.cells) (by simp [WrV.cells]) ?_
          repeat (first | rw [c_seq] | simp -dsimp only [↓RE,RU,RL,forall_const,implies_true,Nat.reduceLeDiff,Nat.reduceLT,pureOp,binPure,intBin,strBin,eqPure,isConstO,lenPure,buildP,resK,endV,yieldE,↓reduceIte,Nat.reduceEqDiff,reduceCtorEq,Nat.reduceAdd,Nat.reduceMul,Int.reduceLT,Int.reduceLE,Int.reduceToNat,Int.reduceAdd,Int.reduceSub,ne_eq,decide_true,decide_false,tf34, he6, hx3])
          refine copyser_ok (hxo.1.grow (g4.trans g49)) (fun w10 A10 c10 hT10 g10 hF10 => ?_)
          have hp10 := hp9.grow g10
          have hf10 := hf9.grow g10
          have hv10 : PRow w10 (.slice Av Out.length cv) Out := hv9.grow g10
          have g410 := g49.trans g10
          repeat (first | rw [c_seq] | simp -dsimp only [↓RE,RU,RL,forall_const,implies_true,Nat.reduceLeDiff,Nat.reduceLT,pureOp,binPure,intBin,strBin,eqPure,isConstO,lenPure,buildP,resK,endV,yieldE,↓reduceIte,Nat.reduceEqDiff,reduceCtorEq,Nat.reduceAdd,Nat.reduceMul,Int.reduceLT,Int.reduceLE,Int.reduceToNat,Int.reduceAdd,Int.reduceSub,ne_eq,decide_true,decide_false,tf34, he7, add_lit', Nat.zero_add])
          rw [hpvc] at hp10
          refine hp10.st (i := 1) (by simp) ?_
          have k11 := Keep.set1 w10 pb 1 (.slice A10 x.s.n c10)
          have hp11 := hp10.set 1 (.slice A10 x.s.n c10)
          generalize hw11 : w10.setCell ⟨pb, 1, none⟩ (.slice A10 x.s.n c10) = w11 at k11 hp11
          have hfp : ¬ f = pb := by omega
          have hf11 := hf10.keep k11 hfp
          have hTpb := LRow.blk_ne hT10 hp10 (by decide)
          have hT11 := hT10.keep k11 (fun q hq e => hTpb (e ▸ hq))
          have hVpb : ∀ q, fpV (.slice Av Out.length cv) q → ¬ q = pb := fun q hq e => by
            have := LRow.lt hv q hq
            have := g5.size
            omega
          have hv11 : PRow w11 (.slice Av Out.length cv) Out := hv10.keep k11 hVpb
          have g411 : Grow w4 w11 := g410.above k11 (fun q hq e => by have := g5.size; omega)
          repeat (first | rw [c_seq] | simp -dsimp only [↓RE,RU,RL,forall_const,implies_true,Nat.reduceLeDiff,Nat.reduceLT,pureOp,binPure,intBin,strBin,eqPure,isConstO,lenPure,buildP,resK,endV,yieldE,↓reduceIte,Nat.reduceEqDiff,reduceCtorEq,Nat.reduceAdd,Nat.reduceMul,Int.reduceLT,Int.reduceLE,Int.reduceToNat,Int.reduceAdd,Int.reduceSub,ne_eq,decide_true,decide_false,tf34, he8, add_lit', Nat.zero_add])
          refine hf11.aggK (cs := [.string x.s.s.f, .int .i64 x.x.2.2]) (by simp) ?_
          have hdt : List.take 2 (List.drop 0 [Value.string x.s.s.f, .int .i64 x.x.2.2]) = [.string x.s.s.f, .int .i64 x.x.2.2] := rfl
          have ga := Grow.alloc w11 (.cells #[.string x.s.s.f, .int .i64 x.x.2.2] 98)
          have hfr : LRow (w11.alloc (.cells #[.string x.s.s.f, .int .i64 x.x.2.2] 98)) 98 2 (.slice (some ⟨w11.heap.size, 0, none⟩) 1 1) 1 [.string x.s.s.f, .int .i64 x.x.2.2] := LRow.of_own (own_new w11 98 2 1 #[.string x.s.s.f, .int .i64 x.x.2.2] rfl (by simp [maxLen]))
          have hp12 := hp11.grow ga
          have hs11 := g411.size
          repeat (first | rw [c_seq] | simp -dsimp only [↓RE,RU,RL,forall_const,implies_true,Nat.reduceLeDiff,Nat.reduceLT,pureOp,binPure,intBin,strBin,eqPure,isConstO,lenPure,buildP,resK,endV,yieldE,↓reduceIte,Nat.reduceEqDiff,reduceCtorEq,Nat.reduceAdd,Nat.reduceMul,Int.reduceLT,Int.reduceLE,Int.reduceToNat,Int.reduceAdd,Int.reduceSub,ne_eq,decide_true,decide_false,tf34, he7, hdt, add_lit', Nat.zero_add])
          refine hp12.st (i := 2) (by simp) ?_
          have k13 := Keep.set1 (w11.alloc (.cells #[.string x.s.s.f, .int .i64 x.x.2.2] 98)) pb 2 (.slice (some ⟨w11.heap.size, 0, none⟩) 1 1)
          have hp13 := hp12.set 2 (.slice (some ⟨w11.heap.size, 0, none⟩) 1 1)
          have hFpb := LRow.blk_ne hfr hp12 (by decide)
          have hfr13 := hfr.keep k13 (fun q hq e => hFpb (e ▸ hq))
          have hT13 := (hT11.grow ga).keep k13 (fun q hq e => hTpb (e ▸ hq))
          have hv13 : PRow _ (.slice Av Out.length cv) Out := (hv11.grow ga).keep k13 hVpb
          have g413 : Grow w4 _ := (g411.trans ga).above k13 (fun q hq e => by have := g5.size; omega)
          obtain ⟨fb, hfb⟩ : ∃ fb, fb = w11.heap.size := ⟨_, rfl⟩
          rw [← hfb] at k13 hp13 hfr13 hT13 hv13 g413 hs11 ⊢
          generalize hw13 : (w11.alloc (.cells #[.string x.s.s.f, .int .i64 x.x.2.2] 98)).setCell ⟨pb, 2, none⟩ (.slice (some ⟨fb, 0, none⟩) 1 1) = w13 at k13 hp13 hfr13 hT13 hv13 g413
          obtain ⟨z, hz⟩ : ∃ z : PtV, z = ⟨mkP x.wr, A10, x.s.n, c10, some ⟨fb, 0, none⟩, 1, 1⟩ := ⟨_, rfl⟩
          have hp13 : Blk w13 pb 25 z.cells := by rw [hz]; exact hp13
          have hz13 : PtOwn w13 z := by rw [hz]; exact ⟨hT13, hfr13, hxo.1.2⟩
          repeat (first | rw [c_seq] | simp -dsimp only [↓RE,RU,RL,forall_const,implies_true,Nat.reduceLeDiff,Nat.reduceLT,pureOp,binPure,intBin,strBin,eqPure,isConstO,lenPure,buildP,resK,endV,yieldE,↓reduceIte,Nat.reduceEqDiff,reduceCtorEq,Nat.reduceAdd,Nat.reduceMul,Int.reduceLT,Int.reduceLE,Int.reduceToNat,Int.reduceAdd,Int.reduceSub,ne_eq,decide_true,decide_false,tf34, he3])
          have gz := Grow.alloc w13 (.cells p00.cells.toArray 25)
          have hva := hv13.grow gz
          refine app_p hva (one_ptrow w13 p00) (by omega) (fun A14 c14 w14 hL14 k14 f14 => ?_)
          obtain ⟨N, hN⟩ : ∃ N, N = Out.length := ⟨_, rfl⟩
          have hlo : (Out ++ [p00]).length = N + 1 := by rw [List.length_append, hN]; rfl
          rw [hlo, ← hN] at hL14
          rw [← hN] at f14 ⊢
          obtain ⟨_, _, e14, _, hA14⟩ := hL14.form
          injection e14 with e14 _ _
          obtain ⟨aa, rfl⟩ : ∃ aa, A14 = some aa := by
            cases A14 with
            | none => have := hA14 e14.symm; omega
            | some aa => exact ⟨aa, rfl⟩
          clear e14 hA14
          have hV14 : ∀ q, fpV (.slice (some aa) (N + 1) c14) q → w1.heap.size ≤ q := fun q hq => by
            have h4 := g4.size
            have h5 := g413.size
            have h6 := gz.size
            rcases f14 q hq with e | e
            · exact hF q (by rw [← hN]; exact e)
            · omega
          have g14 : Grow w1 w14 := ((g4.trans g413).trans gz).above k14 (fun q hq e => by have := hF q e; omega)
          have h14 := g14.size
          have hp14 : Blk w14 pb 25 z.cells := by
            have h0 := hp13.grow gz
            exact h0.keep k14 (fun hq => hVpb pb hq rfl)
          have hz14 : PtOwn w14 z := by
            have h0 := hz13.grow gz
            exact h0.keep k14 (LRow.ne h0.tg hva (by decide)) (LRow.ne h0.fl hva (by decide))
          have ho14 : ∀ t ∈ Out, PtOwn w14 t := fun t ht => by
            have h0 := ((hown t ht).1.grow g413).grow gz
            exact h0.keep k14 (LRow.ne h0.tg hva (by decide)) (LRow.ne h0.fl hva (by decide))
          refine os_gen (fun e' => e' 4 = .slice (some ad) m c1 ∧ e' 5 = .int .i64 (k : Int) ∧ e' 7 = .pointer (some ⟨pb, 0, none⟩) ∧ e' 9 = .int .i64 (a : Int) ∧ e' 97 = .slice (some aa) (N + 1) c14) ⟨?_, ?_, ?_, ?_, ?_⟩ ?_
          · simp -dsimp only [↓RE,RU,RL,↓reduceIte,Nat.reduceEqDiff,reduceCtorEq,decide_true,decide_false, he4]
          · simp -dsimp only [↓RE,RU,RL,↓reduceIte,Nat.reduceEqDiff,reduceCtorEq,decide_true,decide_false, he5]
          · simp -dsimp only [↓RE,RU,RL,↓reduceIte,Nat.reduceEqDiff,reduceCtorEq,decide_true,decide_false, he7]
          · simp -dsimp only [↓RE,RU,RL,↓reduceIte,Nat.reduceEqDiff,reduceCtorEq,decide_true,decide_false, he9]
          · simp -dsimp only [↓RE,RU,RL,↓reduceIte,Nat.reduceEqDiff,reduceCtorEq,decide_true,decide_false, he3]
          clear he4 he5 he3 he6 he7 he8 he9
          rintro e6 ⟨he4, he5, he7, he9, he97⟩
          have hwN : IntKind.i64.wrap (((N + 1 : Nat) : Int) - 1) = ((N : Nat) : Int) := by rw [wrap_i64_in (by omega) (by omega)]; omega
          repeat (first | rw [c_seq] | simp -dsimp only [↓RE,RU,RL,forall_const,implies_true,Nat.reduceLeDiff,Nat.reduceLT,pureOp,binPure,intBin,strBin,eqPure,isConstO,lenPure,buildP,resK,endV,yieldE,↓reduceIte,Nat.reduceEqDiff,reduceCtorEq,Nat.reduceAdd,Nat.reduceMul,Int.reduceLT,Int.reduceLE,Int.reduceToNat,Int.reduceAdd,Int.reduceSub,ne_eq,decide_true,decide_false,tf34, he97, hwN])
          refine wpLoop_intro (fun e' w' => Keep (fpV (.slice (some aa) (N + 1) c14)) w14 w' ∧ (e' 4 = .slice (some ad) m c1 ∧ e' 5 = .int .i64 (k : Int) ∧ e' 3 = .slice (some aa) (N + 1) c14 ∧ e' 7 = .pointer (some ⟨pb, 0, none⟩) ∧ e' 9 = .int .i64 (a : Int)) ∧ ∃ (q : Nat) (y : PtV), a ≤ q ∧ q ≤ N ∧ e' 10 = .int .i64 (q : Int) ∧ LRow w' 25 4 (.slice (some aa) (N + 1) c14) (N + 1) ((Out.take q ++ y :: Out.drop q).flatMap PtV.cells))
            (fun e' _ => (envInt (e' 10)).toNat - a) ⟨Keep.refl _ _, ⟨?_, ?_, ?_, ?_, ?_⟩, N, p00, by omega, Nat.le_refl _, ?_, ?_⟩ ?_
          · simp -dsimp only [↓RE,RU,RL,↓reduceIte,Nat.reduceEqDiff,reduceCtorEq,decide_true,decide_false, he4]
          · simp -dsimp only [↓RE,RU,RL,↓reduceIte,Nat.reduceEqDiff,reduceCtorEq,decide_true,decide_false, he5]
          · simp -dsimp only [↓RE,RU,RL,↓reduceIte,Nat.reduceEqDiff,reduceCtorEq,decide_true,decide_false, he97]
          · simp -dsimp only [↓RE,RU,RL,↓reduceIte,Nat.reduceEqDiff,reduceCtorEq,decide_true,decide_false, he7]
          · simp -dsimp only [↓RE,RU,RL,↓reduceIte,Nat.reduceEqDiff,reduceCtorEq,decide_true,decide_false, he9]
          · simp -dsimp only [↓RE,RU,RL,↓reduceIte,Nat.reduceEqDiff,reduceCtorEq,decide_true,decide_false, he97, hwN]
          · rw [hN, List.take_length, List.drop_length]; rw [hN] at hL14; exact hL14
          clear he4 he5 he7 he9 he97 e6
          rintro e6 w15 ⟨k15, ⟨he4, he5, he3, he7, he9⟩, q, y, haq, hqN, he10, hr15⟩
          have hlen : ∀ (q : Nat) (y : PtV), q ≤ N → (Out.take q ++ y :: Out.drop q).length = N + 1 := fun q y hq => by
            rw [List.length_append, List.length_cons, List.length_take, List.length_drop]; omega
          rcases Nat.lt_or_ge a q with hlt2 | hge2
          · have dq : decide ((a : Int) < (q : Int)) = true := decide_eq_true (by omega)
            have hwq : IntKind.i64.wrap ((q : Int) - 1) = ((q - 1 : Nat) : Int) := by rw [wrap_i64_in (by omega) (by omega)]; omega
            have hmq : (envInt (e6 10)).toNat = q := by rw [he10]; exact Int.toNat_natCast q
            have hsg := shift_getP (S := Out) (x := y) (j := q) (by omega) (by omega)
            have hss := shift_setP (S := Out) (x := y) (j := q) (by omega) (by omega)
            have hgd : (Out.take q ++ y :: Out.drop q).getD (q - 1) p00 = Out.getD (q - 1) p00 := by rw [List.getD_eq_getElem?_getD, hsg]; rfl
            have hcq := (LRow.rd hr15).pt (k := q - 1) (by omega)
            rw [hgd] at hcq
            have hst := fun (K : WK) (tk : Tok K) hK => LRow.stElem (P := Tryz.prog) (f := PtV.cells) (size := 4) (fun _ => rfl) pcells_one hr15 (hlen q y hqN) (k := q) (by omega) (Out.getD (q - 1) p00) (K := K) (tk := tk) hK
            repeat (first | rw [c_seq] | simp -dsimp only [↓RE,RU,RL,forall_const,implies_true,Nat.reduceLeDiff,Nat.reduceLT,pureOp,binPure,intBin,strBin,eqPure,isConstO,lenPure,buildP,resK,endV,yieldE,↓reduceIte,Nat.reduceEqDiff,reduceCtorEq,Nat.reduceAdd,Nat.reduceMul,Int.reduceLT,Int.reduceLE,Int.reduceToNat,Int.reduceAdd,Int.reduceSub,ne_eq,decide_true,decide_false,tf34, he3, he9, he10, dq, hwq, Int.toNat_natCast])
            refine ⟨⟨by omega, by omega⟩, (Out.getD (q - 1) p00).cells, rfl, hcq, ?_⟩
            repeat (first | rw [c_seq] | simp -dsimp only [↓RE,RU,RL,forall_const,implies_true,Nat.reduceLeDiff,Nat.reduceLT,pureOp,binPure,intBin,strBin,eqPure,isConstO,lenPure,buildP,resK,endV,yieldE,↓reduceIte,Nat.reduceEqDiff,reduceCtorEq,Nat.reduceAdd,Nat.reduceMul,Int.reduceLT,Int.reduceLE,Int.reduceToNat,Int.reduceAdd,Int.reduceSub,ne_eq,decide_true,decide_false,tf34, he3, he10, Int.toNat_natCast])
            refine ⟨⟨by omega, by omega⟩, rfl, hst _ _ (fun w16 hr16 k16 => ?_)⟩
            rw [hss] at hr16
            have k16' := k15.trans k16 (fun _ _ h => h) (fun i _ e => (fpV_some _ _ _ _).2 e)
            repeat (first | rw [c_seq] | simp -dsimp only [↓RE,RU,RL,forall_const,implies_true,Nat.reduceLeDiff,Nat.reduceLT,pureOp,binPure,intBin,strBin,eqPure,isConstO,lenPure,buildP,resK,endV,yieldE,↓reduceIte,Nat.reduceEqDiff,reduceCtorEq,Nat.reduceAdd,Nat.reduceMul,Int.reduceLT,Int.reduceLE,Int.reduceToNat,Int.reduceAdd,Int.reduceSub,ne_eq,decide_true,decide_false,tf34, he10, hwq])
            refine hold_intro ⟨⟨k16', ⟨?_, ?_, ?_, ?_, ?_⟩, q - 1, _, by omega, by omega, ?_, hr16⟩, ?_⟩
            · simp -dsimp only [↓RE,RU,RL,↓reduceIte,Nat.reduceEqDiff,reduceCtorEq,decide_true,decide_false, he4]
            · simp -dsimp only [↓RE,RU,RL,↓reduceIte,Nat.reduceEqDiff,reduceCtorEq,decide_true,decide_false, he5]
            · simp -dsimp only [↓RE,RU,RL,↓reduceIte,Nat.reduceEqDiff,reduceCtorEq,decide_true,decide_false, he3]
            · simp -dsimp only [↓RE,RU,RL,↓reduceIte,Nat.reduceEqDiff,reduceCtorEq,decide_true,decide_false, he7]
            · simp -dsimp only [↓RE,RU,RL,↓reduceIte,Nat.reduceEqDiff,reduceCtorEq,decide_true,decide_false, he9]
            · simp -dsimp only [↓RE,RU,RL,↓reduceIte,Nat.reduceEqDiff,reduceCtorEq,decide_true,decide_false, hwq]
            · rw [hmq]
              simp -dsimp only [↓RE,↓c_seq,RU,RL,forall_const,implies_true,Nat.reduceLeDiff,Nat.reduceLT,pureOp,binPure,intBin,strBin,eqPure,isConstO,lenPure,buildP,resK,endV,yieldE,↓reduceIte,Nat.reduceEqDiff,reduceCtorEq,Nat.reduceAdd,Nat.reduceMul,Int.reduceLT,Int.reduceLE,Int.reduceToNat,Int.reduceAdd,Int.reduceSub,ne_eq,decide_true,decide_false,tf34, hwq]
              simp only [envInt_int]; omega
          · have dq : decide ((a : Int) < (q : Int)) = false := decide_eq_false (by omega)
            have hqa : q = a := by omega
            subst hqa
            have hp15 : Blk w15 pb 25 z.cells := hp14.keep k15 (fun hq => by
              rcases f14 pb hq with e | e
              · exact hVpb pb (by rw [← hN]; exact e) rfl
              · have h0 := (hp13.grow gz).lt
                omega)
            have hst := fun (K : WK) (tk : Tok K) hK => LRow.stElem (P := Tryz.prog) (f := PtV.cells) (size := 4) (fun _ => rfl) pcells_one hr15 (hlen q y hqN) (k := q) (by omega) z (K := K) (tk := tk) hK
            repeat (first | rw [c_seq] | simp -dsimp only [↓RE,RU,RL,forall_const,implies_true,Nat.reduceLeDiff,Nat.reduceLT,pureOp,binPure,intBin,strBin,eqPure,isConstO,lenPure,buildP,resK,endV,yieldE,↓reduceIte,Nat.reduceEqDiff,reduceCtorEq,Nat.reduceAdd,Nat.reduceMul,Int.reduceLT,Int.reduceLE,Int.reduceToNat,Int.reduceAdd,Int.reduceSub,ne_eq,decide_true,decide_false,tf34, he3, he7, he9, he10, dq, Int.toNat_natCast])
            refine hp15.aggK (cs := z.cells) (by simp [PtV.cells]) ?_
            have hzv : List.take 4 (List.drop 0 z.cells) = z.cells := rfl
            repeat (first | rw [c_seq] | simp -dsimp only [↓RE,RU,RL,forall_const,implies_true,Nat.reduceLeDiff,Nat.reduceLT,pureOp,binPure,intBin,strBin,eqPure,isConstO,lenPure,buildP,resK,endV,yieldE,↓reduceIte,Nat.reduceEqDiff,reduceCtorEq,Nat.reduceAdd,Nat.reduceMul,Int.reduceLT,Int.reduceLE,Int.reduceToNat,Int.reduceAdd,Int.reduceSub,ne_eq,decide_true,decide_false,tf34, he3, he9, hzv, Int.toNat_natCast])
            refine ⟨⟨by omega, by omega⟩, rfl, hst _ _ (fun w16 hr16 k16 => ?_)⟩
            have hend := shift_endP (S := Out) (x := y) (t := z) (i := q) (by omega)
            rw [hend] at hr16
            have k16' : Keep (fpV (.slice (some aa) (N + 1) c14)) w14 w16 := k15.trans k16 (fun _ _ h => h) (fun i _ e => (fpV_some _ _ _ _).2 e)
            have g16 : Grow w1 w16 := g14.above k16' (fun i hi e => by have := hV14 i e; omega)
            have hlz : (Out.take q ++ z :: Out.drop q).length = N + 1 := hlen q z hqN
            have hkeep : ∀ t, PtOwn w14 t → PtOwn w16 t := fun t ht => ht.keep k16' (LRow.ne ht.tg hL14 (by decide)) (LRow.ne ht.fl hL14 (by decide))
            have hh1 : w1.heap.size ≤ fb := Nat.le_trans g4.size hs11
            have hzB : ∀ i, fpA z.B i → i = fb := fun i hi => by
              rw [hz] at hi
              obtain ⟨ad2, e1, e2⟩ := hi
              injection e1 with e1
              subst e1
              exact e2
            have hmem : ∀ t, t ∈ Out.take q ++ z :: Out.drop q → t = z ∨ t ∈ Out := fun t ht => by
              rcases List.mem_append.1 ht with ht | ht
              · exact .inr (List.mem_of_mem_take ht)
              · rcases List.mem_cons.1 ht with ht | ht
                · exact .inl ht
                · exact .inr (List.mem_of_mem_drop ht)
            have hzap : ∀ t ∈ Out, ∀ i, fpA t.B i → ¬ fpA z.B i := fun t ht i hi hi2 => by
              have h1 := (hown t ht).1.fl.lt i ((fpV_fpA _ _ _ _).2 hi)
              have h2 := hzB i hi2
              omega
            repeat (first | rw [c_seq] | simp -dsimp only [↓RE,RU,RL,forall_const,implies_true,Nat.reduceLeDiff,Nat.reduceLT,pureOp,binPure,intBin,strBin,eqPure,isConstO,lenPure,buildP,resK,endV,yieldE,↓reduceIte,Nat.reduceEqDiff,reduceCtorEq,Nat.reduceAdd,Nat.reduceMul,Int.reduceLT,Int.reduceLE,Int.reduceToNat,Int.reduceAdd,Int.reduceSub,ne_eq,decide_true,decide_false,tf34, he5, hw1])
            refine hold_intro ⟨⟨g16, ?_, k + 1, Out.take q ++ z :: Out.drop q, .slice (some aa) (N + 1) c14, hlt, ?_, ?_, ?_, ?_, fun t ht => ?_, ?_, hV14, fun t ht => ?_, ?_⟩, ?_⟩
            · simp -dsimp only [↓RE,RU,RL,↓reduceIte,Nat.reduceEqDiff,reduceCtorEq,decide_true,decide_false, he4]
            · simp -dsimp only [↓RE,RU,RL,↓reduceIte,Nat.reduceEqDiff,reduceCtorEq,decide_true,decide_false, hw1]
            · simp -dsimp only [↓RE,RU,RL,↓reduceIte,Nat.reduceEqDiff,reduceCtorEq,decide_true,decide_false, he3]
            · rw [hnext, pAll_snoc, ← hout, hins, List.map_append, List.map_cons, List.map_take, List.map_drop, hz]
            · unfold PRow; rw [hlz]; exact hr16
            · rcases hmem t ht with rfl | ht
              · refine ⟨hkeep _ hz14, ?_, ?_⟩
                · rw [hz]; show 1 ≤ _; omega
                · rw [hz]
                  exact ⟨hxo.2.1, (show (0 : Int) ≤ 0 ∧ (0 : Int) < 256 by decide), (show (-9223372036854775808 : Int) ≤ 0 ∧ (0 : Int) < 9223372036854775808 by decide)⟩
              · exact ⟨hkeep _ (ho14 t ht), Nat.le_succ_of_le (hown t ht).2.1, (hown t ht).2.2⟩
            · have hap' := hap
              unfold ApartF at hap'
              rw [← List.take_append_drop q Out] at hap'
              obtain ⟨h1, h2, h3⟩ := List.pairwise_append.1 hap'
              refine List.pairwise_append.2 ⟨h1, List.pairwise_cons.2 ⟨fun t ht i hi hi2 => hzap t (List.mem_of_mem_drop ht) i hi2 hi, h2⟩, fun t ht t2 ht2 i hi hi2 => ?_⟩
              rcases List.mem_cons.1 ht2 with rfl | ht2
              · exact hzap t (List.mem_of_mem_take ht) i hi hi2
              · exact h3 t ht t2 ht2 i hi hi2
            · rcases hmem t ht with rfl | ht
              · intro i hi
                have := hzB i hi
                omega
              · exact hFB t ht
            · rw [hlz]; omega
            · rw [hmu]
              simp -dsimp only [↓RE,↓c_seq,RU,RL,forall_const,implies_true,Nat.reduceLeDiff,Nat.reduceLT,pureOp,binPure,intBin,strBin,eqPure,isConstO,lenPure,buildP,resK,endV,yieldE,↓reduceIte,Nat.reduceEqDiff,reduceCtorEq,Nat.reduceAdd,Nat.reduceMul,Int.reduceLT,Int.reduceLE,Int.reduceToNat,Int.reduceAdd,Int.reduceSub,ne_eq,decide_true,decide_false,tf34, hw1]
              simp only [envInt_int]; omega
  · have hdk : decide ((k : Int) < (m : Int)) = false := decide_eq_false (by omega)
    rw [List.take_of_length_le (by omega)] at hout
    repeat (first | rw [c_seq] | simp -dsimp only [↓RE,RU,RL,forall_const,implies_true,Nat.reduceLeDiff,Nat.reduceLT,pureOp,binPure,intBin,strBin,eqPure,isConstO,lenPure,buildP,resK,endV,yieldE,↓reduceIte,Nat.reduceEqDiff,reduceCtorEq,Nat.reduceAdd,Nat.reduceMul,Int.reduceLT,Int.reduceLE,Int.reduceToNat,Int.reduceAdd,Int.reduceSub,ne_eq,decide_true,decide_false,tf34, he3, he4, he5, hdk])
    exact h w4 v Out ⟨hout, hv, fun x hx => (hown x hx).1, hF⟩ g4

end Go.Proofs.YtljgnocpijniiaaGreatDoor
