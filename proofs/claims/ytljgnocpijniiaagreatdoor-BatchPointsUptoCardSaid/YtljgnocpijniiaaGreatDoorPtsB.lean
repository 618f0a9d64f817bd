/- batch.Points. -/
import Derived.Test.YtljgnocpijniiaaGreatDoorPtsD
import Derived.Test.YtljgnocpijniiaaGreatDoorPtRow
import Derived.Test.YtljgnocpijniiaaGreatDoorDraws
import Derived.Test.YtljgnocpijniiaaGreatDoorInsSrt
set_option linter.unusedVariables false
set_option linter.unusedSimpArgs false
set_option maxRecDepth 100000
namespace Go.Proofs.YtljgnocpijniiaaGreatDoor
open Go

/-- a point whose rows are its own. -/
structure PtOwn (w : World) (x : PtV) : Prop where
  tg : LRow w 115 2 (.slice x.A x.n x.c) x.n (x.p.tags.flatMap tcells)
  fl : LRow w 98 2 (.slice x.B x.k x.d) x.k (x.p.fields.flatMap fcells)
  hn : x.n ≤ 1000000000000
theorem PtOwn.keep {F : Nat → Prop} {w w' : World} {x : PtV} (h : PtOwn w x) (k : Keep F w w') (h1 : ∀ q, fpV (.slice x.A x.n x.c) q → ¬ F q) (h2 : ∀ q, fpV (.slice x.B x.k x.d) q → ¬ F q) : PtOwn w' x :=
  ⟨h.tg.keep k h1, h.fl.keep k h2, h.hn⟩
theorem PtOwn.grow {w w' : World} {x : PtV} (h : PtOwn w x) (k : Grow w w') : PtOwn w' x := h.keep k (fun _ _ h => h) (fun _ _ h => h)
def ApartF (D : List PtV) : Prop := D.Pairwise (fun x y => ∀ q, fpA x.B q → ¬ fpA y.B q)
/-- points as they are handed out. -/
structure PtsR (w0 w : World) (v : Value) (D : List PtV) (l : List Pt) : Prop where
  eq : D.map PtV.p = l
  row : PRow w v D
  own : ∀ x ∈ D, PtOwn w x
  fresh : ∀ q, fpV v q → w0.heap.size ≤ q
theorem PtsR.grow {w0 w w' : World} {v : Value} {D : List PtV} {l : List Pt} (h : PtsR w0 w v D l) (g : Grow w w') : PtsR w0 w' v D l :=
  ⟨h.eq, h.row.grow g, fun x hx => (h.own x hx).grow g, h.fresh⟩
theorem filter_wr (D : List WrV) : (D.filter kV).map WrV.wr = (D.map WrV.wr).filter k0 := by
  induction D with
  | nil => rfl
  | cons x D ih =>
    rw [List.map_cons]
    cases h : k0 x.wr with
    | true => rw [List.filter_cons_of_pos (by exact h), List.filter_cons_of_pos h, List.map_cons, ih]
    | false => rw [List.filter_cons_of_neg (by show ¬ k0 x.wr = true; rw [h]; simp), List.filter_cons_of_neg (by rw [h]; simp), ih]
theorem SameK.map {S F : List WrV} (h : SameK cmpBV S F) : SameK cmpB (S.map WrV.wr) (F.map WrV.wr) := by
  refine ⟨by rw [List.length_map, List.length_map]; exact h.1, fun k => ?_⟩
  have e : ∀ L : List WrV, (L.map WrV.wr).filter (likeK cmpB k) = (L.filter (fun x => likeK cmpB k x.wr)).map WrV.wr := fun L => by rw [List.filter_map]; rfl
  rw [e, e]
  have h2 := h.2 ⟨⟨k.1, none, 0, 0⟩, k.2⟩
  have e2 : (likeK cmpBV (⟨⟨k.1, none, 0, 0⟩, k.2⟩ : WrV)) = fun x => likeK cmpB k x.wr := rfl
  rw [e2] at h2
  rw [h2]
theorem sorted_map {S : List WrV} (h : SortedC cmpBV S) : SortedC cmpB (S.map WrV.wr) := List.pairwise_map.2 h
set_option maxHeartbeats 8000000 in
theorem bpoints_ok {w : World} {A : Option Addr} {n c : Nat} {L : List WrV} (hL : RdW w A n L) (ho : ∀ x ∈ L, x.Ok w) (hn : n ≤ 100000000) {R : VWK}
    (h : ∀ w' v D, PtsR w w' v D (ptsP (L.map WrV.wr)) → Grow w w' → R v w') : CallsV Tryz.prog 33 [.slice A n c] w R := by
  have hLl := hL.wlen
  refine calls_of_wpC mixed Tryz.func33 rfl (by kernel_rfl) ?_
  intro e he
  have he0 := he 0
  simp only [List.getD_cons_zero, List.getD_cons_succ] at he0
  clear he
  repeat (first | rw [c_seq] | simp -dsimp only [↓RE,RU,RL,forall_const,implies_true,Nat.reduceLeDiff,Nat.reduceLT,pureOp,binPure,intBin,strBin,eqPure,isConstO,lenPure,buildP,resK,endV,yieldE,↓reduceIte,Nat.reduceEqDiff,reduceCtorEq,Nat.reduceAdd,Nat.reduceMul,Int.reduceLT,Int.reduceLE,Int.reduceToNat,Int.reduceAdd,Int.reduceSub,decide_true,decide_false,tf33, he0])
  refine order_ok hL ho (by omega) (fun w1 v1 D1 hD1 g1 => ?_)
  have hl1 := wOrd_len (L.map WrV.wr)
  rw [← hD1.eq, List.length_map, List.length_map] at hl1
  obtain ⟨A1, c1, rfl, _, _⟩ := hD1.row.form
  have hT1 : ∀ x ∈ D1, ∀ q, fpA x.s.A q → ¬ fpA A1 q := fun x hx q hq hq2 => LRow.ne (hD1.ok x hx).2 hD1.row (by decide) q ((fpV_fpA _ _ _ _).2 hq) ((fpV_fpA _ _ _ _).2 hq2)
  repeat (first | rw [c_seq] | simp -dsimp only [↓RE,RU,RL,forall_const,implies_true,Nat.reduceLeDiff,Nat.reduceLT,pureOp,binPure,intBin,strBin,eqPure,isConstO,lenPure,buildP,resK,endV,yieldE,↓reduceIte,Nat.reduceEqDiff,reduceCtorEq,Nat.reduceAdd,Nat.reduceMul,Int.reduceLT,Int.reduceLE,Int.reduceToNat,Int.reduceAdd,Int.reduceSub,decide_true,decide_false,tf33, he0])
  refine delf_ok hD1.row (by omega) (fun w2 A2 m c2 hr2 k2 f2 => ?_)
  have g2 : Grow w w2 := g1.above k2 (fun q hq e => by have := hD1.fresh q ((fpV_fpA _ _ _ _).2 e); omega)
  have hm : (D1.filter kV).length = m := (Rd.wlen hr2.rd)
  have hml : (D1.filter kV).length ≤ D1.length := List.length_filter_le _ _
  have hFk : ∀ x ∈ D1.filter kV, x.Ok w2 ∧ TRow w2 x := fun x hx => by
    have hx := (List.mem_filter.1 hx).1
    exact ⟨(hD1.ok x hx).1.keep0 k2 (fun _ => hT1 x hx), TRow.keep (hD1.ok x hx).2 k2 (hT1 x hx)⟩
  have hT2 : ∀ x ∈ D1.filter kV, 0 < x.s.n → ∀ q, fpA x.s.A q → ¬ fpA A2 q := fun x hx _ q hq hq2 => hT1 x ((List.mem_filter.1 hx).1) q hq (f2 q hq2)
  have hFe := filter_wr D1
  rw [hD1.eq] at hFe
  repeat (first | rw [c_seq] | simp -dsimp only [↓RE,RU,RL,forall_const,implies_true,Nat.reduceLeDiff,Nat.reduceLT,pureOp,binPure,intBin,strBin,eqPure,isConstO,lenPure,buildP,resK,endV,yieldE,↓reduceIte,Nat.reduceEqDiff,reduceCtorEq,Nat.reduceAdd,Nat.reduceMul,Int.reduceLT,Int.reduceLE,Int.reduceToNat,Int.reduceAdd,Int.reduceSub,decide_true,decide_false,tf33, he0])
  refine sortw_ok cmpF_pts cmpBV_cmp hr2 (fun x hx => (hFk x hx).1) hT2 (by omega) (fun w3 S hS hsk k3 hr3 => ?_)
  have g3 : Grow w w3 := g2.above k3 (fun q hq e => by have := hD1.fresh q ((fpV_fpA _ _ _ _).2 (f2 q e)); omega)
  have hSk : ∀ x ∈ S, x.Ok w3 ∧ TRow w3 x := fun x hx => by
    have hx := SameK.mem cmpBV_cmp hsk.symm hx
    have hne : ∀ q, fpA x.s.A q → ¬ fpA A2 q := fun q hq hq2 => hT1 x ((List.mem_filter.1 hx).1) q hq (f2 q hq2)
    exact ⟨(hFk x hx).1.keep0 k3 (fun _ => hne), TRow.keep (hFk x hx).2 k3 hne⟩
  have hall : pAll (S.map WrV.wr) = ptsP (L.map WrV.wr) := by
    rw [ptsP, ← hFe]
    exact pAll_same (SameK.map hsk.symm)
  have hSs := sorted_map hS
  have hSl : S.length = m := Rd.wlen hr3.rd
  have hrd := hr3.rd
  rw [← hall] at h
  have h : ∀ w' v D, PtsR w3 w' v D (pAll (S.map WrV.wr)) → Grow w3 w' → R v w' := fun w' v D hD g => h w' v D ⟨hD.eq, hD.row, hD.own, fun q hq => Nat.le_trans g3.size (hD.fresh q hq)⟩ (g3.trans g)
  have hm8 : m ≤ 100000000 := by omega
  clear hFk hT2 hFe hsk hT1 hD1 hr2 k2 f2 k3 hm hml hall hS g1 g2 g3 hl1 hL ho hLl
  repeat (first | rw [c_seq] | simp -dsimp only [↓RE,RU,RL,forall_const,implies_true,Nat.reduceLeDiff,Nat.reduceLT,pureOp,binPure,intBin,strBin,eqPure,isConstO,lenPure,buildP,resK,endV,yieldE,↓reduceIte,Nat.reduceEqDiff,reduceCtorEq,Nat.reduceAdd,Nat.reduceMul,Int.reduceLT,Int.reduceLE,Int.reduceToNat,Int.reduceAdd,Int.reduceSub,decide_true,decide_false,tf33, he0])
  refine wpLoop_intro (fun e' w' => Grow w3 w' ∧ (e' 4 = .slice A2 m c2 ∧ e' 16 = .slice A2 m c2 ∧ e' 17 = .int .i64 (m : Int)) ∧ ∃ (k : Nat) (Out : List PtV) (v : Value), k ≤ m ∧ e' 18 = .int .i64 (k : Int) ∧ e' 5 = v ∧ Out.map PtV.p = pAll ((S.take k).map WrV.wr) ∧ PRow w' v Out ∧ (∀ x ∈ Out, PtOwn w' x ∧ x.k ≤ k) ∧ ApartF Out ∧ (∀ q, fpV v q → w3.heap.size ≤ q) ∧ (∀ x ∈ Out, ∀ q, fpA x.B q → w3.heap.size ≤ q) ∧ Out.length ≤ k)
    (fun e' _ => m - (envInt (e' 18)).toNat) ⟨Keep.refl _ _, ⟨?_, ?_, ?_⟩, 0, [], .slice none 0 0, Nat.zero_le _, ?_, ?_, rfl, LRow.nil _ _ _, (fun x hx => by cases hx), List.Pairwise.nil, (fun q hq => (fpV_none _ hq).elim), (fun x hx => by cases hx), Nat.zero_le _⟩ ?_
  · simp -dsimp only [↓RE,RU,RL,↓reduceIte,Nat.reduceEqDiff,reduceCtorEq,decide_true,decide_false, he0]
  · simp -dsimp only [↓RE,RU,RL,↓reduceIte,Nat.reduceEqDiff,reduceCtorEq,decide_true,decide_false, he0]
  · simp -dsimp only [↓RE,RU,RL,↓reduceIte,Nat.reduceEqDiff,reduceCtorEq,decide_true,decide_false, he0]
  · simp -dsimp only [↓RE,RU,RL,↓reduceIte,Nat.reduceEqDiff,reduceCtorEq,decide_true,decide_false, he0]
    rfl
  · simp -dsimp only [↓RE,RU,RL,↓reduceIte,Nat.reduceEqDiff,reduceCtorEq,decide_true,decide_false, he0]
  clear he0 e
  rintro e w4 ⟨g4, ⟨he4, he16, he17⟩, k, Out, v, hk, he18, he5, hout, hv, hown, hap, hF, hFB, holn⟩
  rcases Nat.lt_or_ge k m with hlt | hge
  · have hdk : decide ((k : Int) < (m : Int)) = true := decide_eq_true (by omega)
    have hw1 : IntKind.i64.wrap ((k : Int) + 1) = ((k + 1 : Nat) : Int) := by rw [wrap_i64_in (by omega) (by omega)]; omega
    have hmu : (envInt (e 18)).toNat = k := by rw [he18]; exact Int.toNat_natCast k
    have hsn := wtk_snoc (l := S) (k := k) (by omega)
    obtain ⟨ad, rfl⟩ : ∃ ad, A2 = some ad := by
      obtain ⟨ad, e, _⟩ := hrd.2 (by omega)
      exact ⟨ad, e⟩
    have hcs := (Rd.grow hrd g4).wrc hlt
    obtain ⟨hxo, hxt⟩ := hSk _ (getD_mem (l := S) (k := k) (by omega))
    have hso : SortedC cmpB ((S.take (k + 1)).map WrV.wr) := by
      have : (S.take (k + 1)).Sublist S := List.take_sublist _ _
      exact List.Pairwise.sublist (this.map _) hSs
    have hnext : pAll ((S.take (k + 1)).map WrV.wr) = pIns (pAll ((S.take k).map WrV.wr)) (S.getD k w00).wr := by
      rw [hsn, List.map_append, List.map_cons, List.map_nil, pAll_snoc]
    generalize hx : S.getD k w00 = x at hcs hxo hxt hsn hnext
    repeat (first | rw [c_seq] | simp -dsimp only [↓RE,RU,RL,forall_const,implies_true,Nat.reduceLeDiff,Nat.reduceLT,pureOp,binPure,intBin,strBin,eqPure,isConstO,lenPure,buildP,resK,endV,yieldE,↓reduceIte,Nat.reduceEqDiff,reduceCtorEq,Nat.reduceAdd,Nat.reduceMul,Int.reduceLT,Int.reduceLE,Int.reduceToNat,Int.reduceAdd,Int.reduceSub,decide_true,decide_false,tf33, he16, he17, he18, hdk, Int.toNat_natCast])
    refine ⟨⟨by omega, by omega⟩, x.cells, rfl, hcs, ?_⟩
    repeat (first | rw [c_seq] | simp -dsimp only [↓RE,RU,RL,forall_const,implies_true,Nat.reduceLeDiff,Nat.reduceLT,pureOp,binPure,intBin,strBin,eqPure,isConstO,lenPure,buildP,resK,endV,yieldE,↓reduceIte,Nat.reduceEqDiff,reduceCtorEq,Nat.reduceAdd,Nat.reduceMul,Int.reduceLT,Int.reduceLE,Int.reduceToNat,Int.reduceAdd,Int.reduceSub,decide_true,decide_false,tf33, he18])
    refine ⟨rfl, newN rfl (wcells_one x) (fun w5 hb5 g5 => ?_)⟩
    generalize hbs : w4.heap.size = b at hb5
    refine os_gen (fun e' => (e' 4 = .slice (some ad) m c2 ∧ e' 16 = .slice (some ad) m c2 ∧ e' 17 = .int .i64 (m : Int)) ∧ e' 18 = .int .i64 (k : Int) ∧ e' 5 = v ∧ e' 7 = .pointer (some ⟨b, 0, none⟩) ∧ e' 6 = .int .i64 (k : Int)) ⟨⟨?_, ?_, ?_⟩, ?_, ?_, ?_, ?_⟩ ?_
    · simp -dsimp only [↓RE,RU,RL,↓reduceIte,Nat.reduceEqDiff,reduceCtorEq,decide_true,decide_false, he4]
    · simp -dsimp only [↓RE,RU,RL,↓reduceIte,Nat.reduceEqDiff,reduceCtorEq,decide_true,decide_false, he16]
    · simp -dsimp only [↓RE,RU,RL,↓reduceIte,Nat.reduceEqDiff,reduceCtorEq,decide_true,decide_false, he17]
    · simp -dsimp only [↓RE,RU,RL,↓reduceIte,Nat.reduceEqDiff,reduceCtorEq,decide_true,decide_false, he18]
    · simp -dsimp only [↓RE,RU,RL,↓reduceIte,Nat.reduceEqDiff,reduceCtorEq,decide_true,decide_false, he5]
    · simp -dsimp only [↓RE,RU,RL,↓reduceIte,Nat.reduceEqDiff,reduceCtorEq,decide_true,decide_false, he18]
    · simp -dsimp only [↓RE,RU,RL,↓reduceIte,Nat.reduceEqDiff,reduceCtorEq,decide_true,decide_false, he18]
    clear he4 he16 he17 he18 he5
    rintro e1 ⟨⟨he4, he16, he17⟩, he18, he5, he7, he6⟩
    have b2a : w5.cell? ⟨b, 2, none⟩ = some (.string x.s.s.f) := (hb5.cell 2).trans rfl
    have b5a : w5.cell? ⟨b, 5, none⟩ = some (.int .i64 x.x.2.2) := (hb5.cell 5).trans rfl
    simp -dsimp only [↓RE,RU,RL,forall_const,implies_true,Nat.reduceLeDiff,Nat.reduceLT,pureOp,binPure,intBin,strBin,eqPure,isConstO,lenPure,buildP,resK,endV,yieldE,↓reduceIte,Nat.reduceEqDiff,reduceCtorEq,Nat.reduceAdd,Nat.reduceMul,Int.reduceLT,Int.reduceLE,Int.reduceToNat,Int.reduceAdd,Int.reduceSub,decide_true,decide_false,tf33, he7]
    rw [c_seq]
    simp -dsimp only [↓RE,RU,RL,forall_const,implies_true,Nat.reduceLeDiff,Nat.reduceLT,pureOp,binPure,intBin,strBin,eqPure,isConstO,lenPure,buildP,resK,endV,yieldE,↓reduceIte,Nat.reduceEqDiff,reduceCtorEq,Nat.reduceAdd,Nat.reduceMul,Int.reduceLT,Int.reduceLE,Int.reduceToNat,Int.reduceAdd,Int.reduceSub,decide_true,decide_false,tf33, he7, b2a, b5a, add_lit', Nat.zero_add]
    refine new2 (fun w6 hf6 g6 => ?_) rfl rfl
    have hff := g5.size
    generalize w5.heap.size = f at hf6 hff
    refine os_gen (fun e' => ((e' 4 = .slice (some ad) m c2 ∧ e' 16 = .slice (some ad) m c2 ∧ e' 17 = .int .i64 (m : Int)) ∧ e' 18 = .int .i64 (k : Int) ∧ e' 5 = v ∧ e' 7 = .pointer (some ⟨b, 0, none⟩) ∧ e' 8 = .pointer (some ⟨f, 0, none⟩)) ∧ e' 6 = .int .i64 (k : Int)) ⟨⟨⟨?_, ?_, ?_⟩, ?_, ?_, ?_, ?_⟩, ?_⟩ ?_
    · simp -dsimp only [↓RE,RU,RL,↓reduceIte,Nat.reduceEqDiff,reduceCtorEq,decide_true,decide_false, he4]
    · simp -dsimp only [↓RE,RU,RL,↓reduceIte,Nat.reduceEqDiff,reduceCtorEq,decide_true,decide_false, he16]
    · simp -dsimp only [↓RE,RU,RL,↓reduceIte,Nat.reduceEqDiff,reduceCtorEq,decide_true,decide_false, he17]
    · simp -dsimp only [↓RE,RU,RL,↓reduceIte,Nat.reduceEqDiff,reduceCtorEq,decide_true,decide_false, he18]
    · simp -dsimp only [↓RE,RU,RL,↓reduceIte,Nat.reduceEqDiff,reduceCtorEq,decide_true,decide_false, he5]
    · simp -dsimp only [↓RE,RU,RL,↓reduceIte,Nat.reduceEqDiff,reduceCtorEq,decide_true,decide_false, he7]
    · simp -dsimp only [↓RE,RU,RL,↓reduceIte,Nat.reduceEqDiff,reduceCtorEq,decide_true,decide_false, he7]
    · simp -dsimp only [↓RE,RU,RL,↓reduceIte,Nat.reduceEqDiff,reduceCtorEq,decide_true,decide_false, he6]
    clear he4 he16 he17 he18 he5 he7 he6 b2a b5a
    rintro e2 ⟨⟨⟨he4, he16, he17⟩, he18, he5, he7, he8⟩, he6⟩
    have hb6 := hb5.grow g6
    have g46 := g5.trans g6
    have g36 := g4.trans g46
    obtain ⟨y, hy⟩ : ∃ y, y = S.getD (k - 1) w00 := ⟨_, rfl⟩
    obtain ⟨sm, hsm⟩ : ∃ sm : Bool, (sm = true ↔ 0 < k ∧ cmpB x.wr y.wr = 0) := ⟨decide _, decide_eq_true_iff⟩
    simp -dsimp only [↓RE,RU,RL,forall_const,implies_true,Nat.reduceLeDiff,Nat.reduceLT,pureOp,binPure,intBin,strBin,eqPure,isConstO,lenPure,buildP,resK,endV,yieldE,↓reduceIte,Nat.reduceEqDiff,reduceCtorEq,Nat.reduceAdd,Nat.reduceMul,Int.reduceLT,Int.reduceLE,Int.reduceToNat,Int.reduceAdd,Int.reduceSub,decide_true,decide_false,tf33, he7]
    refine c_seq_cut (fun e' w' => Grow w6 w' ∧ ((e' 4 = .slice (some ad) m c2 ∧ e' 16 = .slice (some ad) m c2 ∧ e' 17 = .int .i64 (m : Int)) ∧ e' 18 = .int .i64 (k : Int) ∧ e' 5 = v ∧ e' 7 = .pointer (some ⟨b, 0, none⟩) ∧ e' 8 = .pointer (some ⟨f, 0, none⟩)) ∧ sm = false) ?_ ?_
    · refine c_seq_cut (fun e' w' => Grow w6 w' ∧ ((e' 4 = .slice (some ad) m c2 ∧ e' 16 = .slice (some ad) m c2 ∧ e' 17 = .int .i64 (m : Int)) ∧ e' 18 = .int .i64 (k : Int) ∧ e' 5 = v ∧ e' 7 = .pointer (some ⟨b, 0, none⟩) ∧ e' 8 = .pointer (some ⟨f, 0, none⟩)) ∧ e' 59 = .bool sm) ?_ ?_
      · have xS : ∀ w', Grow w6 w' → ∀ (j : Nat) v, x.s.cells[j]? = some v → w'.cell? ((⟨b, 0, none⟩ : Addr).add j) = some v := fun w' g j v hv => by rw [add_lit', Nat.zero_add, (hb6.grow g).cell]; exact x.head hv
        have x3 : ∀ w', Grow w6 w' → w'.cell? ⟨b, 3, none⟩ = some (.int .i64 x.x.1) := fun w' g => ((hb6.grow g).cell 3).trans rfl
        have gd := Grow.drew w6
        by_cases hk0 : 0 < k
        · have dk0 : decide ((0 : Int) < (k : Int)) = true := decide_eq_true (by omega)
          have hwm : IntKind.i64.wrap ((k : Int) - 1) = ((k - 1 : Nat) : Int) := by rw [wrap_i64_in (by omega) (by omega)]; omega
          have hyc : ∀ w', Grow w6 w' → ∀ j v, y.cells[j]? = some v → w'.cell? ((ad.add ((k - 1) * 6)).add j) = some v := fun w' g => by rw [hy]; exact (Rd.grow hrd (g36.trans g)).wrc (by omega)
          have yS : ∀ w', Grow w6 w' → ∀ (j : Nat) v, y.s.cells[j]? = some v → w'.cell? ((ad.add ((k - 1) * 6)).add j) = some v := fun w' g j v hv => hyc w' g j v (y.head hv)
          have y3 : ∀ w', Grow w6 w' → w'.cell? ((ad.add ((k - 1) * 6)).add 3) = some (.int .i64 y.x.1) := fun w' g => hyc w' g 3 _ rfl
          have hyo := (hSk y (by rw [hy]; exact getD_mem (by omega))).1
          simp -dsimp only [↓RE,RU,RL,forall_const,implies_true,Nat.reduceLeDiff,Nat.reduceLT,pureOp,binPure,intBin,strBin,eqPure,isConstO,lenPure,buildP,resK,endV,yieldE,↓reduceIte,Nat.reduceEqDiff,reduceCtorEq,Nat.reduceAdd,Nat.reduceMul,Int.reduceLT,Int.reduceLE,Int.reduceToNat,Int.reduceAdd,Int.reduceSub,decide_true,decide_false,tf33, he6]
          refine wpDraw_by (Grow w6 ·) [(0, true), (1, true), (2, true), (3, true), (4, true), (6, true), (7, true), (8, true), (9, true), (10, true), (11, true), (5, false), (12, false), (13, false), (14, true), (15, true), (16, true), (17, true), (18, true), (19, true), (20, true), (21, true), (22, true), (23, true), (24, true), (25, true), (26, true), (27, true), (28, true)] (by kernel_rfl) gd ?_
          simp only [planL, List.getElem?_toArray, List.getElem?_cons_zero, List.getElem?_cons_succ, Option.toList_some, List.map_cons, List.map_nil, List.cons_append, List.nil_append]
          repeat (first | rw [c_seq] | simp -dsimp only [↓RE,RU,RL,forall_const,implies_true,Nat.reduceLeDiff,Nat.reduceLT,pureOp,binPure,intBin,strBin,eqPure,isConstO,lenPure,buildP,resK,endV,yieldE,↓reduceIte,Nat.reduceEqDiff,reduceCtorEq,Nat.reduceAdd,Nat.reduceMul,Int.reduceLT,Int.reduceLE,Int.reduceToNat,Int.reduceAdd,Int.reduceSub,decide_true,decide_false,tf33, he6, he7, dk0, hwm, add_lit', Nat.zero_add, Int.toNat_natCast])
          refine ⟨x.s.cells, rfl, xS, ?_⟩
          repeat (first | rw [c_seq] | simp -dsimp only [↓RE,RU,RL,forall_const,implies_true,Nat.reduceLeDiff,Nat.reduceLT,pureOp,binPure,intBin,strBin,eqPure,isConstO,lenPure,buildP,resK,endV,yieldE,↓reduceIte,Nat.reduceEqDiff,reduceCtorEq,Nat.reduceAdd,Nat.reduceMul,Int.reduceLT,Int.reduceLE,Int.reduceToNat,Int.reduceAdd,Int.reduceSub,decide_true,decide_false,tf33, he4, he6, he7, dk0, hwm, add_lit', Nat.zero_add, add_zero', Int.toNat_natCast])
          refine ⟨⟨by omega, by omega⟩, y.s.cells, rfl, yS, ?_⟩
          repeat (first | rw [c_seq] | simp -dsimp only [↓RE,RU,RL,forall_const,implies_true,Nat.reduceLeDiff,Nat.reduceLT,pureOp,binPure,intBin,strBin,eqPure,isConstO,lenPure,buildP,resK,endV,yieldE,↓reduceIte,Nat.reduceEqDiff,reduceCtorEq,Nat.reduceAdd,Nat.reduceMul,Int.reduceLT,Int.reduceLE,Int.reduceToNat,Int.reduceAdd,Int.reduceSub,decide_true,decide_false,tf33, he7, dk0])
          refine bare_ok (fun w7 g7 => ?_)
          have g67 := gd.trans g7
          refine ⟨g67, ?_⟩
          repeat (first | rw [c_seq] | simp -dsimp only [↓RE,RU,RL,forall_const,implies_true,Nat.reduceLeDiff,Nat.reduceLT,pureOp,binPure,intBin,strBin,eqPure,isConstO,lenPure,buildP,resK,endV,yieldE,↓reduceIte,Nat.reduceEqDiff,reduceCtorEq,Nat.reduceAdd,Nat.reduceMul,Int.reduceLT,Int.reduceLE,Int.reduceToNat,Int.reduceAdd,Int.reduceSub,decide_true,decide_false,tf33, he7, dk0])
          refine bare_ok (fun w8 g8 => ?_)
          have g68 := g67.trans g8
          refine ⟨g68, ?_⟩
          repeat (first | rw [c_seq] | simp -dsimp only [↓RE,RU,RL,forall_const,implies_true,Nat.reduceLeDiff,Nat.reduceLT,pureOp,binPure,intBin,strBin,eqPure,isConstO,lenPure,buildP,resK,endV,yieldE,↓reduceIte,Nat.reduceEqDiff,reduceCtorEq,Nat.reduceAdd,Nat.reduceMul,Int.reduceLT,Int.reduceLE,Int.reduceToNat,Int.reduceAdd,Int.reduceSub,decide_true,decide_false,tf33, he7, dk0])
          have g38 := g36.trans g68
          refine serc_ok (hxo.1.bare.grow g38) (hyo.1.bare.grow g38) (fun w9 g9 => ?_)
          have g69 := g68.trans g9
          refine ⟨g69, ?_⟩
          by_cases hs0 : cmpSer x.s.bare.s y.s.bare.s = 0
          · have ds : decide (cmpSer x.s.bare.s y.s.bare.s = 0) = true := decide_eq_true hs0
            have hse : sm = decide (x.x.1 = y.x.1) := by
              rw [Bool.eq_iff_iff, hsm, decide_eq_true_iff, cmpB_zero]
              have he : bareS x.s.s = bareS y.s.s := (cmpSer_eq _ _).1 hs0
              have e1 : x.wr.1.m = y.wr.1.m := by have := congrArg Ser.m he; exact this
              have e2 : x.wr.1.tags = y.wr.1.tags := by have := congrArg Ser.tags he; exact this
              exact ⟨fun hq => hq.2.2.2, fun hq => ⟨hk0, e1, e2, hq⟩⟩
            repeat (first | rw [c_seq] | simp -dsimp only [↓RE,RU,RL,forall_const,implies_true,Nat.reduceLeDiff,Nat.reduceLT,pureOp,binPure,intBin,strBin,eqPure,isConstO,lenPure,buildP,resK,endV,yieldE,↓reduceIte,Nat.reduceEqDiff,reduceCtorEq,Nat.reduceAdd,Nat.reduceMul,Int.reduceLT,Int.reduceLE,Int.reduceToNat,Int.reduceAdd,Int.reduceSub,decide_true,decide_false,tf33, he6, he7, dk0, hwm, ds, add_lit', Nat.zero_add, Int.toNat_natCast])
            refine ⟨_, x3, ?_⟩
            repeat (first | rw [c_seq] | simp -dsimp only [↓RE,RU,RL,forall_const,implies_true,Nat.reduceLeDiff,Nat.reduceLT,pureOp,binPure,intBin,strBin,eqPure,isConstO,lenPure,buildP,resK,endV,yieldE,↓reduceIte,Nat.reduceEqDiff,reduceCtorEq,Nat.reduceAdd,Nat.reduceMul,Int.reduceLT,Int.reduceLE,Int.reduceToNat,Int.reduceAdd,Int.reduceSub,decide_true,decide_false,tf33, he4, he6, he7, dk0, hwm, ds, add_lit', Nat.zero_add, add_zero', Int.toNat_natCast])
            refine ⟨⟨by omega, by omega⟩, _, y3, ?_⟩
            repeat (first | rw [c_seq] | simp -dsimp only [↓RE,RU,RL,forall_const,implies_true,Nat.reduceLeDiff,Nat.reduceLT,pureOp,binPure,intBin,strBin,eqPure,isConstO,lenPure,buildP,resK,endV,yieldE,↓reduceIte,Nat.reduceEqDiff,reduceCtorEq,Nat.reduceAdd,Nat.reduceMul,Int.reduceLT,Int.reduceLE,Int.reduceToNat,Int.reduceAdd,Int.reduceSub,decide_true,decide_false,tf33, he7, dk0, ds])
            refine hold_intro ⟨g69, ⟨⟨?_, ?_, ?_⟩, ?_, ?_, ?_, ?_⟩, ?_⟩
            · simp -dsimp only [↓RE,RU,RL,↓reduceIte,Nat.reduceEqDiff,reduceCtorEq,decide_true,decide_false, he4]
            · simp -dsimp only [↓RE,RU,RL,↓reduceIte,Nat.reduceEqDiff,reduceCtorEq,decide_true,decide_false, he16]
            · simp -dsimp only [↓RE,RU,RL,↓reduceIte,Nat.reduceEqDiff,reduceCtorEq,decide_true,decide_false, he17]
            · simp -dsimp only [↓RE,RU,RL,↓reduceIte,Nat.reduceEqDiff,reduceCtorEq,decide_true,decide_false, he18]
            · simp -dsimp only [↓RE,RU,RL,↓reduceIte,Nat.reduceEqDiff,reduceCtorEq,decide_true,decide_false, he5]
            · simp -dsimp only [↓RE,RU,RL,↓reduceIte,Nat.reduceEqDiff,reduceCtorEq,decide_true,decide_false, he7]
            · simp -dsimp only [↓RE,RU,RL,↓reduceIte,Nat.reduceEqDiff,reduceCtorEq,decide_true,decide_false, he8]
            · rw [hse]
              simp -dsimp only [↓RE,↓c_seq,RU,RL,forall_const,implies_true,Nat.reduceLeDiff,Nat.reduceLT,pureOp,binPure,intBin,strBin,eqPure,isConstO,lenPure,buildP,resK,endV,yieldE,↓reduceIte,Nat.reduceEqDiff,reduceCtorEq,Nat.reduceAdd,Nat.reduceMul,Int.reduceLT,Int.reduceLE,Int.reduceToNat,Int.reduceAdd,Int.reduceSub,decide_true,decide_false,tf33, he7, dk0, ds]
          · have ds : decide (cmpSer x.s.bare.s y.s.bare.s = 0) = false := decide_eq_false hs0
            have hse : sm = false := by
              rw [Bool.eq_false_iff, ne_eq, hsm]
              rintro ⟨_, hq⟩
              obtain ⟨q1, q2, _⟩ := cmpB_zero.1 hq
              exact hs0 ((cmpSer_eq _ _).2 (by show Ser.mk _ _ _ = Ser.mk _ _ _; rw [show x.s.s.m = y.s.s.m from q1, show x.s.s.tags = y.s.s.tags from q2]))
            repeat (first | rw [c_seq] | simp -dsimp only [↓RE,RU,RL,forall_const,implies_true,Nat.reduceLeDiff,Nat.reduceLT,pureOp,binPure,intBin,strBin,eqPure,isConstO,lenPure,buildP,resK,endV,yieldE,↓reduceIte,Nat.reduceEqDiff,reduceCtorEq,Nat.reduceAdd,Nat.reduceMul,Int.reduceLT,Int.reduceLE,Int.reduceToNat,Int.reduceAdd,Int.reduceSub,decide_true,decide_false,tf33, he7, dk0, ds, undef])
            refine hold_intro ⟨g69, ⟨⟨?_, ?_, ?_⟩, ?_, ?_, ?_, ?_⟩, ?_⟩
            · simp -dsimp only [↓RE,RU,RL,↓reduceIte,Nat.reduceEqDiff,reduceCtorEq,decide_true,decide_false, he4]
            · simp -dsimp only [↓RE,RU,RL,↓reduceIte,Nat.reduceEqDiff,reduceCtorEq,decide_true,decide_false, he16]
            · simp -dsimp only [↓RE,RU,RL,↓reduceIte,Nat.reduceEqDiff,reduceCtorEq,decide_true,decide_false, he17]
            · simp -dsimp only [↓RE,RU,RL,↓reduceIte,Nat.reduceEqDiff,reduceCtorEq,decide_true,decide_false, he18]
            · simp -dsimp only [↓RE,RU,RL,↓reduceIte,Nat.reduceEqDiff,reduceCtorEq,decide_true,decide_false, he5]
            · simp -dsimp only [↓RE,RU,RL,↓reduceIte,Nat.reduceEqDiff,reduceCtorEq,decide_true,decide_false, he7]
            · simp -dsimp only [↓RE,RU,RL,↓reduceIte,Nat.reduceEqDiff,reduceCtorEq,decide_true,decide_false, he8]
            · rw [hse]
              simp -dsimp only [↓RE,↓c_seq,RU,RL,forall_const,implies_true,Nat.reduceLeDiff,Nat.reduceLT,pureOp,binPure,intBin,strBin,eqPure,isConstO,lenPure,buildP,resK,endV,yieldE,↓reduceIte,Nat.reduceEqDiff,reduceCtorEq,Nat.reduceAdd,Nat.reduceMul,Int.reduceLT,Int.reduceLE,Int.reduceToNat,Int.reduceAdd,Int.reduceSub,decide_true,decide_false,tf33, he7, dk0, ds]
        · have dk0 : decide ((0 : Int) < (k : Int)) = false := decide_eq_false (by omega)
          have hse : sm = false := by
            rw [Bool.eq_false_iff, ne_eq, hsm]
            exact fun hq => hk0 hq.1
          simp -dsimp only [↓RE,RU,RL,forall_const,implies_true,Nat.reduceLeDiff,Nat.reduceLT,pureOp,binPure,intBin,strBin,eqPure,isConstO,lenPure,buildP,resK,endV,yieldE,↓reduceIte,Nat.reduceEqDiff,reduceCtorEq,Nat.reduceAdd,Nat.reduceMul,Int.reduceLT,Int.reduceLE,Int.reduceToNat,Int.reduceAdd,Int.reduceSub,decide_true,decide_false,tf33, he6]
          refine wpDraw_by (Grow w6 ·) [(0, true), (1, true), (2, true), (3, true), (4, true), (6, true), (7, true), (8, true), (9, true), (10, true), (11, true), (5, false), (12, false), (13, false), (14, true), (15, true), (16, true), (17, true), (18, true), (19, true), (20, true), (21, true), (22, true), (23, true), (24, true), (25, true), (26, true), (27, true), (28, true)] (by kernel_rfl) gd ?_
          simp only [planL, List.getElem?_toArray, List.getElem?_cons_zero, List.getElem?_cons_succ, Option.toList_some, List.map_cons, List.map_nil, List.cons_append, List.nil_append]
          repeat (first | rw [c_seq] | simp -dsimp only [↓RE,RU,RL,forall_const,implies_true,Nat.reduceLeDiff,Nat.reduceLT,pureOp,binPure,intBin,strBin,eqPure,isConstO,lenPure,buildP,resK,endV,yieldE,↓reduceIte,Nat.reduceEqDiff,reduceCtorEq,Nat.reduceAdd,Nat.reduceMul,Int.reduceLT,Int.reduceLE,Int.reduceToNat,Int.reduceAdd,Int.reduceSub,decide_true,decide_false,tf33, he6, he7, dk0, undef])
          refine ⟨gd, gd, gd, ?_⟩
          repeat (first | rw [c_seq] | simp -dsimp only [↓RE,RU,RL,forall_const,implies_true,Nat.reduceLeDiff,Nat.reduceLT,pureOp,binPure,intBin,strBin,eqPure,isConstO,lenPure,buildP,resK,endV,yieldE,↓reduceIte,Nat.reduceEqDiff,reduceCtorEq,Nat.reduceAdd,Nat.reduceMul,Int.reduceLT,Int.reduceLE,Int.reduceToNat,Int.reduceAdd,Int.reduceSub,decide_true,decide_false,tf33, he6, he7, dk0, undef])
          refine hold_intro ⟨gd, ⟨⟨?_, ?_, ?_⟩, ?_, ?_, ?_, ?_⟩, ?_⟩
          · simp -dsimp only [↓RE,RU,RL,↓reduceIte,Nat.reduceEqDiff,reduceCtorEq,decide_true,decide_false, he4]
          · simp -dsimp only [↓RE,RU,RL,↓reduceIte,Nat.reduceEqDiff,reduceCtorEq,decide_true,decide_false, he16]
          · simp -dsimp only [↓RE,RU,RL,↓reduceIte,Nat.reduceEqDiff,reduceCtorEq,decide_true,decide_false, he17]
          · simp -dsimp only [↓RE,RU,RL,↓reduceIte,Nat.reduceEqDiff,reduceCtorEq,decide_true,decide_false, he18]
          · simp -dsimp only [↓RE,RU,RL,↓reduceIte,Nat.reduceEqDiff,reduceCtorEq,decide_true,decide_false, he5]
          · simp -dsimp only [↓RE,RU,RL,↓reduceIte,Nat.reduceEqDiff,reduceCtorEq,decide_true,decide_false, he7]
          · simp -dsimp only [↓RE,RU,RL,↓reduceIte,Nat.reduceEqDiff,reduceCtorEq,decide_true,decide_false, he8]
          · rw [hse]
            simp -dsimp only [↓RE,↓c_seq,RU,RL,forall_const,implies_true,Nat.reduceLeDiff,Nat.reduceLT,pureOp,binPure,intBin,strBin,eqPure,isConstO,lenPure,buildP,resK,endV,yieldE,↓reduceIte,Nat.reduceEqDiff,reduceCtorEq,Nat.reduceAdd,Nat.reduceMul,Int.reduceLT,Int.reduceLE,Int.reduceToNat,Int.reduceAdd,Int.reduceSub,decide_true,decide_false,tf33, he7, dk0]
      · clear he4 he16 he17 he18 he5 he7 he8 he6
        rintro e3 w7 ⟨g7, ⟨⟨he4, he16, he17⟩, he18, he5, he7, he8⟩, he59⟩
        cases hsmv : sm with
        | false =>
          rw [hsmv] at he59
          repeat (first | rw [c_seq] | simp -dsimp only [↓RE,RU,RL,forall_const,implies_true,Nat.reduceLeDiff,Nat.reduceLT,pureOp,binPure,intBin,strBin,eqPure,isConstO,lenPure,buildP,resK,endV,yieldE,↓reduceIte,Nat.reduceEqDiff,reduceCtorEq,Nat.reduceAdd,Nat.reduceMul,Int.reduceLT,Int.reduceLE,Int.reduceToNat,Int.reduceAdd,Int.reduceSub,decide_true,decide_false,tf33, he59])
          refine hold_intro ⟨g7, ⟨⟨?_, ?_, ?_⟩, ?_, ?_, ?_, ?_⟩, rfl⟩
          · simp -dsimp only [↓RE,RU,RL,↓reduceIte,Nat.reduceEqDiff,reduceCtorEq,decide_true,decide_false, he4]
          · simp -dsimp only [↓RE,RU,RL,↓reduceIte,Nat.reduceEqDiff,reduceCtorEq,decide_true,decide_false, he16]
          · simp -dsimp only [↓RE,RU,RL,↓reduceIte,Nat.reduceEqDiff,reduceCtorEq,decide_true,decide_false, he17]
          · simp -dsimp only [↓RE,RU,RL,↓reduceIte,Nat.reduceEqDiff,reduceCtorEq,decide_true,decide_false, he18]
          · simp -dsimp only [↓RE,RU,RL,↓reduceIte,Nat.reduceEqDiff,reduceCtorEq,decide_true,decide_false, he5]
          · simp -dsimp only [↓RE,RU,RL,↓reduceIte,Nat.reduceEqDiff,reduceCtorEq,decide_true,decide_false, he7]
          · simp -dsimp only [↓RE,RU,RL,↓reduceIte,Nat.reduceEqDiff,reduceCtorEq,decide_true,decide_false, he8]
        | true =>
          rw [hsmv] at he59
          obtain ⟨hk0, hxy⟩ := hsm.1 hsmv
          have hsp : S.take k = S.take (k - 1) ++ [y] := by
            have := wtk_snoc (l := S) (k := k - 1) (by omega)
            rw [show k - 1 + 1 = k by omega] at this
            rw [hy]; exact this
          have hsk' : SortedC cmpB ((S.take (k - 1)).map WrV.wr ++ [y.wr]) := by
            have h1 : ((S.take k).map WrV.wr).Sublist (S.map WrV.wr) := (List.take_sublist _ _).map _
            rw [hsp, List.map_append] at h1
            exact List.Pairwise.sublist h1 hSs
          obtain ⟨H, p, hHp, hpy, hHy⟩ := pAll_sorted _ _ hsk'
          have hpx : cmpB (ptK p) x.wr = 0 := by have := cmpB_cmp.eq_r hxy (ptK p); omega
          have hHx : ∀ q ∈ H, cmpB (ptK q) x.wr < 0 := fun q hq => by
            have h1 := hHy q hq
            have := cmpB_cmp.eq_r hxy (ptK q)
            omega
          have houtk := hout
          rw [hsp, List.map_append] at houtk
          rw [show ([y] : List WrV).map WrV.wr = [y.wr] from rfl, hHp] at houtk
          obtain ⟨OH, z, hO, hOH, hz⟩ : ∃ OH z, Out = OH ++ [z] ∧ OH.map PtV.p = H ∧ z.p = p := by
            rcases List.eq_nil_or_concat Out with he | ⟨OH, z, he⟩
            · rw [he] at houtk; simp at houtk
            · rw [List.concat_eq_append] at he
              rw [he, List.map_append] at houtk
              have := List.append_inj' houtk rfl
              exact ⟨OH, z, he, this.1, by simpa using this.2⟩
          have hnx : pAll ((S.take (k + 1)).map WrV.wr) = H ++ [addP p x.wr] := by
            rw [hnext, ← hout, houtk, pIns_last hHx hpx]
          subst hO
          obtain ⟨hzo, hzk⟩ := hown z (List.mem_append_right _ List.mem_cons_self)
          have g47 := g46.trans g7
          have hv7 := hv.grow g47
          have hzo7 := hzo.grow g47
          have hol : (OH ++ [z]).length = OH.length + 1 := by simp
          rcases hv.2 with ⟨_, h0⟩ | ⟨gv, cv, cur, hvv, hbv, hnc, hcm, hcc, hct⟩
          · rw [hol] at h0; omega
          rw [hol] at hvv hnc
          subst hvv
          have hv7 : LRow w7 25 4 (.slice (some ⟨gv, 0, none⟩) (OH.length + 1) cv) (OH.length + 1) ((OH ++ [z]).flatMap PtV.cells) := by
            have := hv7
            unfold PRow at this
            rw [hol] at this
            exact this
          have hzl : ∀ q, fpA z.B q → q < w4.heap.size := fun q hq => hzo.fl.lt q ((fpV_fpA _ _ _ _).2 hq)
          have hvz : ∀ q, fpV (.slice (some ⟨gv, 0, none⟩) (OH.length + 1) cv) q → ¬ fpA z.B q := fun q hq hq2 => LRow.ne hv hzo.fl (by decide) q hq ((fpV_fpA _ _ _ _).2 hq2)
          have hwl : IntKind.i64.wrap (((OH.length + 1 : Nat) : Int) - 1) = ((OH.length : Nat) : Int) := by rw [wrap_i64_in (by omega) (by omega)]; omega
          have hz2 : ∀ w', Keep (fpA z.B) w7 w' → w'.cell? ⟨gv, OH.length * 4 + 2, none⟩ = some (.slice z.B z.k z.d) := fun w' kk => by
            have hr := LRow.rd (hv7.keep kk hvz)
            have hg : (OH ++ [z]).getD OH.length p00 = z := by rw [List.getD_eq_getElem?_getD, List.getElem?_append_right (Nat.le_refl _), Nat.sub_self]; rfl
            have := hr.pt (k := OH.length) (by omega) 2 (.slice z.B z.k z.d) (by rw [hg]; rfl)
            rwa [add_lit', Nat.zero_add, add_lit'] at this
          have hbf : Blk w7 f 98 [.string x.s.s.f, .int .i64 x.x.2.2] := hf6.grow g7
          have hfz : ¬ fpA z.B f := fun hq => by have := hzl f hq; omega
          have hzf := hzo7.fl
          have hzlen : z.p.fields.length = z.k := hzf.rd.flen
          have gd := Grow.drew w7
          repeat (first | rw [c_seq] | simp -dsimp only [↓RE,RU,RL,forall_const,implies_true,Nat.reduceLeDiff,Nat.reduceLT,pureOp,binPure,intBin,strBin,eqPure,isConstO,lenPure,buildP,resK,endV,yieldE,↓reduceIte,Nat.reduceEqDiff,reduceCtorEq,Nat.reduceAdd,Nat.reduceMul,Int.reduceLT,Int.reduceLE,Int.reduceToNat,Int.reduceAdd,Int.reduceSub,decide_true,decide_false,tf33, he5, he59, hwl, Int.toNat_natCast, add_lit', Nat.zero_add])
          refine ⟨⟨by omega, by omega⟩, ?_⟩
          repeat (first | rw [c_seq] | simp -dsimp only [↓RE,RU,RL,forall_const,implies_true,Nat.reduceLeDiff,Nat.reduceLT,pureOp,binPure,intBin,strBin,eqPure,isConstO,lenPure,buildP,resK,endV,yieldE,↓reduceIte,Nat.reduceEqDiff,reduceCtorEq,Nat.reduceAdd,Nat.reduceMul,Int.reduceLT,Int.reduceLE,Int.reduceToNat,Int.reduceAdd,Int.reduceSub,decide_true,decide_false,tf33, he5])
          refine wpDraw_fin (Keep (fpA z.B) w7 ·) [(0, true), (1, true), (2, true), (3, true), (4, true), (5, true), (6, false), (7, false), (8, true), (9, true)] 10 (by kernel_rfl) (gd.mono (fun _ _ h => h.elim)) ?_
          simp only [planL, List.getElem?_toArray, List.getElem?_cons_zero, List.getElem?_cons_succ, Option.toList_some, List.map_cons, List.map_nil, List.cons_append, List.nil_append]
          repeat (first | rw [c_seq] | simp -dsimp only [↓RE,RU,RL,forall_const,implies_true,Nat.reduceLeDiff,Nat.reduceLT,pureOp,binPure,intBin,strBin,eqPure,isConstO,lenPure,buildP,resK,endV,yieldE,↓reduceIte,Nat.reduceEqDiff,reduceCtorEq,Nat.reduceAdd,Nat.reduceMul,Int.reduceLT,Int.reduceLE,Int.reduceToNat,Int.reduceAdd,Int.reduceSub,decide_true,decide_false,tf33, he5, add_lit', Nat.zero_add])
          refine ⟨_, hz2, ?_⟩
          repeat (first | rw [c_seq] | simp -dsimp only [↓RE,RU,RL,forall_const,implies_true,Nat.reduceLeDiff,Nat.reduceLT,pureOp,binPure,intBin,strBin,eqPure,isConstO,lenPure,buildP,resK,endV,yieldE,↓reduceIte,Nat.reduceEqDiff,reduceCtorEq,Nat.reduceAdd,Nat.reduceMul,Int.reduceLT,Int.reduceLE,Int.reduceToNat,Int.reduceAdd,Int.reduceSub,decide_true,decide_false,tf33, he8, add_lit', Nat.zero_add])
          refine ⟨[.string x.s.s.f, .int .i64 x.x.2.2], rfl, fun w' kk j v hv => by rw [add_lit', Nat.zero_add, (hbf.keep kk hfz).cell]; exact hv, ?_⟩
          repeat (first | rw [c_seq] | simp -dsimp only [↓RE,RU,RL,forall_const,implies_true,Nat.reduceLeDiff,Nat.reduceLT,pureOp,binPure,intBin,strBin,eqPure,isConstO,lenPure,buildP,resK,endV,yieldE,↓reduceIte,Nat.reduceEqDiff,reduceCtorEq,Nat.reduceAdd,Nat.reduceMul,Int.reduceLT,Int.reduceLE,Int.reduceToNat,Int.reduceAdd,Int.reduceSub,decide_true,decide_false,tf33, he8, add_lit', Nat.zero_add])
          have ga := Grow.alloc w7.drew (.cells #[.string x.s.s.f, .int .i64 x.x.2.2] 98)
          have gda := gd.trans ga
          have hzf' : FRow w7 (.slice z.B z.k z.d) z.p.fields := by unfold FRow; rw [hzlen]; exact hzf
          refine ⟨gda.mono (fun _ _ h => h.elim), app_f (hzf'.grow gda) (one_frow w7.drew (fldW x.wr)) (by omega) (fun B8 d8 w8 hL8 k8 f8 => ?_)⟩
          have hl8 : (z.p.fields ++ [fldW x.wr]).length = z.k + 1 := by rw [List.length_append, hzlen]; rfl
          rw [hl8, hzlen] at hL8
          rw [hzlen] at f8
          rw [hzlen]
          have k8' : Keep (fpA z.B) (w7.drew.alloc (.cells #[.string x.s.s.f, .int .i64 x.x.2.2] 98)) w8 := k8.mono (fun q _ hq => (fpV_fpA _ _ _ _).1 hq)
          have k78 : Keep (fpA z.B) w7 w8 := gda.then k8'
          obtain ⟨z', hz'⟩ : ∃ z' : PtV, z' = ⟨addP z.p x.wr, z.A, z.n, z.c, B8, z.k + 1, d8⟩ := ⟨_, rfl⟩
          have hv8 := hv7.keep k78 hvz
          have hgz : (OH ++ [z])[OH.length]? = some z := by rw [List.getElem?_append_right (Nat.le_refl _), Nat.sub_self]; rfl
          have hst := fun (K : WK) (tk : Tok K) hK => LRow.stCell (f := PtV.cells) (size := 4) (fun _ => rfl) hv8 hol (k := OH.length) (by omega) (x := z) (x' := z') hgz (o := 2) (by omega) (u := .slice B8 (z.k + 1) d8) (by rw [hz']; rfl) (K := K) (tk := tk) hK
          rw [add_lit', Nat.zero_add, add_lit'] at hst
          refine ⟨k78, ?_⟩
          repeat (first | rw [c_seq] | simp -dsimp only [↓RE,RU,RL,forall_const,implies_true,Nat.reduceLeDiff,Nat.reduceLT,pureOp,binPure,intBin,strBin,eqPure,isConstO,lenPure,buildP,resK,endV,yieldE,↓reduceIte,Nat.reduceEqDiff,reduceCtorEq,Nat.reduceAdd,Nat.reduceMul,Int.reduceLT,Int.reduceLE,Int.reduceToNat,Int.reduceAdd,Int.reduceSub,decide_true,decide_false,tf33, he5, add_lit', Nat.zero_add])
          refine hst _ _ (fun w9 hr9 k9 => ?_)
          have hset : (OH ++ [z]).set OH.length z' = OH ++ [z'] := by rw [List.set_append_right _ _ (Nat.le_refl _), Nat.sub_self]; rfl
          rw [hset] at hr9
          have hsz7 := g47.size
          have hsz4 := g4.size
          have hB8 : ∀ q, fpA B8 q → fpA z.B q ∨ w4.heap.size ≤ q := fun q hq => by
            rcases f8 q ((fpV_fpA _ _ _ _).2 hq) with e | e
            · exact .inl ((fpV_fpA _ _ _ _).1 e)
            · have := gda.size
              exact .inr (by omega)
          have hzB3 := hFB z (List.mem_append_right _ List.mem_cons_self)
          have g9 : Grow w3 w9 := by
            have h1 : Grow w3 w8 := (g4.trans g47).above k78 (fun q hq e => by have := hzB3 q e; omega)
            exact h1.above k9 (fun q hq e => by have e : q = gv := e; have := hF gv ((fpV_some _ _ _ _).2 rfl); omega)
          have hapz := List.pairwise_append.1 hap
          have hkeep9 : ∀ u, PtOwn w8 u → PtOwn w9 u := fun u hu => hu.keep k9 (fun q hq e => by
            have := LRow.ne hu.tg hv8 (by decide) q hq
            rw [fpV_some] at this
            exact this e) (fun q hq e => by
            have := LRow.ne hu.fl hv8 (by decide) q hq
            rw [fpV_some] at this
            exact this e)
          have hown9 : ∀ u ∈ OH, PtOwn w9 u := fun u hu => by
            have h7 := (hown u (List.mem_append_left _ hu)).1.grow g47
            refine hkeep9 u (h7.keep k78 (fun q hq e => LRow.ne h7.tg hzf (by decide) q hq ((fpV_fpA _ _ _ _).2 e)) (fun q hq e => hapz.2.2 u hu z List.mem_cons_self q ((fpV_fpA _ _ _ _).1 hq) e))
          have hz9 : PtOwn w9 z' := by
            refine hkeep9 z' ?_
            rw [hz']
            exact ⟨hzo7.tg.keep k78 (fun q hq e => LRow.ne hzo7.tg hzf (by decide) q hq ((fpV_fpA _ _ _ _).2 e)), hL8, hzo.hn⟩
          have hol' : (OH ++ [z']).length = OH.length + 1 := by simp
          repeat (first | rw [c_seq] | simp -dsimp only [↓RE,RU,RL,forall_const,implies_true,Nat.reduceLeDiff,Nat.reduceLT,pureOp,binPure,intBin,strBin,eqPure,isConstO,lenPure,buildP,resK,endV,yieldE,↓reduceIte,Nat.reduceEqDiff,reduceCtorEq,Nat.reduceAdd,Nat.reduceMul,Int.reduceLT,Int.reduceLE,Int.reduceToNat,Int.reduceAdd,Int.reduceSub,decide_true,decide_false,tf33, he18, hw1])
          refine hold_intro ⟨⟨g9, ⟨?_, ?_, ?_⟩, k + 1, OH ++ [z'], .slice (some ⟨gv, 0, none⟩) (OH.length + 1) cv, hlt, ?_, ?_, ?_, ?_, fun u hu => ?_, ?_, hF, fun u hu => ?_, ?_⟩, ?_⟩
          · simp -dsimp only [↓RE,RU,RL,↓reduceIte,Nat.reduceEqDiff,reduceCtorEq,decide_true,decide_false, he4]
          · simp -dsimp only [↓RE,RU,RL,↓reduceIte,Nat.reduceEqDiff,reduceCtorEq,decide_true,decide_false, he16]
          · simp -dsimp only [↓RE,RU,RL,↓reduceIte,Nat.reduceEqDiff,reduceCtorEq,decide_true,decide_false, he17]
          · simp -dsimp only [↓RE,RU,RL,↓reduceIte,Nat.reduceEqDiff,reduceCtorEq,decide_true,decide_false, hw1]
          · simp -dsimp only [↓RE,RU,RL,↓reduceIte,Nat.reduceEqDiff,reduceCtorEq,decide_true,decide_false, he5]
          · rw [List.map_append, hOH, hnx, ← hz, hz']; rfl
          · unfold PRow; rw [hol']; exact hr9
          · rcases List.mem_append.1 hu with hu | hu
            · exact ⟨hown9 u hu, by have := (hown u (List.mem_append_left _ hu)).2; omega⟩
            · rw [List.mem_singleton.1 hu]; exact ⟨hz9, by rw [hz']; show z.k + 1 ≤ _; omega⟩
          · refine List.pairwise_append.2 ⟨hapz.1, List.pairwise_singleton _ _, fun u hu t ht q hq hq2 => ?_⟩
            rw [List.mem_singleton.1 ht, hz'] at hq2
            rcases hB8 q hq2 with e | e
            · exact hapz.2.2 u hu z List.mem_cons_self q hq e
            · have := (hown u (List.mem_append_left _ hu)).1.fl.lt q ((fpV_fpA _ _ _ _).2 hq)
              omega
          · rcases List.mem_append.1 hu with hu | hu
            · exact hFB u (List.mem_append_left _ hu)
            · rw [List.mem_singleton.1 hu, hz']
              intro q hq
              rcases hB8 q hq with e | e
              · exact hzB3 q e
              · omega
          · rw [hol'] ; rw [hol] at holn; omega
          · rw [hmu]
            simp -dsimp only [↓RE,↓c_seq,RU,RL,forall_const,implies_true,Nat.reduceLeDiff,Nat.reduceLT,pureOp,binPure,intBin,strBin,eqPure,isConstO,lenPure,buildP,resK,endV,yieldE,↓reduceIte,Nat.reduceEqDiff,reduceCtorEq,Nat.reduceAdd,Nat.reduceMul,Int.reduceLT,Int.reduceLE,Int.reduceToNat,Int.reduceAdd,Int.reduceSub,decide_true,decide_false,tf33, hw1]
            simp only [envInt_int]; omega
    · clear he4 he16 he17 he18 he5 he7 he8 he6
      rintro e3 w7 ⟨g7, ⟨⟨he4, he16, he17⟩, he18, he5, he7, he8⟩, hsmf⟩
      have hnot : ¬ (0 < k ∧ cmpB x.wr y.wr = 0) := fun hq => by rw [hsm.2 hq] at hsmf; cases hsmf
      have hnx : pAll ((S.take (k + 1)).map WrV.wr) = pAll ((S.take k).map WrV.wr) ++ [mkP x.wr] := by
        rw [hnext]
        by_cases hk0 : 0 < k
        · have hsp : S.take k = S.take (k - 1) ++ [y] := by
            have := wtk_snoc (l := S) (k := k - 1) (by omega)
            rw [show k - 1 + 1 = k by omega] at this
            rw [hy]; exact this
          have hsk' : SortedC cmpB ((S.take (k - 1)).map WrV.wr ++ [y.wr]) := by
            have h1 : ((S.take k).map WrV.wr).Sublist (S.map WrV.wr) := (List.take_sublist _ _).map _
            rw [hsp, List.map_append] at h1
            exact List.Pairwise.sublist h1 hSs
          have hyx : cmpB y.wr x.wr ≤ 0 := by
            rw [hsn, hsp, List.map_append, List.map_append] at hso
            exact (sorted_app.1 hso).2.2 y.wr (by simp) x.wr (by simp)
          have hlt0 : cmpB y.wr x.wr < 0 := by
            have h1 : cmpB x.wr y.wr ≠ 0 := fun hq => hnot ⟨hk0, hq⟩
            have := cmpB_cmp.neg y.wr x.wr
            omega
          obtain ⟨H, p, hHp, hpy, hHy⟩ := pAll_sorted _ _ hsk'
          rw [hsp, List.map_append, show ([y] : List WrV).map WrV.wr = [y.wr] from rfl, hHp]
          refine pIns_end (fun q hq => ?_)
          rcases List.mem_append.1 hq with hq | hq
          · exact cmpB_cmp.lt_le (hHy q hq) hyx
          · rw [List.mem_singleton.1 hq]
            have h3 := cmpB_cmp.eq_r hpy x.wr
            have n1 := cmpB_cmp.neg x.wr (ptK p)
            have n2 := cmpB_cmp.neg x.wr y.wr
            omega
        · have : k = 0 := by omega
          subst this
          rfl
      have hb7 := hb6.grow g7
      have hbf : Blk w7 f 98 [.string x.s.s.f, .int .i64 x.x.2.2] := hf6.grow g7
      have b0 : w7.cell? ⟨b, 0, none⟩ = some (.string x.s.s.m) := (hb7.cell 0).trans rfl
      have b1 : w7.cell? ⟨b, 1, none⟩ = some (.slice x.s.A x.s.n x.s.c) := (hb7.cell 1).trans rfl
      repeat (first | rw [c_seq] | simp -dsimp only [↓RE,RU,RL,forall_const,implies_true,Nat.reduceLeDiff,Nat.reduceLT,pureOp,binPure,intBin,strBin,eqPure,isConstO,lenPure,buildP,resK,endV,yieldE,↓reduceIte,Nat.reduceEqDiff,reduceCtorEq,Nat.reduceAdd,Nat.reduceMul,Int.reduceLT,Int.reduceLE,Int.reduceToNat,Int.reduceAdd,Int.reduceSub,decide_true,decide_false,tf33, he5, he7, he8, b0, b1, add_lit', Nat.zero_add])
      refine hbf.aggK (cs := [.string x.s.s.f, .int .i64 x.x.2.2]) (by simp) ?_
      have hdt : List.take 2 (List.drop 0 [Value.string x.s.s.f, .int .i64 x.x.2.2]) = [.string x.s.s.f, .int .i64 x.x.2.2] := rfl
      repeat (first | rw [c_seq] | simp -dsimp only [↓RE,RU,RL,forall_const,implies_true,Nat.reduceLeDiff,Nat.reduceLT,pureOp,binPure,intBin,strBin,eqPure,isConstO,lenPure,buildP,resK,endV,yieldE,↓reduceIte,Nat.reduceEqDiff,reduceCtorEq,Nat.reduceAdd,Nat.reduceMul,Int.reduceLT,Int.reduceLE,Int.reduceToNat,Int.reduceAdd,Int.reduceSub,decide_true,decide_false,tf33, he7, hdt, add_lit', Nat.zero_add])
      have ga := Grow.alloc w7 (.cells #[.string x.s.s.f, .int .i64 x.x.2.2] 98)
      have hfr : LRow (w7.alloc (.cells #[.string x.s.s.f, .int .i64 x.x.2.2] 98)) 98 2 (.slice (some ⟨w7.heap.size, 0, none⟩) 1 1) 1 [.string x.s.s.f, .int .i64 x.x.2.2] := LRow.of_own (own_new w7 98 2 1 #[.string x.s.s.f, .int .i64 x.x.2.2] rfl (by simp [maxLen]))
      have b3 : (w7.alloc (.cells #[.string x.s.s.f, .int .i64 x.x.2.2] 98)).cell? ⟨b, 3, none⟩ = some (.int .i64 x.x.1) := ((hb7.grow ga).cell 3).trans rfl
      obtain ⟨z, hz⟩ : ∃ z : PtV, z = ⟨mkP x.wr, x.s.A, x.s.n, x.s.c, some ⟨w7.heap.size, 0, none⟩, 1, 1⟩ := ⟨_, rfl⟩
      repeat (first | rw [c_seq] | simp -dsimp only [↓RE,RU,RL,forall_const,implies_true,Nat.reduceLeDiff,Nat.reduceLT,pureOp,binPure,intBin,strBin,eqPure,isConstO,lenPure,buildP,resK,endV,yieldE,↓reduceIte,Nat.reduceEqDiff,reduceCtorEq,Nat.reduceAdd,Nat.reduceMul,Int.reduceLT,Int.reduceLE,Int.reduceToNat,Int.reduceAdd,Int.reduceSub,decide_true,decide_false,tf33, he5, he7, b3, add_lit', Nat.zero_add])
      have hrow := one_ptrow (w7.alloc (.cells #[.string x.s.s.f, .int .i64 x.x.2.2] 98)) z
      have gz := Grow.alloc (w7.alloc (.cells #[.string x.s.s.f, .int .i64 x.x.2.2] 98)) (.cells z.cells.toArray 25)
      rw [hz] at hrow gz
      have g47 := g46.trans g7
      have gaz := ga.trans gz
      have hva := (hv.grow g47).grow gaz
      refine app_p hva hrow (by omega) (fun A8 c8 w8 hL8 k8 f8 => ?_)
      rw [← hz] at hL8
      have hs7 := g47.size
      have hs4 := g4.size
      have hsa := gaz.size
      have g8 : Grow w3 w8 := ((g4.trans g47).trans gaz).above k8 (fun q hq e => by have := hF q e; omega)
      have hkeep : ∀ u, PtOwn (w7.alloc (.cells #[.string x.s.s.f, .int .i64 x.x.2.2] 98)) u → PtOwn w8 u := fun u hu => by
        have h1 := hu.grow gz
        exact h1.keep k8 (LRow.ne h1.tg hva (by decide)) (LRow.ne h1.fl hva (by decide))
      have hz8 : PtOwn w8 z := by
        refine hkeep z ?_
        rw [hz]
        exact ⟨(LRow.grow hxt ((g4.trans g47).trans ga)), hfr, hxo.1.2⟩
      have hol' : (Out ++ [z]).length = Out.length + 1 := by simp
      repeat (first | rw [c_seq] | simp -dsimp only [↓RE,RU,RL,forall_const,implies_true,Nat.reduceLeDiff,Nat.reduceLT,pureOp,binPure,intBin,strBin,eqPure,isConstO,lenPure,buildP,resK,endV,yieldE,↓reduceIte,Nat.reduceEqDiff,reduceCtorEq,Nat.reduceAdd,Nat.reduceMul,Int.reduceLT,Int.reduceLE,Int.reduceToNat,Int.reduceAdd,Int.reduceSub,decide_true,decide_false,tf33, he18, hw1])
      refine hold_intro ⟨⟨g8, ⟨?_, ?_, ?_⟩, k + 1, Out ++ [z], .slice A8 (Out.length + 1) c8, hlt, ?_, ?_, ?_, ?_, fun u hu => ?_, ?_, fun q hq => ?_, fun u hu => ?_, ?_⟩, ?_⟩
      · simp -dsimp only [↓RE,RU,RL,↓reduceIte,Nat.reduceEqDiff,reduceCtorEq,decide_true,decide_false, he4]
      · simp -dsimp only [↓RE,RU,RL,↓reduceIte,Nat.reduceEqDiff,reduceCtorEq,decide_true,decide_false, he16]
      · simp -dsimp only [↓RE,RU,RL,↓reduceIte,Nat.reduceEqDiff,reduceCtorEq,decide_true,decide_false, he17]
      · simp -dsimp only [↓RE,RU,RL,↓reduceIte,Nat.reduceEqDiff,reduceCtorEq,decide_true,decide_false, hw1]
      · simp -dsimp only [↓RE,RU,RL,↓reduceIte,Nat.reduceEqDiff,reduceCtorEq,decide_true,decide_false, he5]
      · rw [List.map_append, hout, hnx, hz]; rfl
      · exact hL8
      · rcases List.mem_append.1 hu with hu | hu
        · exact ⟨hkeep u (((hown u hu).1.grow g47).grow ga), by have := (hown u hu).2; omega⟩
        · rw [List.mem_singleton.1 hu]; exact ⟨hz8, by rw [hz]; show 1 ≤ _; omega⟩
      · refine List.pairwise_append.2 ⟨hap, List.pairwise_singleton _ _, fun u hu t ht q hq hq2 => ?_⟩
        rw [List.mem_singleton.1 ht, hz] at hq2
        obtain ⟨ad2, e1, e2⟩ := hq2
        injection e1 with e1
        subst e1
        have := (hown u hu).1.fl.lt q ((fpV_fpA _ _ _ _).2 hq)
        have e2 : q = w7.heap.size := e2
        omega
      · rcases f8 q hq with e | e
        · exact hF q e
        · omega
      · rcases List.mem_append.1 hu with hu | hu
        · exact hFB u hu
        · rw [List.mem_singleton.1 hu, hz]
          rintro q ⟨ad2, e1, e2⟩
          injection e1 with e1
          subst e1
          have e2 : q = w7.heap.size := e2
          omega
      · rw [hol']; omega
      · rw [hmu]
        simp -dsimp only [↓RE,↓c_seq,RU,RL,forall_const,implies_true,Nat.reduceLeDiff,Nat.reduceLT,pureOp,binPure,intBin,strBin,eqPure,isConstO,lenPure,buildP,resK,endV,yieldE,↓reduceIte,Nat.reduceEqDiff,reduceCtorEq,Nat.reduceAdd,Nat.reduceMul,Int.reduceLT,Int.reduceLE,Int.reduceToNat,Int.reduceAdd,Int.reduceSub,decide_true,decide_false,tf33, hw1]
        simp only [envInt_int]; omega
  · have hdk : decide ((k : Int) < (m : Int)) = false := decide_eq_false (by omega)
    rw [List.take_of_length_le (by omega)] at hout
    repeat (first | rw [c_seq] | simp -dsimp only [↓RE,RU,RL,forall_const,implies_true,Nat.reduceLeDiff,Nat.reduceLT,pureOp,binPure,intBin,strBin,eqPure,isConstO,lenPure,buildP,resK,endV,yieldE,↓reduceIte,Nat.reduceEqDiff,reduceCtorEq,Nat.reduceAdd,Nat.reduceMul,Int.reduceLT,Int.reduceLE,Int.reduceToNat,Int.reduceAdd,Int.reduceSub,decide_true,decide_false,tf33, he5, he17, he18, hdk])
    exact h w4 v Out ⟨hout, hv, fun x hx => (hown x hx).1, hF⟩ g4

end Go.Proofs.YtljgnocpijniiaaGreatDoor
