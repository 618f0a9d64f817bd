/- writes in memory of their own, a marked one behind them (writes, kept). -/
import Derived.Test.YtljgnocpijniiaaGreatDoorOrdQ
set_option linter.unusedVariables false
set_option linter.unusedSimpArgs false
set_option maxRecDepth 100000
namespace Go.Proofs.YtljgnocpijniiaaGreatDoor
open Go

def sMark : ByteArray := ⟨#[109, 97, 114, 107]⟩
def wMark : WrV := ⟨⟨⟨sMark, [], .empty⟩, none, 0, 0⟩, (0, 0, 0)⟩
theorem flat_pre_len (D : List WrV) : (D.flatMap WrV.cells).length = D.length * 6 := flat_len WrV.cells (size := 6) _ (fun a _ => wcells_len a)
/-- writes in memory of their own, the mark behind them. -/
structure WMark (w : World) (A : Option Addr) (n c : Nat) (D : List WrV) : Prop where
  len : D.length = n
  row : LRow w 60 6 (.slice A (n + 1) c) (n + 1) ((D ++ [wMark]).flatMap WrV.cells)
  ok : ∀ x ∈ D, x.Ok w
theorem WMark.grow {w w' : World} {A : Option Addr} {n c : Nat} {D : List WrV} (h : WMark w A n c D) (g : Grow w w') : WMark w' A n c D := ⟨h.len, h.row.grow g, fun x hx => (h.ok x hx).grow g⟩
theorem Rd.pre {w : World} {A : Option Addr} {n m size : Nat} {xs ys : List Value} (h : Rd w A (n + m) size (xs ++ ys)) (hl : xs.length = n * size) : Rd w A n size xs := by
  refine ⟨hl, fun hn => ?_⟩
  obtain ⟨ad, e, hc⟩ := h.2 (by omega)
  refine ⟨ad, e, fun j u hj => hc j u ?_⟩
  rw [List.getElem?_append_left (List.getElem?_eq_some_iff.1 hj).1]
  exact hj
theorem WMark.rd {w : World} {A : Option Addr} {n c : Nat} {D : List WrV} (h : WMark w A n c D) : RdW w A n D := by
  have := h.row.rd
  rw [List.flatMap_append] at this
  exact this.pre (by rw [flat_pre_len, h.len])
set_option maxHeartbeats 4000000 in
theorem writes_ok {w : World} {A : Option Addr} {n c : Nat} {X : List WrV} (hX : RdW w A n X) (hoX : ∀ x ∈ X, x.Ok w) (hn : n ≤ 100000000) {R : VWK}
    (h : ∀ w' A' c' D, WMark w' A' n c' D → D.map WrV.wr = X.map WrV.wr → Grow w w' → R (.slice A' n c') w') : CallsV Tryz.prog 24 [.slice A n c] w R := by
  have hXl := hX.wlen
  refine calls_of_wpC mixed Tryz.func24 rfl (by kernel_rfl) ?_
  intro e he
  have he0 := he 0
  simp only [List.getD_cons_zero, List.getD_cons_succ] at he0
  clear he
  repeat (first | rw [c_seq] | simp -dsimp only [↓RE,RU,RL,Nat.reduceLeDiff,Nat.reduceLT,pureOp,binPure,intBin,strBin,sliceLo,sliceHi,slicePure,lenPure,buildP,resK,endV,↓reduceIte,Nat.reduceEqDiff,reduceCtorEq,Nat.reduceAdd,Nat.reduceMul,Nat.reduceSub,Int.reduceLT,Int.reduceLE,Int.reduceToNat,Int.reduceAdd,decide_true,decide_false,tf24, he0])
  refine wpLoop_intro (fun e' w' => Grow w w' ∧ e' 0 = .slice A n c ∧ ∃ (k : Nat) (Out : List WrV) (v : Value), k ≤ n ∧ e' 4 = .int .i64 (k : Int) ∧ e' 3 = v ∧ Out.map WrV.wr = (X.take k).map WrV.wr ∧ LRow w' 60 6 v Out.length (Out.flatMap WrV.cells) ∧ (∀ x ∈ Out, x.Ok w' ∧ TRow w' x) ∧ (∀ q, fpV v q → w.heap.size ≤ q))
    (fun e' _ => n - (envInt (e' 4)).toNat) ⟨Keep.refl _ _, ?_, 0, [], .slice none 0 0, Nat.zero_le _, ?_, ?_, rfl, LRow.nil _ _ _, (fun x hx => by cases hx), fun q hq => (fpV_none _ hq).elim⟩ ?_
  · simp -dsimp only [↓RE,RU,RL,↓reduceIte,Nat.reduceEqDiff,reduceCtorEq,decide_true,decide_false, he0]
  · simp -dsimp only [↓RE,RU,RL,↓reduceIte,Nat.reduceEqDiff,reduceCtorEq,decide_true,decide_false, he0]
    rfl
  · simp -dsimp only [↓RE,RU,RL,↓reduceIte,Nat.reduceEqDiff,reduceCtorEq,decide_true,decide_false, he0]
  clear he0 e
  rintro e w1 ⟨g1, he0, k, Out, v, hk, he4, he3, hout, hv, hok, hF⟩
  have hol : Out.length = k := by have := congrArg List.length hout; rw [List.length_map, List.length_map, List.length_take] at this; omega
  rcases Nat.lt_or_ge k n with hlt | hge
  · have hdk : decide ((k : Int) < (n : Int)) = true := decide_eq_true (by omega)
    have hw1 : IntKind.i64.wrap ((k : Int) + 1) = ((k + 1 : Nat) : Int) := by rw [wrap_i64_in (by omega) (by omega)]; omega
    obtain ⟨ad, rfl⟩ : ∃ ad, A = some ad := by
      obtain ⟨ad, e, _⟩ := hX.2 (by omega)
      exact ⟨ad, e⟩
    have hcs : ∀ w', Grow w w' → ∀ j u, (X.getD k w00).cells[j]? = some u → w'.cell? ((ad.add (k * 6)).add j) = some u := fun w' g => (Rd.grow hX g).wrc hlt
    have hxm : X.getD k w00 ∈ X := getD_mem (by omega)
    have hox := hoX _ hxm
    have hmu : (envInt (e 4)).toNat = k := by rw [he4]; exact Int.toNat_natCast k
    have hsn : X.take (k + 1) = X.take k ++ [X.getD k w00] := by
      rw [List.take_succ_eq_append_getElem (by omega), List.getD_eq_getElem?_getD, List.getElem?_eq_getElem (by omega)]; rfl
    generalize X.getD k w00 = x at hcs hox hsn hxm
    have up : ∀ {w'}, Keep (fpV v) w1 w' → Grow w w' := fun k => g1.above k (fun q hq e => by have := hF q e; omega)
    have hS : ∀ w', Keep (fpV v) w1 w' → ∀ j u, x.s.cells[j]? = some u → w'.cell? ((ad.add (k * 6)).add j) = some u := fun w' g j u hu => hcs w' (up g) j u (x.head hu)
    have hP : ∀ w', Keep (fpV v) w1 w' → ∀ j u, (scells x.x)[j]? = some u → w'.cell? (((ad.add (k * 6)).add 3).add j) = some u := fun w' g j u hu => by
      rw [add_add']
      refine hcs w' (up g) (3 + j) u ?_
      rw [Nat.add_comm]
      exact hu
    repeat (first | rw [c_seq] | simp -dsimp only [↓RE,RU,RL,Nat.reduceLeDiff,Nat.reduceLT,pureOp,binPure,intBin,strBin,sliceLo,sliceHi,slicePure,lenPure,buildP,resK,endV,↓reduceIte,Nat.reduceEqDiff,reduceCtorEq,Nat.reduceAdd,Nat.reduceMul,Nat.reduceSub,Int.reduceLT,Int.reduceLE,Int.reduceToNat,Int.reduceAdd,decide_true,decide_false,tf24, he0, he4, hdk])
    refine wpDraw_by (Keep (fpV v) w1 ·) [(0, true), (1, true), (2, true), (3, true), (4, true), (5, true), (7, true), (8, true), (9, true), (10, true), (11, true), (6, false), (12, true), (13, false), (14, false), (15, true)] (by kernel_rfl) ((Grow.drew w1).mono (fun _ _ h => h.elim)) ?_
    simp only [planL, List.getElem?_toArray, List.getElem?_cons_zero, List.getElem?_cons_succ, Option.toList_some, List.map_cons, List.map_nil, List.cons_append, List.nil_append]
    repeat (first | rw [c_seq] | simp -dsimp only [↓RE,RU,RL,Nat.reduceLeDiff,Nat.reduceLT,pureOp,binPure,intBin,strBin,sliceLo,sliceHi,slicePure,lenPure,buildP,resK,endV,↓reduceIte,Nat.reduceEqDiff,reduceCtorEq,Nat.reduceAdd,Nat.reduceMul,Nat.reduceSub,Int.reduceLT,Int.reduceLE,Int.reduceToNat,Int.reduceAdd,decide_true,decide_false,tf24, he0, he3, he4, Int.toNat_natCast, add_zero'])
    refine ⟨⟨by omega, by omega⟩, x.s.cells, rfl, hS, ?_⟩
    repeat (first | rw [c_seq] | simp -dsimp only [↓RE,RU,RL,Nat.reduceLeDiff,Nat.reduceLT,pureOp,binPure,intBin,strBin,sliceLo,sliceHi,slicePure,lenPure,buildP,resK,endV,↓reduceIte,Nat.reduceEqDiff,reduceCtorEq,Nat.reduceAdd,Nat.reduceMul,Nat.reduceSub,Int.reduceLT,Int.reduceLE,Int.reduceToNat,Int.reduceAdd,decide_true,decide_false,tf24, he0, he3, he4, Int.toNat_natCast])
    refine ⟨⟨by omega, by omega⟩, scells x.x, rfl, hP, ?_⟩
    repeat (first | rw [c_seq] | simp -dsimp only [↓RE,RU,RL,Nat.reduceLeDiff,Nat.reduceLT,pureOp,binPure,intBin,strBin,sliceLo,sliceHi,slicePure,lenPure,buildP,resK,endV,↓reduceIte,Nat.reduceEqDiff,reduceCtorEq,Nat.reduceAdd,Nat.reduceMul,Nat.reduceSub,Int.reduceLT,Int.reduceLE,Int.reduceToNat,Int.reduceAdd,decide_true,decide_false,tf24, he0, he3, he4, Int.toNat_natCast])
    refine copyser_ok (hox.1.grow (g1.trans (Grow.drew w1))) (fun w2 A2 c2 hr2 g2 hF2 => ?_)
    have g12 := (Grow.drew w1).trans g2
    refine ⟨g12.mono (fun _ _ h => h.elim), ?_⟩
    obtain ⟨y, hy⟩ : ∃ y : WrV, y = ⟨⟨x.s.s, A2, x.s.n, c2⟩, x.x⟩ := ⟨_, rfl⟩
    have hsl : (scells x.x).length = 3 := rfl
    have h36 : (3 = 3 ∧ 3 + 3 ≤ 6) := ⟨rfl, by decide⟩
    have hfill : putAt #[.string x.s.s.m, .slice A2 x.s.n c2, .string x.s.s.f, .int .i64 0, .int .u8 0, .int .i64 0] 3 (scells x.x) = y.cells.toArray := by rw [hy]; rfl
    have hyl : y.cells.length = 6 := rfl
    have h66 : (6 = 6 ∧ 6 ≤ 6) := ⟨rfl, Nat.le_refl _⟩
    have hfill2 : putAt #[.string .empty, .slice none 0 0, .string .empty, .int .i64 0, .int .u8 0, .int .i64 0] 0 y.cells = y.cells.toArray := rfl
    repeat (first | rw [c_seq] | simp -dsimp only [↓RE,RU,RL,Nat.reduceLeDiff,Nat.reduceLT,pureOp,binPure,intBin,strBin,sliceLo,sliceHi,slicePure,lenPure,buildP,resK,endV,↓reduceIte,Nat.reduceEqDiff,reduceCtorEq,Nat.reduceAdd,Nat.reduceMul,Nat.reduceSub,Int.reduceLT,Int.reduceLE,Int.reduceToNat,Int.reduceAdd,decide_true,decide_false,tf24, he3, hsl, h36, hfill, hyl, h66, hfill2, and_self, Nat.le_refl])
    have ga := Grow.alloc w2 (.cells y.cells.toArray 60)
    have gda := g12.trans ga
    have hva := hv.grow gda
    refine ⟨gda.mono (fun _ _ h => h.elim), app_w hva (one_row w2 y) (by omega) (fun A' c' w7 hL7 k7 f7 => ?_)⟩
    have g57 : Keep (fpV v) w1 w7 := gda.then k7
    have hs7 := g1.size
    have hsa := ga.size
    have g7 : Grow w w7 := up g57
    have hyw : y.wr = x.wr := by rw [hy]; rfl
    have hne2 : ∀ {z : WrV} {w' : World}, TRow w' z → LRow w' 60 6 v Out.length (Out.flatMap WrV.cells) → ∀ q, fpA z.s.A q → ¬ fpV v q := fun ht hv q hq hq2 => LRow.ne ht hv (by decide) q ((fpV_fpA _ _ _ _).2 hq) hq2
    have hty0 : TRow (w2.alloc (.cells y.cells.toArray 60)) y := by
      rw [hy] at ga ⊢
      exact hr2.grow ga
    have hty : TRow w7 y := TRow.keep hty0 k7 (hne2 hty0 hva)
    have hyo : y.Ok w7 := by
      refine ⟨⟨?_, ?_⟩, ?_⟩
      · exact LRow.rd hty
      · rw [hy]; exact hox.1.2
      · rw [hy]; exact hox.2
    have hoks : ∀ z ∈ Out ++ [y], z.Ok w7 ∧ TRow w7 z := fun z hz => by
      rcases List.mem_append.1 hz with hz | hz
      · have ht := LRow.grow (hok z hz).2 gda
        exact ⟨((hok z hz).1.grow gda).keep0 k7 (fun _ => hne2 ht hva), TRow.keep ht k7 (hne2 ht hva)⟩
      · rw [List.mem_singleton.1 hz]; exact ⟨hyo, hty⟩
    refine ⟨g57, ?_⟩
    repeat (first | rw [c_seq] | simp -dsimp only [↓RE,RU,RL,Nat.reduceLeDiff,Nat.reduceLT,pureOp,binPure,intBin,strBin,sliceLo,sliceHi,slicePure,lenPure,buildP,resK,endV,↓reduceIte,Nat.reduceEqDiff,reduceCtorEq,Nat.reduceAdd,Nat.reduceMul,Nat.reduceSub,Int.reduceLT,Int.reduceLE,Int.reduceToNat,Int.reduceAdd,decide_true,decide_false,tf24, he4, hw1])
    refine hold_intro ⟨⟨g7, ?_, k + 1, Out ++ [y], .slice A' (Out.length + 1) c', hlt, ?_, ?_, by rw [List.map_append, hout, hsn, List.map_append]; exact congrArg _ (congrArg (· :: []) hyw), hL7, hoks, fun q hq => ?_⟩, ?_⟩
    · simp -dsimp only [↓RE,RU,RL,↓reduceIte,Nat.reduceEqDiff,reduceCtorEq,decide_true,decide_false, he0]
    · simp -dsimp only [↓RE,RU,RL,↓reduceIte,Nat.reduceEqDiff,reduceCtorEq,decide_true,decide_false, hw1]
    · simp -dsimp only [↓RE,RU,RL,↓reduceIte,Nat.reduceEqDiff,reduceCtorEq,decide_true,decide_false, he3]
    · rcases f7 q hq with e | e
      · exact hF q e
      · have := g12.size
        have : w2.heap.size = w2.heap.size := rfl
        omega
    · rw [hmu]
      simp -dsimp only [↓RE,↓c_seq,RU,RL,Nat.reduceLeDiff,Nat.reduceLT,pureOp,binPure,intBin,strBin,sliceLo,sliceHi,slicePure,lenPure,buildP,resK,endV,↓reduceIte,Nat.reduceEqDiff,reduceCtorEq,Nat.reduceAdd,Nat.reduceMul,Nat.reduceSub,Int.reduceLT,Int.reduceLE,Int.reduceToNat,Int.reduceAdd,decide_true,decide_false,tf24, hw1]
      simp only [envInt_int]; omega
  · have hdk : decide ((k : Int) < (n : Int)) = false := decide_eq_false (by omega)
    rw [List.take_of_length_le (by omega)] at hout
    repeat (first | rw [c_seq] | simp -dsimp only [↓RE,RU,RL,Nat.reduceLeDiff,Nat.reduceLT,pureOp,binPure,intBin,strBin,sliceLo,sliceHi,slicePure,lenPure,buildP,resK,endV,↓reduceIte,Nat.reduceEqDiff,reduceCtorEq,Nat.reduceAdd,Nat.reduceMul,Nat.reduceSub,Int.reduceLT,Int.reduceLE,Int.reduceToNat,Int.reduceAdd,decide_true,decide_false,tf24, he0, he3, he4, hdk])
    have hm0 : wMark.cells = [.string sMark, .slice none 0 0, .string .empty, .int .i64 0, .int .u8 0, .int .i64 0] := rfl
    have ga := Grow.alloc w1 (.cells wMark.cells.toArray 60)
    have hva := hv.grow ga
    refine app_w hva (one_row w1 wMark) (by omega) (fun A' c' w7 hL7 k7 f7 => ?_)
    have g7 : Grow w w7 := (g1.trans ga).above k7 (fun q hq e => by have := hF q e; omega)
    have hne2 : ∀ {z : WrV} {w' : World}, TRow w' z → LRow w' 60 6 v Out.length (Out.flatMap WrV.cells) → ∀ q, fpA z.s.A q → ¬ fpV v q := fun ht hv q hq hq2 => LRow.ne ht hv (by decide) q ((fpV_fpA _ _ _ _).2 hq) hq2
    obtain ⟨A9, c9, e9, hc9, _⟩ := hL7.form
    have hl9 : (Out ++ [wMark]).length = n + 1 := by rw [List.length_append, hol]; simp; omega
    rw [hl9] at hL7 hc9
    have hkn : k = n := by omega
    have e9' := e9
    injection e9' with _ _ hcc
    have hlo : Out.length + 1 = n + 1 := by omega
    rw [hlo] at hL7 ⊢
    rw [← hcc] at hc9
    repeat (first | rw [c_seq] | simp -dsimp only [↓RE,RU,RL,Nat.reduceLeDiff,Nat.reduceLT,pureOp,binPure,intBin,strBin,sliceLo,sliceHi,slicePure,lenPure,buildP,resK,endV,↓reduceIte,Nat.reduceEqDiff,reduceCtorEq,Nat.reduceAdd,Nat.reduceMul,Nat.reduceSub,Int.reduceLT,Int.reduceLE,Int.reduceToNat,Int.reduceAdd,decide_true,decide_false,tf24, he0, he3, he4])
    refine ⟨⟨by omega, by omega⟩, ?_⟩
    have eA : (if c' = 0 then A' else A'.map (fun x => x.add 0)) = A' := by
      split
      · rfl
      · cases A' with
        | none => rfl
        | some ad => rw [Option.map_some, add_zero']
    rw [eA, Nat.sub_zero, Nat.sub_zero]
    refine h w7 A' c' Out ⟨by omega, hL7, fun x hx => ?_⟩ hout g7
    have ht := LRow.grow (hok x hx).2 ga
    exact ((hok x hx).1.grow ga).keep0 k7 (fun _ => hne2 ht hva)
set_option maxHeartbeats 2000000 in
theorem kept_ok {w : World} {A B : Option Addr} {n c d : Nat} {D X : List WrV} (hD : WMark w A n c D) (hX : RdW w B n X) (hoX : ∀ x ∈ X, x.Ok w) (he : D.map WrV.wr = X.map WrV.wr) (hn : n ≤ 100000000) {R : VWK}
    (h : ∀ w', Grow w w' → R (.bool true) w') : CallsV Tryz.prog 31 [.slice A n c, .slice B n d] w R := by
  have hXl := hX.wlen
  refine calls_of_wpC mixed Tryz.func31 rfl (by kernel_rfl) ?_
  intro e he
  have he0 := he 0
  have he1 := he 1
  simp only [List.getD_cons_zero, List.getD_cons_succ] at he0 he1
  clear he
  repeat (first | rw [c_seq] | simp -dsimp only [↓RE,RU,RL,forall_const,implies_true,Nat.reduceLeDiff,Nat.reduceLT,pureOp,binPure,intBin,strBin,eqPure,isConstO,sliceLo,sliceHi,slicePure,lenPure,resK,endV,yieldE,↓reduceIte,Nat.reduceEqDiff,reduceCtorEq,Nat.reduceAdd,Nat.reduceMul,Nat.reduceSub,Int.reduceLT,Int.reduceLE,Int.reduceToNat,Int.reduceAdd,decide_true,decide_false,tf31, he0, he1])
  refine samew_ok hD.rd hX hD.ok hoX (by omega) (by omega) (fun w1 g1 => ?_)
  rw [he, decide_eq_true rfl]
  have hD := hD.grow g1
  have hrow := hD.row
  obtain ⟨A1, c1, e1, hcap, hA⟩ := hrow.form
  injection e1 with e1 _ e2
  subst e1; subst e2
  have hw1 : IntKind.i64.wrap ((n : Int) + 1) = ((n + 1 : Nat) : Int) := by rw [wrap_i64_in (by omega) (by omega)]; omega
  obtain ⟨ad, rfl⟩ : ∃ ad, A = some ad := by
    cases A with
    | none => exact absurd (hA rfl) (by omega)
    | some ad => exact ⟨ad, rfl⟩
  have hc0 : w1.cell? (ad.add (n * 6)) = some (.string sMark) := by
    have h1 : (D ++ [wMark]).getD n w00 = wMark := by rw [List.getD_eq_getElem?_getD, List.getElem?_append_right (by rw [hD.len]; exact Nat.le_refl n), hD.len, Nat.sub_self]; rfl
    have := Rd.wrc hrow.rd (k := n) (by omega) 0 (.string sMark) (by rw [h1]; rfl)
    rwa [add_zero'] at this
  have hcz : ¬ c = 0 := by omega
  repeat (first | rw [c_seq] | simp -dsimp only [↓RE,RU,RL,forall_const,implies_true,Nat.reduceLeDiff,Nat.reduceLT,pureOp,binPure,intBin,strBin,eqPure,isConstO,sliceLo,sliceHi,slicePure,lenPure,resK,endV,yieldE,↓reduceIte,Nat.reduceEqDiff,reduceCtorEq,Nat.reduceAdd,Nat.reduceMul,Nat.reduceSub,Int.reduceLT,Int.reduceLE,Int.reduceToNat,Int.reduceAdd,decide_true,decide_false,tf31, he0, he1, hw1, eq_self, decide_true, Int.toNat_natCast, hcz, add_zero', Nat.sub_zero])
  refine ⟨⟨by omega, by omega⟩, ?_⟩
  repeat (first | rw [c_seq] | simp -dsimp only [↓RE,RU,RL,forall_const,implies_true,Nat.reduceLeDiff,Nat.reduceLT,pureOp,binPure,intBin,strBin,eqPure,isConstO,sliceLo,sliceHi,slicePure,lenPure,resK,endV,yieldE,↓reduceIte,Nat.reduceEqDiff,reduceCtorEq,Nat.reduceAdd,Nat.reduceMul,Nat.reduceSub,Int.reduceLT,Int.reduceLE,Int.reduceToNat,Int.reduceAdd,decide_true,decide_false,tf31, he0, he1, hw1, eq_self, decide_true, Int.toNat_natCast, hcz, add_zero', Nat.sub_zero, hc0])
  refine ⟨⟨by omega, by omega⟩, ?_⟩
  have hbm : (sMark.toList == (⟨#[109, 97, 114, 107]⟩ : ByteArray).toList) = true := beq_self_eq_true _
  rw [hbm]
  exact h w1 g1

end Go.Proofs.YtljgnocpijniiaaGreatDoor
