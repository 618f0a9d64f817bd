/- The document's Order, Merge, SameWrites. -/
import Derived.Test.YtljgnocpijniiaaGreatDoorMrgR
set_option linter.unusedVariables false
set_option linter.unusedSimpArgs false
set_option maxRecDepth 100000
namespace Go.Proofs.YtljgnocpijniiaaGreatDoor
open Go

theorem flatW_take (l : List WrV) (k : Nat) : (l.flatMap WrV.cells).take (k * 6) = (l.take k).flatMap WrV.cells := by
  induction l generalizing k with
  | nil => simp
  | cons x l ih =>
    cases k with
    | zero => simp
    | succ k =>
      have hx : x.cells.length = 6 := rfl
      rw [List.take_succ_cons, List.flatMap_cons, List.flatMap_cons, ← ih, List.take_append, hx, List.take_of_length_le (l := x.cells) (by omega), show (k + 1) * 6 - 6 = k * 6 by omega]
theorem flatW_drop (l : List WrV) (k : Nat) : (l.flatMap WrV.cells).drop (k * 6) = (l.drop k).flatMap WrV.cells := by
  induction l generalizing k with
  | nil => simp
  | cons x l ih =>
    cases k with
    | zero => simp
    | succ k =>
      have hx : x.cells.length = 6 := rfl
      rw [List.drop_succ_cons, List.flatMap_cons, ← ih, List.drop_append, hx, List.drop_of_length_le (l := x.cells) (by omega), List.nil_append, show (k + 1) * 6 - 6 = k * 6 by omega]
instance : DecidableEq Ser := fun a b => decidable_of_iff (cmpSer a b = 0) (cmpSer_eq a b)
theorem wOrd_split (a b : List Wr) : gMerge cmpW (wOrd a) (wOrd b) = wOrd (a ++ b) := merge_load cmpW_cmp a b
theorem at_wr (x : WrV) (A : Option Addr) (c : Nat) : (x.at_ A c).wr = x.wr := rfl
set_option maxHeartbeats 2000000 in
theorem rorder_ok : ∀ (n : Nat) {w : World} {A : Option Addr} {c : Nat} {L : List WrV} (h : RdW w A n L) (ho : ∀ x ∈ L, x.Ok w) (hn : n ≤ 100000000000) (hc : n ≤ c) {R : VWK}
    (hR : ∀ w' v D, WrR w w' v D (wOrd (L.map WrV.wr)) → Grow w w' → R v w'), CallsV Tryz.prog 28 [.slice A n c] w R := by
  intro n
  induction n using Nat.strongRecOn with
  | ind n ih =>
    intro w A c L h ho hn hc R hR
    have hl := h.wlen
    refine calls_of_wpC mixed Tryz.func28 rfl (by kernel_rfl) ?_
    intro e he
    have he0 := he 0
    simp only [List.getD_cons_zero, List.getD_cons_succ] at he0
    clear he
    rcases Nat.eq_zero_or_pos n with h0 | h0
    · have hd : decide ((n : Int) = 0) = true := decide_eq_true (by omega)
      have hL : L = [] := List.eq_nil_of_length_eq_zero (by omega)
      subst hL
      repeat (first | rw [c_seq] | simp -dsimp only [↓RE,RU,RL,Nat.reduceLeDiff,Nat.reduceLT,pureOp,binPure,intBin,strBin,eqPure,isConstO,sliceLo,sliceHi,slicePure,lenPure,buildP,resK,endV,↓reduceIte,Nat.reduceEqDiff,reduceCtorEq,Nat.reduceAdd,Nat.reduceMul,Nat.reduceSub,Int.reduceLT,Int.reduceLE,Int.reduceToNat,Int.reduceAdd,decide_true,decide_false,tf28, he0, hd])
      exact hR w _ [] ⟨rfl, LRow.nil _ _ _, (fun x hx => by cases hx), fun q hq => (fpV_none _ hq).elim⟩ (Keep.refl _ _)
    have hd : decide ((n : Int) = 0) = false := decide_eq_false (by omega)
    obtain ⟨ad, rfl⟩ : ∃ ad, A = some ad := by
      obtain ⟨ad, e, _⟩ := h.2 (by omega)
      exact ⟨ad, e⟩
    by_cases h1 : n = 1
    · subst h1
      have hd1 : decide (((1 : Nat) : Int) = 1) = true := rfl
      obtain ⟨x, rfl⟩ : ∃ x, L = [x] := List.length_eq_one_iff.1 hl
      have hxo := ho x List.mem_cons_self
      have cx : ∀ w', Grow w w' → ∀ (j : Nat) u, x.cells[j]? = some u → w'.cell? ((ad.add (0 * 6)).add j) = some u := fun w' g j u hu => (Rd.wrc (h.grow g) (k := 0) (by omega)) j u hu
      have cs : ∀ w', Grow w w' → ∀ (j : Nat) u, x.s.cells[j]? = some u → w'.cell? (ad.add j) = some u := fun w' g j u hu => by
        have := cx w' g j u (x.head hu)
        rwa [Nat.zero_mul, add_zero'] at this
      have cz : ∀ w', Grow w w' → ∀ (j : Nat) u, ([.int .i64 x.x.1, .int .u8 x.x.2.1, .int .i64 x.x.2.2] : List Value)[j]? = some u → w'.cell? ((ad.add 3).add j) = some u := fun w' g j u hu => by
        have := cx w' g (3 + j) u (by rw [← hu]; match j with | 0 => rfl | 1 => rfl | 2 => rfl | j + 3 => simp [WrV.cells]; omega)
        rwa [Nat.zero_mul, add_zero', ← add_add'] at this
      repeat (first | rw [c_seq] | simp -dsimp only [↓RE,RU,RL,Nat.reduceLeDiff,Nat.reduceLT,pureOp,binPure,intBin,strBin,eqPure,isConstO,sliceLo,sliceHi,slicePure,lenPure,buildP,resK,endV,↓reduceIte,Nat.reduceEqDiff,reduceCtorEq,Nat.reduceAdd,Nat.reduceMul,Nat.reduceSub,Int.reduceLT,Int.reduceLE,Int.reduceToNat,Int.reduceAdd,decide_true,decide_false,tf28, he0, hd, hd1])
      refine wpDraw_by (Grow w ·) [(0, true), (1, true), (2, true), (3, true), (5, true), (6, true), (7, true), (8, true), (4, false), (9, true), (10, false), (11, true)] (by kernel_rfl) (Grow.drew w) ?_
      simp only [planL, List.getElem?_toArray, List.getElem?_cons_zero, List.getElem?_cons_succ, Option.toList_some, List.map_cons, List.map_nil, List.cons_append, List.nil_append]
      repeat (first | rw [c_seq] | simp -dsimp only [↓RE,RU,RL,Nat.reduceLeDiff,Nat.reduceLT,pureOp,binPure,intBin,strBin,eqPure,isConstO,sliceLo,sliceHi,slicePure,lenPure,buildP,resK,endV,↓reduceIte,Nat.reduceEqDiff,reduceCtorEq,Nat.reduceAdd,Nat.reduceMul,Nat.reduceSub,Int.reduceLT,Int.reduceLE,Int.reduceToNat,Int.reduceAdd,decide_true,decide_false,tf28, he0, Int.toNat_natCast, Int.toNat_zero, Nat.zero_mul, add_zero'])
      refine ⟨by omega, x.s.cells, rfl, cs, ?_⟩
      repeat (first | rw [c_seq] | simp -dsimp only [↓RE,RU,RL,Nat.reduceLeDiff,Nat.reduceLT,pureOp,binPure,intBin,strBin,eqPure,isConstO,sliceLo,sliceHi,slicePure,lenPure,buildP,resK,endV,↓reduceIte,Nat.reduceEqDiff,reduceCtorEq,Nat.reduceAdd,Nat.reduceMul,Nat.reduceSub,Int.reduceLT,Int.reduceLE,Int.reduceToNat,Int.reduceAdd,decide_true,decide_false,tf28, he0, Int.toNat_natCast, Int.toNat_zero, Nat.zero_mul, add_zero'])
      refine ⟨by omega, [.int .i64 x.x.1, .int .u8 x.x.2.1, .int .i64 x.x.2.2], rfl, cz, ?_⟩
      repeat (first | rw [c_seq] | simp -dsimp only [↓RE,RU,RL,Nat.reduceLeDiff,Nat.reduceLT,pureOp,binPure,intBin,strBin,eqPure,isConstO,sliceLo,sliceHi,slicePure,lenPure,buildP,resK,endV,↓reduceIte,Nat.reduceEqDiff,reduceCtorEq,Nat.reduceAdd,Nat.reduceMul,Nat.reduceSub,Int.reduceLT,Int.reduceLE,Int.reduceToNat,Int.reduceAdd,decide_true,decide_false,tf28, he0])
      refine copyser_ok (hxo.1.grow (Grow.drew w)) (fun w2 A2 c2 hL2 g2 hF2 => ?_)
      have g02 := (Grow.drew w).trans g2
      refine ⟨g02, ?_⟩
      have ga := Grow.alloc w2 (.cells (x.at_ A2 c2).cells.toArray 60)
      repeat (first | rw [c_seq] | simp -dsimp only [↓RE,RU,RL,Nat.reduceLeDiff,Nat.reduceLT,pureOp,binPure,intBin,strBin,eqPure,isConstO,sliceLo,sliceHi,slicePure,lenPure,buildP,resK,endV,↓reduceIte,Nat.reduceEqDiff,reduceCtorEq,Nat.reduceAdd,Nat.reduceMul,Nat.reduceSub,Int.reduceLT,Int.reduceLE,Int.reduceToNat,Int.reduceAdd,decide_true,decide_false,tf28, he0])
      refine ⟨g02.trans ga, ?_⟩
      repeat (first | rw [c_seq] | simp -dsimp only [↓RE,RU,RL,Nat.reduceLeDiff,Nat.reduceLT,pureOp,binPure,intBin,strBin,eqPure,isConstO,sliceLo,sliceHi,slicePure,lenPure,buildP,resK,endV,↓reduceIte,Nat.reduceEqDiff,reduceCtorEq,Nat.reduceAdd,Nat.reduceMul,Nat.reduceSub,Int.reduceLT,Int.reduceLE,Int.reduceToNat,Int.reduceAdd,decide_true,decide_false,tf28, he0])
      have hs := g02.size
      have hrow := LRow.of_own (own_new w2 60 6 1 (x.at_ A2 c2).cells.toArray rfl (by simp [maxLen]))
      refine hR _ _ [x.at_ A2 c2] ⟨rfl, ?_, fun y hy => ?_, fun q hq => ?_⟩ (g02.trans ga)
      · rw [show [x.at_ A2 c2].flatMap WrV.cells = (x.at_ A2 c2).cells from List.append_nil _]
        exact hrow
      · rw [List.mem_singleton.1 hy]
        exact ⟨⟨(hL2.grow ga).rd, hxo.1.2⟩, hxo.2⟩
      · rw [fpV_some] at hq
        have hq : q = w2.heap.size := hq
        omega
    · have hd1 : decide ((n : Int) = 1) = false := decide_eq_false (by omega)
      have hq : IntKind.i64.wrap ((n : Int).tdiv 2) = ((n / 2 : Nat) : Int) := by
        rw [show (n : Int).tdiv 2 = ((n / 2 : Nat) : Int) from by rw [Int.tdiv_eq_ediv_of_nonneg (by omega)]; omega, wrap_i64_in (by omega) (by omega)]
      have hn2 : n / 2 < n := by omega
      have hn1 : 0 < n / 2 := by omega
      have hhn : n / 2 ≤ n := by omega
      have h1 := h.cut (k := 0) (m := n / 2) (cap := c) (Nat.zero_le _) hhn hc
      have h2 := h.cut (k := n / 2) (m := n) (cap := c) hhn (Nat.le_refl n) hc
      have hc0 : (c = 0) = False := eq_false (by omega)
      have hc1 : (c = n / 2) = False := eq_false (by omega)
      have hch : n / 2 ≤ c := by omega
      rw [if_neg (by omega), Nat.sub_zero, Nat.zero_mul, List.drop_zero, flatW_take, Option.map_some, add_zero'] at h1
      rw [if_neg (by omega), flatW_drop, Option.map_some, List.take_of_length_le (by rw [flat_len WrV.cells (size := 6) _ (fun _ _ => rfl), List.length_drop, hl]; omega)] at h2
      have hLd : L.take (n / 2) ++ L.drop (n / 2) = L := List.take_append_drop _ _
      generalize n / 2 = m at hq hn2 hn1 hhn h1 h2 hc1 hch hLd
      repeat (first | rw [c_seq] | simp -dsimp only [↓RE,RU,RL,Nat.reduceLeDiff,Nat.reduceLT,pureOp,binPure,intBin,strBin,eqPure,isConstO,sliceLo,sliceHi,slicePure,lenPure,buildP,resK,endV,↓reduceIte,Nat.reduceEqDiff,reduceCtorEq,Nat.reduceAdd,Nat.reduceMul,Nat.reduceSub,Int.reduceLT,Int.reduceLE,Int.reduceToNat,Int.reduceAdd,decide_true,decide_false,tf28, he0, hd, hd1])
      refine wpDraw_by (Grow w ·) [(0, true), (1, true), (2, true), (3, true), (4, true), (6, true), (7, true), (8, true), (9, true), (10, true), (5, false), (11, false), (12, false), (13, true)] (by kernel_rfl) (Grow.drew w) ?_
      simp only [planL, List.getElem?_toArray, List.getElem?_cons_zero, List.getElem?_cons_succ, Option.toList_some, List.map_cons, List.map_nil, List.cons_append, List.nil_append]
      repeat (first | rw [c_seq] | simp -dsimp only [↓RE,RU,RL,Nat.reduceLeDiff,Nat.reduceLT,pureOp,binPure,intBin,strBin,eqPure,isConstO,sliceLo,sliceHi,slicePure,lenPure,buildP,resK,endV,↓reduceIte,Nat.reduceEqDiff,reduceCtorEq,Nat.reduceAdd,Nat.reduceMul,Nat.reduceSub,Int.reduceLT,Int.reduceLE,Int.reduceToNat,Int.reduceAdd,decide_true,decide_false,tf28, he0, hq, hc0, hc1, Int.toNat_natCast, Nat.zero_mul, add_zero', Nat.sub_zero, if_false, Option.map_some])
      refine ⟨by decide, ⟨by omega, by omega⟩, by decide, ⟨by omega, by omega, by omega⟩, ?_⟩
      refine ih m hn2 h1.drew (fun x hx => ((ho x (List.mem_of_mem_take hx)).grow (Grow.drew w))) (by omega) hch (fun w2 v2 D2 hD2 g2 => ?_)
      have g02 := (Grow.drew w).trans g2
      obtain ⟨A2, c2, rfl, _, _⟩ := hD2.row.form
      refine ⟨g02, ?_⟩
      repeat (first | rw [c_seq] | simp -dsimp only [↓RE,RU,RL,Nat.reduceLeDiff,Nat.reduceLT,pureOp,binPure,intBin,strBin,eqPure,isConstO,sliceLo,sliceHi,slicePure,lenPure,buildP,resK,endV,↓reduceIte,Nat.reduceEqDiff,reduceCtorEq,Nat.reduceAdd,Nat.reduceMul,Nat.reduceSub,Int.reduceLT,Int.reduceLE,Int.reduceToNat,Int.reduceAdd,decide_true,decide_false,tf28, he0, hq, hc0, hc1])
      refine ih (n - m) (by omega) (h2.grow g02) (fun x hx => ((ho x (List.mem_of_mem_drop hx)).grow g02)) (by omega) (by omega) (fun w3 v3 D3 hD3 g3 => ?_)
      have g03 := g02.trans g3
      obtain ⟨A3, c3, rfl, _, _⟩ := hD3.row.form
      refine ⟨g03, ?_⟩
      have l2 : D2.length ≤ m := by
        have := wOrd_len ((L.take m).map WrV.wr)
        rw [hD2.len]; rw [List.length_map, List.length_take] at this; omega
      have l3 : D3.length ≤ n - m := by
        have := wOrd_len ((L.drop m).map WrV.wr)
        rw [hD3.len]; rw [List.length_map, List.length_drop] at this; omega
      have hD2' := hD2.grow g3
      repeat (first | rw [c_seq] | simp -dsimp only [↓RE,RU,RL,Nat.reduceLeDiff,Nat.reduceLT,pureOp,binPure,intBin,strBin,eqPure,isConstO,sliceLo,sliceHi,slicePure,lenPure,buildP,resK,endV,↓reduceIte,Nat.reduceEqDiff,reduceCtorEq,Nat.reduceAdd,Nat.reduceMul,Nat.reduceSub,Int.reduceLT,Int.reduceLE,Int.reduceToNat,Int.reduceAdd,decide_true,decide_false,tf28, he0])
      refine merged_ok hD2'.row.rd hD3.row.rd hD2'.ok hD3.ok (by omega) (fun w4 v4 hv4 g4 hF4 => ?_)
      have hs := g03.size
      have hcat : (gMerge cmpV D2 D3).map WrV.wr = wOrd (L.map WrV.wr) := by
        rw [gMerge_map (cf := cmpV) (cg := cmpW) WrV.wr (fun x y => rfl) D2 D3, hD2.eq, hD3.eq, wOrd_split, ← List.map_append, hLd]
      refine ⟨g03.trans g4, ?_⟩
      repeat (first | rw [c_seq] | simp -dsimp only [↓RE,RU,RL,Nat.reduceLeDiff,Nat.reduceLT,pureOp,binPure,intBin,strBin,eqPure,isConstO,sliceLo,sliceHi,slicePure,lenPure,buildP,resK,endV,↓reduceIte,Nat.reduceEqDiff,reduceCtorEq,Nat.reduceAdd,Nat.reduceMul,Nat.reduceSub,Int.reduceLT,Int.reduceLE,Int.reduceToNat,Int.reduceAdd,decide_true,decide_false,tf28, he0])
      refine hR w4 v4 (gMerge cmpV D2 D3) ⟨hcat, hv4, fun x hx => ?_, fun q hq => by have := hF4 q hq; omega⟩ (g03.trans g4)
      rcases gMerge_mem hx with hx | hx
      · exact ((hD2'.ok x hx).grow g4)
      · exact ((hD3.ok x hx).grow g4)
theorem rmerge_ok {w : World} {A B : Option Addr} {n c m d : Nat} {X Y : List WrV} (hX : RdW w A n X) (hY : RdW w B m Y) (hoX : ∀ x ∈ X, x.Ok w) (hoY : ∀ x ∈ Y, x.Ok w) (hn : n + m ≤ 10000000000) (hc : n ≤ c) (hd : m ≤ d) {R : VWK}
    (hR : ∀ w' v D, WrR w w' v D (wOrd (X.map WrV.wr ++ Y.map WrV.wr)) → Grow w w' → R v w') : CallsV Tryz.prog 30 [.slice A n c, .slice B m d] w R := by
  have hXl := hX.wlen
  have hYl := hY.wlen
  refine calls_of_wpC mixed Tryz.func30 rfl (by kernel_rfl) ?_
  intro e he
  have he0 := he 0
  have he1 := he 1
  simp only [List.getD_cons_zero, List.getD_cons_succ] at he0 he1
  clear he
  repeat (first | rw [c_seq] | simp -dsimp only [↓RE,RU,RL,Nat.reduceLeDiff,Nat.reduceLT,pureOp,resK,endV,↓reduceIte,Nat.reduceEqDiff,reduceCtorEq,Nat.reduceAdd,Nat.reduceMul,Int.reduceLT,Int.reduceLE,Int.reduceToNat,decide_true,decide_false,tf30, he0, he1])
  refine rorder_ok n hX hoX (by omega) hc (fun w2 v2 D2 hD2 g2 => ?_)
  obtain ⟨A2, c2, rfl, _, _⟩ := hD2.row.form
  repeat (first | rw [c_seq] | simp -dsimp only [↓RE,RU,RL,Nat.reduceLeDiff,Nat.reduceLT,pureOp,resK,endV,↓reduceIte,Nat.reduceEqDiff,reduceCtorEq,Nat.reduceAdd,Nat.reduceMul,Int.reduceLT,Int.reduceLE,Int.reduceToNat,decide_true,decide_false,tf30, he0, he1])
  refine rorder_ok m (hY.grow g2) (fun y hy => (hoY y hy).grow g2) (by omega) hd (fun w3 v3 D3 hD3 g3 => ?_)
  obtain ⟨A3, c3, rfl, _, _⟩ := hD3.row.form
  have hD2' := hD2.grow g3
  have g03 := g2.trans g3
  have hs := g03.size
  have l2 : D2.length ≤ n := by
    have := wOrd_len (X.map WrV.wr)
    rw [hD2.len]; rw [List.length_map] at this; omega
  have l3 : D3.length ≤ m := by
    have := wOrd_len (Y.map WrV.wr)
    rw [hD3.len]; rw [List.length_map] at this; omega
  repeat (first | rw [c_seq] | simp -dsimp only [↓RE,RU,RL,Nat.reduceLeDiff,Nat.reduceLT,pureOp,resK,endV,↓reduceIte,Nat.reduceEqDiff,reduceCtorEq,Nat.reduceAdd,Nat.reduceMul,Int.reduceLT,Int.reduceLE,Int.reduceToNat,decide_true,decide_false,tf30, he0])
  refine merged_ok hD2'.row.rd hD3.row.rd hD2'.ok hD3.ok (by omega) (fun w4 v4 hv4 g4 hF4 => ?_)
  have hcat : (gMerge cmpV D2 D3).map WrV.wr = wOrd (X.map WrV.wr ++ Y.map WrV.wr) := by
    rw [gMerge_map (cf := cmpV) (cg := cmpW) WrV.wr (fun x y => rfl) D2 D3, hD2.eq, hD3.eq, wOrd_split]
  repeat (first | rw [c_seq] | simp -dsimp only [↓RE,RU,RL,Nat.reduceLeDiff,Nat.reduceLT,pureOp,resK,endV,↓reduceIte,Nat.reduceEqDiff,reduceCtorEq,Nat.reduceAdd,Nat.reduceMul,Int.reduceLT,Int.reduceLE,Int.reduceToNat,decide_true,decide_false,tf30, he0])
  refine hR w4 v4 (gMerge cmpV D2 D3) ⟨hcat, hv4, fun x hx => ?_, fun q hq => by have := hF4 q hq; omega⟩ (g03.trans g4)
  rcases gMerge_mem hx with hx | hx
  · exact ((hD2'.ok x hx).grow g4)
  · exact ((hD3.ok x hx).grow g4)
theorem cmpV_zero {a b : WrV} : cmpV a b = 0 ↔ a.s.s = b.s.s ∧ a.x.1 = b.x.1 := by
  show (if cmpSer a.s.s b.s.s = 0 then cmpI a.x.1 b.x.1 else cmpSer a.s.s b.s.s) = 0 ↔ _
  by_cases h : cmpSer a.s.s b.s.s = 0
  · rw [if_pos h]
    have := (cmpSer_eq _ _).1 h
    rw [cmpI_eq]
    exact ⟨fun q => ⟨this, q⟩, fun q => q.2⟩
  · rw [if_neg h]
    exact ⟨fun q => absurd q h, fun q => (cmpSer_eq _ _).2 q.1⟩
theorem wr_eq {a b : WrV} : a.wr = b.wr ↔ cmpV a b = 0 ∧ a.x = b.x := by
  rw [cmpV_zero]
  obtain ⟨sa, xa⟩ := a
  obtain ⟨sb, xb⟩ := b
  simp only [WrV.wr, Prod.mk.injEq]
  exact ⟨fun h => ⟨⟨h.1, by rw [h.2]⟩, h.2⟩, fun h => ⟨h.1.1, h.2⟩⟩
set_option maxHeartbeats 2000000 in
theorem samew_ok {w : World} {A B : Option Addr} {n c m d : Nat} {X Y : List WrV} (hX : RdW w A n X) (hY : RdW w B m Y) (hoX : ∀ x ∈ X, x.Ok w) (hoY : ∀ x ∈ Y, x.Ok w) (hn : n ≤ 100000000000) (hm : m ≤ 100000000000) {R : VWK}
    (h : ∀ w', Grow w w' → R (.bool (decide (X.map WrV.wr = Y.map WrV.wr))) w') : CallsV Tryz.prog 23 [.slice A n c, .slice B m d] w R := by
  have hXl := hX.wlen
  have hYl := hY.wlen
  refine calls_of_wpC mixed Tryz.func23 rfl (by kernel_rfl) ?_
  intro e he
  have he0 := he 0
  have he1 := he 1
  simp only [List.getD_cons_zero, List.getD_cons_succ] at he0 he1
  clear he
  by_cases hnm : n = m
  · subst hnm
    have hd : decide ((n : Int) = (n : Int)) = true := decide_eq_true rfl
    repeat (first | rw [c_seq] | simp -dsimp only [↓RE,RU,RL,forall_const,implies_true,Nat.reduceLeDiff,Nat.reduceLT,pureOp,binPure,intBin,strBin,eqPure,isConstO,lenPure,resK,endV,yieldE,↓reduceIte,Nat.reduceEqDiff,reduceCtorEq,Nat.reduceAdd,Nat.reduceMul,Int.reduceLT,Int.reduceLE,Int.reduceToNat,Int.reduceAdd,ne_eq,decide_true,decide_false,tf23, he0, he1, hd, Bool.not_true])
    refine wpLoop_intro (fun e' w' => Grow w w' ∧ (e' 0 = .slice A n c ∧ e' 1 = .slice B n d) ∧ ∃ k : Nat, k ≤ n ∧ e' 5 = .int .i64 (k : Int) ∧ ∀ j, j < k → (X.getD j w00).wr = (Y.getD j w00).wr)
      (fun e' _ => n - (envInt (e' 5)).toNat) ⟨Keep.refl _ _, ⟨?_, ?_⟩, 0, Nat.zero_le _, ?_, fun j hj => absurd hj (by omega)⟩ ?_
    · simp -dsimp only [↓RE,RU,RL,↓reduceIte,Nat.reduceEqDiff,reduceCtorEq,decide_true,decide_false, he0]
    · simp -dsimp only [↓RE,RU,RL,↓reduceIte,Nat.reduceEqDiff,reduceCtorEq,decide_true,decide_false, he1]
    · simp -dsimp only [↓RE,RU,RL,↓reduceIte,Nat.reduceEqDiff,reduceCtorEq,decide_true,decide_false, Int.cast_ofNat_Int]
    clear he0 he1 e
    rintro e w1 ⟨g1, ⟨he0, he1⟩, k, hk, he5, hal⟩
    rcases Nat.lt_or_ge k n with hlt | hge
    · have hdk : decide ((k : Int) < (n : Int)) = true := decide_eq_true (by omega)
      have hw1 : IntKind.i64.wrap ((k : Int) + 1) = ((k + 1 : Nat) : Int) := by rw [wrap_i64_in (by omega) (by omega)]; omega
      have hXg := hX.grow g1
      have hYg := hY.grow g1
      obtain ⟨ad, rfl⟩ : ∃ ad, A = some ad := by
        obtain ⟨ad, e, _⟩ := hXg.2 (by omega)
        exact ⟨ad, e⟩
      obtain ⟨bd, rfl⟩ : ∃ ad, B = some ad := by
        obtain ⟨ad, e, _⟩ := hYg.2 (by omega)
        exact ⟨ad, e⟩
      have cx : ∀ w', Grow w1 w' → ∀ (j : Nat) u, (X.getD k w00).cells[j]? = some u → w'.cell? ((ad.add (k * 6)).add j) = some u := fun w' g => (hXg.grow g).wrc hlt
      have cy : ∀ w', Grow w1 w' → ∀ (j : Nat) u, (Y.getD k w00).cells[j]? = some u → w'.cell? ((bd.add (k * 6)).add j) = some u := fun w' g => (hYg.grow g).wrc hlt
      have ox := (hoX _ (getD_mem (l := X) (k := k) (by omega))).grow g1
      have oy := (hoY _ (getD_mem (l := Y) (k := k) (by omega))).grow g1
      have hal1 : (X.getD k w00).wr = (Y.getD k w00).wr → ∀ j, j < k + 1 → (X.getD j w00).wr = (Y.getD j w00).wr := fun hq j hj => by
        rcases Nat.lt_or_eq_of_le (Nat.lt_succ_iff.1 hj) with hj | rfl
        · exact hal j hj
        · exact hq
      have hno : (X.getD k w00).wr ≠ (Y.getD k w00).wr → decide (X.map WrV.wr = Y.map WrV.wr) = false := fun hq => decide_eq_false (fun heq => hq (by
        have h1 : (X.map WrV.wr)[k]? = some (X.getD k w00).wr := by rw [List.getElem?_map, getD_some (by omega)]; rfl
        have h2 : (Y.map WrV.wr)[k]? = some (Y.getD k w00).wr := by rw [List.getElem?_map, getD_some (by omega)]; rfl
        rw [heq, h2] at h1
        injection h1 with h1
        exact h1.symm))
      have hmu : (envInt (e 5)).toNat = k := by rw [he5]; exact Int.toNat_natCast k
      generalize X.getD k w00 = x at cx ox hal1 hno
      generalize Y.getD k w00 = y at cy oy hal1 hno
      have zx : ∀ w', Grow w1 w' → ∀ (j : Nat) u, ([.int .i64 x.x.1, .int .u8 x.x.2.1, .int .i64 x.x.2.2] : List Value)[j]? = some u → w'.cell? (((ad.add (k * 6)).add 3).add j) = some u := fun w' g j u hu => by
        have := cx w' g (3 + j) u (by rw [← hu]; match j with | 0 => rfl | 1 => rfl | 2 => rfl | j + 3 => simp [WrV.cells]; omega)
        rwa [← add_add'] at this
      have zy : ∀ w', Grow w1 w' → ∀ (j : Nat) u, ([.int .i64 y.x.1, .int .u8 y.x.2.1, .int .i64 y.x.2.2] : List Value)[j]? = some u → w'.cell? (((bd.add (k * 6)).add 3).add j) = some u := fun w' g j u hu => by
        have := cy w' g (3 + j) u (by rw [← hu]; match j with | 0 => rfl | 1 => rfl | 2 => rfl | j + 3 => simp [WrV.cells]; omega)
        rwa [← add_add'] at this
      repeat (first | rw [c_seq] | simp -dsimp only [↓RE,RU,RL,forall_const,implies_true,Nat.reduceLeDiff,Nat.reduceLT,pureOp,binPure,intBin,strBin,eqPure,isConstO,lenPure,resK,endV,yieldE,↓reduceIte,Nat.reduceEqDiff,reduceCtorEq,Nat.reduceAdd,Nat.reduceMul,Int.reduceLT,Int.reduceLE,Int.reduceToNat,Int.reduceAdd,ne_eq,decide_true,decide_false,tf23, he0, he1, he5, hdk])
      refine wpDraw_by (Grow w1 ·) [(0, true), (1, true), (2, true), (3, true), (4, true), (5, true), (6, true), (7, true), (8, false), (9, true), (10, true), (11, true), (12, true), (13, true), (14, true), (15, true), (16, true), (17, true), (18, true), (19, true), (20, true), (21, true), (22, true)] (by kernel_rfl) (Grow.drew w1) ?_
      simp only [planL, List.getElem?_toArray, List.getElem?_cons_zero, List.getElem?_cons_succ, Option.toList_some, List.map_cons, List.map_nil, List.cons_append, List.nil_append]
      repeat (first | rw [c_seq] | simp -dsimp only [↓RE,RU,RL,forall_const,implies_true,Nat.reduceLeDiff,Nat.reduceLT,pureOp,binPure,intBin,strBin,eqPure,isConstO,lenPure,resK,endV,yieldE,↓reduceIte,Nat.reduceEqDiff,reduceCtorEq,Nat.reduceAdd,Nat.reduceMul,Int.reduceLT,Int.reduceLE,Int.reduceToNat,Int.reduceAdd,ne_eq,decide_true,decide_false,tf23, he0, he1, he5, Int.toNat_natCast])
      refine ⟨⟨by omega, by omega⟩, x.cells, rfl, cx, ?_⟩
      repeat (first | rw [c_seq] | simp -dsimp only [↓RE,RU,RL,forall_const,implies_true,Nat.reduceLeDiff,Nat.reduceLT,pureOp,binPure,intBin,strBin,eqPure,isConstO,lenPure,resK,endV,yieldE,↓reduceIte,Nat.reduceEqDiff,reduceCtorEq,Nat.reduceAdd,Nat.reduceMul,Int.reduceLT,Int.reduceLE,Int.reduceToNat,Int.reduceAdd,ne_eq,decide_true,decide_false,tf23, he0, he1, he5, Int.toNat_natCast])
      refine ⟨⟨by omega, by omega⟩, y.cells, rfl, cy, ?_⟩
      repeat (first | rw [c_seq] | simp -dsimp only [↓RE,RU,RL,forall_const,implies_true,Nat.reduceLeDiff,Nat.reduceLT,pureOp,binPure,intBin,strBin,eqPure,isConstO,lenPure,resK,endV,yieldE,↓reduceIte,Nat.reduceEqDiff,reduceCtorEq,Nat.reduceAdd,Nat.reduceMul,Int.reduceLT,Int.reduceLE,Int.reduceToNat,Int.reduceAdd,ne_eq,decide_true,decide_false,tf23, he0, he1, he5])
      refine rwcmp_ok (ox.grow (Grow.drew w1)) (oy.grow (Grow.drew w1)) (fun w3 g3 => ?_)
      have g13 := (Grow.drew w1).trans g3
      refine ⟨g13, ?_⟩
      by_cases hc : cmpV x y = 0
      · have hcd : decide (cmpV x y = 0) = true := decide_eq_true hc
        repeat (first | rw [c_seq] | simp -dsimp only [↓RE,RU,RL,forall_const,implies_true,Nat.reduceLeDiff,Nat.reduceLT,pureOp,binPure,intBin,strBin,eqPure,isConstO,lenPure,resK,endV,yieldE,↓reduceIte,Nat.reduceEqDiff,reduceCtorEq,Nat.reduceAdd,Nat.reduceMul,Int.reduceLT,Int.reduceLE,Int.reduceToNat,Int.reduceAdd,ne_eq,decide_true,decide_false,tf23, he0, he1, he5, hcd, Bool.not_true, Int.toNat_natCast])
        refine ⟨⟨by omega, by omega⟩, _, rfl, zx, ?_⟩
        repeat (first | rw [c_seq] | simp -dsimp only [↓RE,RU,RL,forall_const,implies_true,Nat.reduceLeDiff,Nat.reduceLT,pureOp,binPure,intBin,strBin,eqPure,isConstO,lenPure,resK,endV,yieldE,↓reduceIte,Nat.reduceEqDiff,reduceCtorEq,Nat.reduceAdd,Nat.reduceMul,Int.reduceLT,Int.reduceLE,Int.reduceToNat,Int.reduceAdd,ne_eq,decide_true,decide_false,tf23, he0, he1, he5, hcd, Bool.not_true, Int.toNat_natCast])
        refine ⟨⟨by omega, by omega⟩, _, rfl, zy, ?_⟩
        try simp -dsimp only [↓RE,↓c_seq,RU,RL,forall_const,implies_true,Nat.reduceLeDiff,Nat.reduceLT,pureOp,binPure,intBin,strBin,eqPure,isConstO,lenPure,resK,endV,yieldE,↓reduceIte,Nat.reduceEqDiff,reduceCtorEq,Nat.reduceAdd,Nat.reduceMul,Int.reduceLT,Int.reduceLE,Int.reduceToNat,Int.reduceAdd,ne_eq,decide_true,decide_false,tf23, he0, he1, he5, hcd, hw1, Bool.not_true, Int.toNat_natCast]
        refine ⟨fun hne => ?_, fun hxy => ?_⟩
        · rw [hno (fun q => hne (by rw [(wr_eq.1 q).2]; exact ⟨rfl, rfl, rfl⟩))] at h
          exact h w3 (g1.trans g13)
        · have hxx : x.x = y.x := by
            have hxy' : x.x.1 = y.x.1 ∧ x.x.2.1 = y.x.2.1 ∧ x.x.2.2 = y.x.2.2 := by first | exact hxy | exact Classical.not_not.1 hxy
            exact Prod.ext hxy'.1 (Prod.ext hxy'.2.1 hxy'.2.2)
          try simp -dsimp only [↓RE,↓c_seq,RU,RL,forall_const,implies_true,Nat.reduceLeDiff,Nat.reduceLT,pureOp,binPure,intBin,strBin,eqPure,isConstO,lenPure,resK,endV,yieldE,↓reduceIte,Nat.reduceEqDiff,reduceCtorEq,Nat.reduceAdd,Nat.reduceMul,Int.reduceLT,Int.reduceLE,Int.reduceToNat,Int.reduceAdd,ne_eq,decide_true,decide_false,tf23, he5, hw1]
          refine hold_intro ⟨⟨g1.trans g13, ⟨?_, ?_⟩, k + 1, hlt, ?_, hal1 (wr_eq.2 ⟨hc, hxx⟩)⟩, ?_⟩
          · simp -dsimp only [↓RE,RU,RL,↓reduceIte,Nat.reduceEqDiff,reduceCtorEq,decide_true,decide_false, he0]
          · simp -dsimp only [↓RE,RU,RL,↓reduceIte,Nat.reduceEqDiff,reduceCtorEq,decide_true,decide_false, he1]
          · simp -dsimp only [↓RE,RU,RL,↓reduceIte,Nat.reduceEqDiff,reduceCtorEq,decide_true,decide_false, hw1]
          · rw [hmu]
            simp -dsimp only [↓RE,↓c_seq,RU,RL,forall_const,implies_true,Nat.reduceLeDiff,Nat.reduceLT,pureOp,binPure,intBin,strBin,eqPure,isConstO,lenPure,resK,endV,yieldE,↓reduceIte,Nat.reduceEqDiff,reduceCtorEq,Nat.reduceAdd,Nat.reduceMul,Int.reduceLT,Int.reduceLE,Int.reduceToNat,Int.reduceAdd,ne_eq,decide_true,decide_false,tf23, hw1]
            simp only [envInt_int]; omega
      · have hcd : decide (cmpV x y = 0) = false := decide_eq_false hc
        rw [hno (fun q => hc (wr_eq.1 q).1)] at h
        repeat (first | rw [c_seq] | simp -dsimp only [↓RE,RU,RL,forall_const,implies_true,Nat.reduceLeDiff,Nat.reduceLT,pureOp,binPure,intBin,strBin,eqPure,isConstO,lenPure,resK,endV,yieldE,↓reduceIte,Nat.reduceEqDiff,reduceCtorEq,Nat.reduceAdd,Nat.reduceMul,Int.reduceLT,Int.reduceLE,Int.reduceToNat,Int.reduceAdd,ne_eq,decide_true,decide_false,tf23, he0, he1, he5, hcd, Bool.not_false, undef])
        exact h w3 (g1.trans g13)
    · have hdk : decide ((k : Int) < (n : Int)) = false := decide_eq_false (by omega)
      have he : X.map WrV.wr = Y.map WrV.wr := by
        apply List.ext_getElem?
        intro j
        rw [List.getElem?_map, List.getElem?_map]
        rcases Nat.lt_or_ge j n with hj | hj
        · rw [getD_some (by omega), getD_some (by omega)]
          exact congrArg some (hal j (by omega))
        · rw [List.getElem?_eq_none (by omega), List.getElem?_eq_none (by omega)]
      rw [decide_eq_true he] at h
      repeat (first | rw [c_seq] | simp -dsimp only [↓RE,RU,RL,forall_const,implies_true,Nat.reduceLeDiff,Nat.reduceLT,pureOp,binPure,intBin,strBin,eqPure,isConstO,lenPure,resK,endV,yieldE,↓reduceIte,Nat.reduceEqDiff,reduceCtorEq,Nat.reduceAdd,Nat.reduceMul,Int.reduceLT,Int.reduceLE,Int.reduceToNat,Int.reduceAdd,ne_eq,decide_true,decide_false,tf23, he0, he1, he5, hdk])
      exact h w1 g1
  · have hd : decide ((n : Int) = (m : Int)) = false := decide_eq_false (by omega)
    rw [decide_eq_false (fun heq => hnm (by have := congrArg List.length heq; simp at this; omega))] at h
    repeat (first | rw [c_seq] | simp -dsimp only [↓RE,RU,RL,forall_const,implies_true,Nat.reduceLeDiff,Nat.reduceLT,pureOp,binPure,intBin,strBin,eqPure,isConstO,lenPure,resK,endV,yieldE,↓reduceIte,Nat.reduceEqDiff,reduceCtorEq,Nat.reduceAdd,Nat.reduceMul,Int.reduceLT,Int.reduceLE,Int.reduceToNat,Int.reduceAdd,ne_eq,decide_true,decide_false,tf23, he0, he1, hd, Bool.not_false])
    exact h w (Keep.refl _ _)

end Go.Proofs.YtljgnocpijniiaaGreatDoor
