/- batch.Order: writes in order, the last one of each series and time. -/
/- batch.own, batch.Order: each write with tags of its own. -/
/- slices.Concat of writes, batch.Merge. -/
import Derived.Test.YtljgnocpijniiaaGreatDoorStable
import Derived.Test.YtljgnocpijniiaaGreatDoorClones
set_option linter.unusedVariables false
set_option linter.unusedSimpArgs false
set_option maxRecDepth 100000
namespace Go.Proofs.YtljgnocpijniiaaGreatDoor
open Go

theorem tcells_one (l : List Tg) : ∀ u ∈ l.flatMap tcells, u.oneCell' = true := by
  intro u hu
  obtain ⟨v, _, hv⟩ := List.mem_flatMap.1 hu
  simp only [tcells, List.mem_cons, List.not_mem_nil, or_false] at hv
  rcases hv with rfl | rfl <;> rfl
theorem wflat_one (l : List WrV) : ∀ u ∈ l.flatMap WrV.cells, u.oneCell' = true := by
  intro u hu
  obtain ⟨v, _, hv⟩ := List.mem_flatMap.1 hu
  exact wcells_one v u hv
theorem Rd.wlen {w : World} {A : Option Addr} {n : Nat} {l : List WrV} (h : Rd w A n 6 (l.flatMap WrV.cells)) : l.length = n := by
  have h1 := h.1
  rw [flat_len WrV.cells (size := 6) l (fun _ _ => rfl)] at h1
  omega
theorem SerV.Ok.keep0 {F : Nat → Prop} {w w' : World} {v : SerV} (h : v.Ok w) (k : Keep F w w') (hF : 0 < v.n → ∀ q, fpA v.A q → ¬ F q) : v.Ok w' := ⟨h.1.keep0 k hF, h.2⟩
theorem WrV.Ok.keep0 {F : Nat → Prop} {w w' : World} {v : WrV} (h : v.Ok w) (k : Keep F w w') (hF : 0 < v.s.n → ∀ q, fpA v.s.A q → ¬ F q) : v.Ok w' := ⟨h.1.keep0 k hF, h.2⟩
theorem WrV.Ok.lt {w : World} {v : WrV} (h : v.Ok w) (h0 : 0 < v.s.n) : ∀ q, fpA v.s.A q → q < w.heap.size := h.1.1.lt h0 (by omega)
/-- a comparison that reads no more than its two arguments. -/
structure CmpF (f : FuncId) (cf : WrV → WrV → Int) : Prop where
  can : callable Tryz.prog f = true
  cmp : ∀ (w : World) (a b : WrV), a.Ok w → b.Ok w → ∀ R : VWK, (∀ w', Grow w w' → R (.int .i64 (cf a b)) w') → CallsV Tryz.prog f [.agg a.cells.toArray, .agg b.cells.toArray] w R
theorem cmpF_compare : CmpF 25 cmpV := ⟨by kernel_rfl, fun w a b ha hb R h => wcmp_ok ha hb h⟩
theorem CmpF.ok {f : FuncId} {cf : WrV → WrV → Int} (h : CmpF f cf) {w0 : World} {ad : Addr} {l0 : List WrV} (ho : ∀ x ∈ l0, x.Ok w0) (hap : ∀ x ∈ l0, 0 < x.s.n → ∀ q, fpA x.s.A q → q ≠ ad.block) : CmpOk w0 ad l0 f cf :=
  ⟨h.can, fun w hk a ha b hb R hR => h.cmp w a b ((ho a ha).keep0 hk (hap a ha)) ((ho b hb).keep0 hk (hap b hb)) R hR⟩
theorem sortw_ok {w : World} {A : Option Addr} {n c : Nat} {L : List WrV} {f : FuncId} {cf : WrV → WrV → Int} (hf : CmpF f cf) (hc : Cmp cf) (h : LRow w 60 6 (.slice A n c) n (L.flatMap WrV.cells)) (ho : ∀ x ∈ L, x.Ok w) (hap : ∀ x ∈ L, 0 < x.s.n → ∀ q, fpA x.s.A q → ¬ fpA A q) (hn : n ≤ 1000000000000) {R : VWK}
    (hR : ∀ w' Z, SortedC cf Z → SameK cf L Z → Keep (fun q => fpA A q) w w' → LRow w' 60 6 (.slice A n c) n (Z.flatMap WrV.cells) → R (.tuple #[]) w') :
    CallsV Tryz.prog 64 [.slice A n c, .func (.func f) #[] #[]] w R := by
  have hl : L.length = n := by
    have h1 := h.1
    rw [flat_len WrV.cells (size := 6) L (fun _ _ => rfl)] at h1
    omega
  refine calls_of_wpC mixed Tryz.func64 rfl (by kernel_rfl) ?_
  intro e he
  have he0 := he 0
  have he1 := he 1
  simp only [List.getD_cons_zero, List.getD_cons_succ] at he0 he1
  clear he
  repeat (first | rw [c_seq] | simp -dsimp only [↓RE,RU,RL,Nat.reduceLeDiff,Nat.reduceLT,pureOp,lenPure,resK,endV,↓reduceIte,Nat.reduceEqDiff,reduceCtorEq,Nat.reduceAdd,Nat.reduceMul,Int.reduceLT,Int.reduceLE,Int.reduceToNat,decide_true,decide_false,tf64, he0, he1])
  rcases Nat.eq_zero_or_pos n with h0 | h0
  · subst h0
    have hL : L = [] := List.eq_nil_of_length_eq_zero hl
    subst hL
    refine stable0_ok ?_
    repeat (first | rw [c_seq] | simp -dsimp only [↓RE,RU,RL,Nat.reduceLeDiff,Nat.reduceLT,pureOp,lenPure,resK,endV,↓reduceIte,Nat.reduceEqDiff,reduceCtorEq,Nat.reduceAdd,Nat.reduceMul,Int.reduceLT,Int.reduceLE,Int.reduceToNat,decide_true,decide_false,tf64, he0])
    exact hR w [] List.Pairwise.nil (SameK.refl _) (Keep.refl _ _) h
  · obtain ⟨ad, rfl⟩ : ∃ ad, A = some ad := by
      obtain ⟨ad, e, _⟩ := h.rd.2 h0
      exact ⟨ad, e⟩
    have hlt : ad.block < w.heap.size := h.lt _ ((fpV_some _ _ _ _).2 rfl)
    have hS : Sr w ad n c L w L := ⟨Keep.refl _ _, h, hl, fun x hx => hx, hlt⟩
    refine stable_ok (hf.ok ho (fun x hx h0 q hq e => hap x hx h0 q hq ⟨ad, rfl, e⟩)) hc hS hn (fun w' Z hZ hk hS' => ?_)
    repeat (first | rw [c_seq] | simp -dsimp only [↓RE,RU,RL,Nat.reduceLeDiff,Nat.reduceLT,pureOp,lenPure,resK,endV,↓reduceIte,Nat.reduceEqDiff,reduceCtorEq,Nat.reduceAdd,Nat.reduceMul,Int.reduceLT,Int.reduceLE,Int.reduceToNat,decide_true,decide_false,tf64, he0])
    exact hR w' Z hZ hk (hS'.keep.mono (fun q _ e => ⟨ad, rfl, e⟩)) hS'.row

/-- one write more. -/
theorem app_w {w : World} {v : Value} {L : List WrV} (h : LRow w 60 6 v L.length (L.flatMap WrV.cells)) {A : Option Addr} {n c : Nat} {xs : List WrV} (hX : Rd w A n 6 (xs.flatMap WrV.cells)) (hn : L.length + n ≤ 1000000000000) {ty : TypeId} {K : VWK} {tk : Tok K}
    (hK : ∀ A' c' w', LRow w' 60 6 (.slice A' (L.length + n) c') (L ++ xs).length ((L ++ xs).flatMap WrV.cells) → Keep (fpV v) w w' → (∀ q, fpV (.slice A' (L.length + n) c') q → fpV v q ∨ q = w.heap.size) → K (.slice A' (L.length + n) c') w') :
    appK Tryz.prog [42, 42] ty [v, .slice A n c] w K tk := by
  have hl := hX.wlen
  refine appK_l (bytes := 80) (by kernel_rfl) h hX (wflat_one xs) (by simp only [maxLen]; omega) (by omega) (fun A' c' w' hL k1 f1 _ => hK A' c' w' ?_ k1 f1)
  rw [List.flatMap_append, List.length_append, hl]
  exact hL
theorem one_row (w : World) (x : WrV) : Rd (w.alloc (.cells x.cells.toArray 60)) (some ⟨w.heap.size, 0, none⟩) 1 6 ([x].flatMap WrV.cells) := by
  have := Rd.of_own (own_new w 60 6 1 x.cells.toArray rfl (by simp [maxLen]))
  simpa using this
theorem lastK_drop {cf : WrV → WrV → Int} {Z : List WrV} {k : Nat} (hk : k < Z.length) : lastK cf (Z.drop k) = if k + 1 < Z.length ∧ cf (Z.getD k w00) (Z.getD (k + 1) w00) = 0 then lastK cf (Z.drop (k + 1)) else Z.getD k w00 :: lastK cf (Z.drop (k + 1)) := by
  have e1 : Z.drop k = Z.getD k w00 :: Z.drop (k + 1) := by
    rw [List.drop_eq_getElem_cons hk, List.getD_eq_getElem?_getD, List.getElem?_eq_getElem hk]; rfl
  rw [e1]
  rcases Nat.lt_or_ge (k + 1) Z.length with h | h
  · have e2 : Z.drop (k + 1) = Z.getD (k + 1) w00 :: Z.drop (k + 1 + 1) := by
      rw [List.drop_eq_getElem_cons h, List.getD_eq_getElem?_getD, List.getElem?_eq_getElem h]; rfl
    rw [e2, lastK]
    by_cases hz : cf (Z.getD k w00) (Z.getD (k + 1) w00) = 0
    · rw [if_pos hz, if_pos ⟨h, hz⟩]
    · rw [if_neg hz, if_neg (fun q => hz q.2)]
  · rw [List.drop_eq_nil_of_le h, if_neg (fun q => by omega)]
    rfl
set_option maxHeartbeats 1000000 in
theorem sorted_ok {w : World} {A : Option Addr} {n c : Nat} {L : List WrV} {f : FuncId} {cf : WrV → WrV → Int} (hf : CmpF f cf) (hc : Cmp cf) (h : Rd w A n 6 (L.flatMap WrV.cells)) (ho : ∀ x ∈ L, x.Ok w) (hn : n ≤ 100000000000) {R : VWK}
    (hR : ∀ w' v, LRow w' 60 6 v (gLoad cf [] L).length ((gLoad cf [] L).flatMap WrV.cells) → Grow w w' → (∀ q, fpV v q → w.heap.size ≤ q) → R v w') :
    CallsV Tryz.prog 58 [.slice A n c, .func (.func f) #[] #[]] w R := by
  have hl := h.wlen
  have hcall := fun xs w K tk => callK_func hf.can xs w (K := K) (tk := tk)
  refine calls_of_wpC mixed Tryz.func58 rfl (by kernel_rfl) ?_
  intro e he
  have he0 := he 0
  have he1 := he 1
  simp only [List.getD_cons_zero, List.getD_cons_succ] at he0 he1
  clear he
  repeat (first | rw [c_seq] | simp -dsimp only [↓RE,RU,RL,forall_const,implies_true,Nat.reduceLeDiff,Nat.reduceLT,pureOp,binPure,intBin,strBin,eqPure,isConstO,lenPure,resK,endV,yieldE,↓reduceIte,Nat.reduceEqDiff,reduceCtorEq,Nat.reduceAdd,Nat.reduceMul,Int.reduceLT,Int.reduceLE,Int.reduceToNat,Int.reduceAdd,ne_eq,decide_true,decide_false,tf58, he0, he1])
  refine cloneW_ok h (wflat_one L) (by omega) (fun w1 A1 c1 hL1 g1 hF1 hN1 => ?_)
  repeat (first | rw [c_seq] | simp -dsimp only [↓RE,RU,RL,forall_const,implies_true,Nat.reduceLeDiff,Nat.reduceLT,pureOp,binPure,intBin,strBin,eqPure,isConstO,lenPure,resK,endV,yieldE,↓reduceIte,Nat.reduceEqDiff,reduceCtorEq,Nat.reduceAdd,Nat.reduceMul,Int.reduceLT,Int.reduceLE,Int.reduceToNat,Int.reduceAdd,ne_eq,decide_true,decide_false,tf58, he1])
  have ho1 : ∀ x ∈ L, x.Ok w1 := fun x hx => (ho x hx).grow g1
  have hap1 : ∀ x ∈ L, 0 < x.s.n → ∀ q, fpA x.s.A q → ¬ fpA A1 q := fun x hx h0 q hq e => by have := (ho x hx).lt h0 q hq; have := hF1 q e; omega
  refine sortw_ok hf hc hL1 ho1 hap1 (by omega) (fun w2 Z hZ hk2 k2 hL2 => ?_)
  have hZl : Z.length = n := by rw [← hk2.1]; exact hl
  have g2 : Grow w w2 := g1.above k2 (fun q hq e => by have := hF1 q e; omega)
  have hoZ : ∀ x ∈ Z, x.Ok w2 := fun x hx => (ho1 x (hk2.symm.mem hc hx)).keep0 k2 (hap1 x (hk2.symm.mem hc hx))
  have hlast := lastK_load hc hZ hk2.symm
  repeat (first | rw [c_seq] | simp -dsimp only [↓RE,RU,RL,forall_const,implies_true,Nat.reduceLeDiff,Nat.reduceLT,pureOp,binPure,intBin,strBin,eqPure,isConstO,lenPure,resK,endV,yieldE,↓reduceIte,Nat.reduceEqDiff,reduceCtorEq,Nat.reduceAdd,Nat.reduceMul,Int.reduceLT,Int.reduceLE,Int.reduceToNat,Int.reduceAdd,ne_eq,decide_true,decide_false,tf58, he1])
  refine wpLoop_intro (fun e' w' => Grow w2 w' ∧ (e' 1 = .func (.func f) #[] #[] ∧ e' 5 = .slice A1 n c1 ∧ e' 14 = .slice A1 n c1 ∧ e' 15 = .int .i64 (n : Int)) ∧ ∃ (k : Nat) (Out : List WrV) (vo : Value), k ≤ n ∧ e' 16 = .int .i64 (k : Int) ∧ e' 6 = vo ∧ Out ++ lastK cf (Z.drop k) = lastK cf Z ∧ Out.length ≤ k ∧ LRow w' 60 6 vo Out.length (Out.flatMap WrV.cells) ∧ (∀ q, fpV vo q → w2.heap.size ≤ q))
    (fun e' _ => n - (envInt (e' 16)).toNat) ⟨Keep.refl _ _, ⟨?_, ?_, ?_, ?_⟩, 0, [], .slice none 0 0, Nat.zero_le _, ?_, ?_, by rw [List.drop_zero]; rfl, Nat.le_refl _, LRow.nil _ _ _, fun q hq => (fpV_none _ hq).elim⟩ ?_
  · simp -dsimp only [↓RE,RU,RL,↓reduceIte,Nat.reduceEqDiff,reduceCtorEq,decide_true,decide_false, he1]
  · simp -dsimp only [↓RE,RU,RL,↓reduceIte,Nat.reduceEqDiff,reduceCtorEq,decide_true,decide_false, he1]
  · simp -dsimp only [↓RE,RU,RL,↓reduceIte,Nat.reduceEqDiff,reduceCtorEq,decide_true,decide_false, he1]
  · simp -dsimp only [↓RE,RU,RL,↓reduceIte,Nat.reduceEqDiff,reduceCtorEq,decide_true,decide_false, he1]
  · simp -dsimp only [↓RE,RU,RL,↓reduceIte,Nat.reduceEqDiff,reduceCtorEq,decide_true,decide_false, Int.cast_ofNat_Int]
  · simp -dsimp only [↓RE,RU,RL,↓reduceIte,Nat.reduceEqDiff,reduceCtorEq,decide_true,decide_false, he1]
  clear he0 he1 e
  rintro e wz ⟨gz, ⟨he1, he5, he14, he15⟩, k, Out, vo, hk, he16, he6, hout, hol, hO, hF⟩
  rcases Nat.lt_or_ge k n with hlt | hge
  · have hd : decide ((k : Int) < (n : Int)) = true := decide_eq_true (by omega)
    have hmu : (envInt (e 16)).toNat = k := by rw [he16]; exact Int.toNat_natCast k
    have v1 : IntKind.i64.wrap ((k : Int) + 1) = ((k + 1 : Nat) : Int) := by rw [wrap_i64_in (by omega) (by omega)]; omega
    have hd1 := lastK_drop (cf := cf) (Z := Z) (k := k) (by omega)
    have hzk := getD_some (l := Z) (k := k) (by omega)
    have hxm : Z.getD k w00 ∈ Z := getD_mem (by omega)
    obtain ⟨ad, rfl⟩ : ∃ ad, A1 = some ad := by
      obtain ⟨ad, e, _⟩ := hL2.rd.2 (by omega)
      exact ⟨ad, e⟩
    have hLz := hL2.grow gz
    repeat (first | rw [c_seq] | simp -dsimp only [↓RE,RU,RL,forall_const,implies_true,Nat.reduceLeDiff,Nat.reduceLT,pureOp,binPure,intBin,strBin,eqPure,isConstO,lenPure,resK,endV,yieldE,↓reduceIte,Nat.reduceEqDiff,reduceCtorEq,Nat.reduceAdd,Nat.reduceMul,Int.reduceLT,Int.reduceLE,Int.reduceToNat,Int.reduceAdd,ne_eq,decide_true,decide_false,tf58, he14, he15, he16, hd])
    refine ⟨⟨by omega, by omega⟩, hLz.elem wcells_len (by omega) hzk ?_⟩
    repeat (first | rw [c_seq] | simp -dsimp only [↓RE,RU,RL,forall_const,implies_true,Nat.reduceLeDiff,Nat.reduceLT,pureOp,binPure,intBin,strBin,eqPure,isConstO,lenPure,resK,endV,yieldE,↓reduceIte,Nat.reduceEqDiff,reduceCtorEq,Nat.reduceAdd,Nat.reduceMul,Int.reduceLT,Int.reduceLE,Int.reduceToNat,Int.reduceAdd,ne_eq,decide_true,decide_false,tf58, he16])
    refine ⟨rfl, newN rfl (wcells_one _) (fun w4 hb4 g4 => ?_)⟩
    generalize wz.heap.size = b at hb4
    refine os_gen (fun e' => (e' 1 = .func (.func f) #[] #[] ∧ e' 5 = .slice (some ad) n c1 ∧ e' 14 = .slice (some ad) n c1 ∧ e' 15 = .int .i64 (n : Int)) ∧ e' 16 = .int .i64 (k : Int) ∧ e' 6 = vo ∧ e' 7 = .int .i64 (k : Int) ∧ e' 8 = .pointer (some ⟨b, 0, none⟩)) ⟨⟨?_, ?_, ?_, ?_⟩, ?_, ?_, ?_, ?_⟩ ?_
    · simp -dsimp only [↓RE,RU,RL,↓reduceIte,Nat.reduceEqDiff,reduceCtorEq,decide_true,decide_false, he1]
    · simp -dsimp only [↓RE,RU,RL,↓reduceIte,Nat.reduceEqDiff,reduceCtorEq,decide_true,decide_false, he5]
    · simp -dsimp only [↓RE,RU,RL,↓reduceIte,Nat.reduceEqDiff,reduceCtorEq,decide_true,decide_false, he14]
    · simp -dsimp only [↓RE,RU,RL,↓reduceIte,Nat.reduceEqDiff,reduceCtorEq,decide_true,decide_false, he15]
    · simp -dsimp only [↓RE,RU,RL,↓reduceIte,Nat.reduceEqDiff,reduceCtorEq,decide_true,decide_false, he16]
    · simp -dsimp only [↓RE,RU,RL,↓reduceIte,Nat.reduceEqDiff,reduceCtorEq,decide_true,decide_false, he6]
    · simp -dsimp only [↓RE,RU,RL,↓reduceIte,Nat.reduceEqDiff,reduceCtorEq,decide_true,decide_false, he16]
    · simp -dsimp only [↓RE,RU,RL,↓reduceIte,Nat.reduceEqDiff,reduceCtorEq,decide_true,decide_false, he16]
    clear he1 he5 he14 he15 he16 he6
    rintro e1 ⟨⟨he1, he5, he14, he15⟩, he16, he6, he7, he8⟩
    have gz4 := gz.trans g4
    have hO4 := hO.grow g4
    have hx4 : ∀ w', Grow w4 w' → ∀ (j : Nat) v, (Z.getD k w00).cells[j]? = some v → w'.cell? ((⟨b, 0, none⟩ : Addr).add j) = some v := fun w' g j v hv => by rw [add_lit', Nat.zero_add, (hb4.grow g).cell]; exact hv
    generalize hxg : Z.getD k w00 = x at hd1 hb4 hxm hx4 hzk
    have hxl : x.cells.length = 6 := rfl
    have hfill : putAt #[.string .empty, .slice none 0 0, .string .empty, .int .i64 0, .int .u8 0, .int .i64 0] 0 x.cells = x.cells.toArray := rfl
    have hc66 : (6 = 6 ∧ 6 ≤ 6) := ⟨rfl, Nat.le_refl _⟩
    by_cases hend : k + 1 = n
    · have d2 : decide (((k + 1 : Nat) : Int) = (n : Int)) = true := decide_eq_true (by omega)
      rw [if_neg (fun q => by omega)] at hd1
      repeat (first | rw [c_seq] | simp -dsimp only [↓RE,RU,RL,forall_const,implies_true,Nat.reduceLeDiff,Nat.reduceLT,pureOp,binPure,intBin,strBin,eqPure,isConstO,lenPure,resK,endV,yieldE,↓reduceIte,Nat.reduceEqDiff,reduceCtorEq,Nat.reduceAdd,Nat.reduceMul,Int.reduceLT,Int.reduceLE,Int.reduceToNat,Int.reduceAdd,ne_eq,decide_true,decide_false,tf58, he7])
      refine wpDraw_by (Grow w4 ·) [(0, true), (1, true), (2, true), (3, true), (4, true), (5, true), (6, true), (7, true), (8, true), (9, true), (10, true), (11, true), (12, true), (13, false), (14, true), (15, true)] (by kernel_rfl) (Grow.drew w4) ?_
      simp only [planL, List.getElem?_toArray, List.getElem?_cons_zero, List.getElem?_cons_succ, Option.toList_some, List.map_cons, List.map_nil, List.cons_append, List.nil_append]
      repeat (first | rw [c_seq] | simp -dsimp only [↓RE,RU,RL,forall_const,implies_true,Nat.reduceLeDiff,Nat.reduceLT,pureOp,binPure,intBin,strBin,eqPure,isConstO,lenPure,resK,endV,yieldE,↓reduceIte,Nat.reduceEqDiff,reduceCtorEq,Nat.reduceAdd,Nat.reduceMul,Int.reduceLT,Int.reduceLE,Int.reduceToNat,Int.reduceAdd,ne_eq,decide_true,decide_false,tf58, he5, he7, v1, d2, undef])
      refine ⟨Grow.drew w4, ?_⟩
      repeat (first | rw [c_seq] | simp -dsimp only [↓RE,RU,RL,forall_const,implies_true,Nat.reduceLeDiff,Nat.reduceLT,pureOp,binPure,intBin,strBin,eqPure,isConstO,lenPure,resK,endV,yieldE,↓reduceIte,Nat.reduceEqDiff,reduceCtorEq,Nat.reduceAdd,Nat.reduceMul,Int.reduceLT,Int.reduceLE,Int.reduceToNat,Int.reduceAdd,ne_eq,decide_true,decide_false,tf58, he6, he8])
      refine ⟨x.cells, rfl, hx4 _ (Grow.drew w4), ?_⟩
      repeat (first | rw [c_seq] | simp -dsimp only [↓RE,RU,RL,forall_const,implies_true,Nat.reduceLeDiff,Nat.reduceLT,pureOp,binPure,intBin,strBin,eqPure,isConstO,lenPure,resK,endV,yieldE,↓reduceIte,Nat.reduceEqDiff,reduceCtorEq,Nat.reduceAdd,Nat.reduceMul,Int.reduceLT,Int.reduceLE,Int.reduceToNat,Int.reduceAdd,ne_eq,decide_true,decide_false,tf58, he6, hxl, hfill, hc66, and_self, Nat.le_refl])
      have ga := Grow.alloc w4.drew (.cells x.cells.toArray 60)
      have gG := (gz4.trans (Grow.drew w4)).trans ga
      refine app_w (hO4.grow ((Grow.drew w4).trans ga)) (one_row w4.drew x) (by omega) (fun A' c' w7 hL7 k7 f7 => ?_)
      have hs7 := gG.size
      have g7 : Grow w2 w7 := gG.above k7 (fun q hq e => by have := hF q e; omega)
      repeat (first | rw [c_seq] | simp -dsimp only [↓RE,RU,RL,forall_const,implies_true,Nat.reduceLeDiff,Nat.reduceLT,pureOp,binPure,intBin,strBin,eqPure,isConstO,lenPure,resK,endV,yieldE,↓reduceIte,Nat.reduceEqDiff,reduceCtorEq,Nat.reduceAdd,Nat.reduceMul,Int.reduceLT,Int.reduceLE,Int.reduceToNat,Int.reduceAdd,ne_eq,decide_true,decide_false,tf58, he16, v1])
      refine hold_intro ⟨⟨g7, ⟨?_, ?_, ?_, ?_⟩, k + 1, Out ++ [x], .slice A' (Out.length + 1) c', hlt, ?_, ?_, ?_, ?_, hL7, fun q hq => ?_⟩, ?_⟩
      · simp -dsimp only [↓RE,RU,RL,↓reduceIte,Nat.reduceEqDiff,reduceCtorEq,decide_true,decide_false, he1]
      · simp -dsimp only [↓RE,RU,RL,↓reduceIte,Nat.reduceEqDiff,reduceCtorEq,decide_true,decide_false, he5]
      · simp -dsimp only [↓RE,RU,RL,↓reduceIte,Nat.reduceEqDiff,reduceCtorEq,decide_true,decide_false, he14]
      · simp -dsimp only [↓RE,RU,RL,↓reduceIte,Nat.reduceEqDiff,reduceCtorEq,decide_true,decide_false, he15]
      · simp -dsimp only [↓RE,RU,RL,↓reduceIte,Nat.reduceEqDiff,reduceCtorEq,decide_true,decide_false, he16, v1]
      · simp -dsimp only [↓RE,RU,RL,↓reduceIte,Nat.reduceEqDiff,reduceCtorEq,decide_true,decide_false, he6]
      · rw [← hout, hd1]; simp
      · simp; omega
      · rcases f7 q hq with e | e
        · exact hF q e
        · omega
      · rw [hmu]
        simp -dsimp only [↓RE,↓c_seq,RU,RL,forall_const,implies_true,Nat.reduceLeDiff,Nat.reduceLT,pureOp,binPure,intBin,strBin,eqPure,isConstO,lenPure,resK,endV,yieldE,↓reduceIte,Nat.reduceEqDiff,reduceCtorEq,Nat.reduceAdd,Nat.reduceMul,Int.reduceLT,Int.reduceLE,Int.reduceToNat,Int.reduceAdd,ne_eq,decide_true,decide_false,tf58, he16, v1, envInt, Int.toNat_natCast]
        omega
    · have d2 : decide (((k + 1 : Nat) : Int) = (n : Int)) = false := decide_eq_false (by omega)
      obtain ⟨y, hyg⟩ : ∃ y, y = Z.getD (k + 1) w00 := ⟨_, rfl⟩
      have hyk := getD_some (l := Z) (k := k + 1) (by omega)
      have hym : y ∈ Z := by rw [hyg]; exact getD_mem (by omega)
      rw [← hyg] at hyk hd1
      have hLz4 := hL2.grow gz4
      have hy4 : ∀ w', Grow w4 w' → ∀ (j : Nat) v, y.cells[j]? = some v → w'.cell? ((ad.add ((k + 1) * 6)).add j) = some v := fun w' g j v hv => by
        obtain ⟨_, ad', hA, hcc⟩ := (hLz4.grow g).rd.flat (size := 6) (fun a _ => wcells_len a) hyk (by omega)
        injection hA with hA
        subst hA
        exact hcc j v hv
      repeat (first | rw [c_seq] | simp -dsimp only [↓RE,RU,RL,forall_const,implies_true,Nat.reduceLeDiff,Nat.reduceLT,pureOp,binPure,intBin,strBin,eqPure,isConstO,lenPure,resK,endV,yieldE,↓reduceIte,Nat.reduceEqDiff,reduceCtorEq,Nat.reduceAdd,Nat.reduceMul,Int.reduceLT,Int.reduceLE,Int.reduceToNat,Int.reduceAdd,ne_eq,decide_true,decide_false,tf58, he7])
      refine wpDraw_by (Grow w4 ·) [(0, true), (1, true), (2, true), (3, true), (4, true), (5, true), (6, true), (7, true), (8, true), (9, true), (10, true), (11, true), (12, true), (13, false), (14, true), (15, true)] (by kernel_rfl) (Grow.drew w4) ?_
      simp only [planL, List.getElem?_toArray, List.getElem?_cons_zero, List.getElem?_cons_succ, Option.toList_some, List.map_cons, List.map_nil, List.cons_append, List.nil_append]
      repeat (first | rw [c_seq] | simp -dsimp only [↓RE,RU,RL,forall_const,implies_true,Nat.reduceLeDiff,Nat.reduceLT,pureOp,binPure,intBin,strBin,eqPure,isConstO,lenPure,resK,endV,yieldE,↓reduceIte,Nat.reduceEqDiff,reduceCtorEq,Nat.reduceAdd,Nat.reduceMul,Int.reduceLT,Int.reduceLE,Int.reduceToNat,Int.reduceAdd,ne_eq,decide_true,decide_false,tf58, he1, he5, he7, he8, v1, d2, Int.toNat_natCast])
      refine ⟨x.cells, rfl, hx4, ?_⟩
      repeat (first | rw [c_seq] | simp -dsimp only [↓RE,RU,RL,forall_const,implies_true,Nat.reduceLeDiff,Nat.reduceLT,pureOp,binPure,intBin,strBin,eqPure,isConstO,lenPure,resK,endV,yieldE,↓reduceIte,Nat.reduceEqDiff,reduceCtorEq,Nat.reduceAdd,Nat.reduceMul,Int.reduceLT,Int.reduceLE,Int.reduceToNat,Int.reduceAdd,ne_eq,decide_true,decide_false,tf58, he1, he5, he7, he8, v1, d2, Int.toNat_natCast])
      refine ⟨⟨by omega, by omega⟩, y.cells, rfl, hy4, ?_⟩
      repeat (first | rw [c_seq] | simp -dsimp only [↓RE,RU,RL,forall_const,implies_true,Nat.reduceLeDiff,Nat.reduceLT,pureOp,binPure,intBin,strBin,eqPure,isConstO,lenPure,resK,endV,yieldE,↓reduceIte,Nat.reduceEqDiff,reduceCtorEq,Nat.reduceAdd,Nat.reduceMul,Int.reduceLT,Int.reduceLE,Int.reduceToNat,Int.reduceAdd,ne_eq,decide_true,decide_false,tf58, he1, hcall])
      have g5 := gz4.trans (Grow.drew w4)
      refine hf.cmp w4.drew x y ((hoZ x hxm).grow g5) ((hoZ y hym).grow g5) _ (fun w6 g6 => ?_)
      refine ⟨(Grow.drew w4).trans g6, ?_⟩
      by_cases hz : cf x y = 0
      · have hz' : decide (cf x y = 0) = true := decide_eq_true hz
        rw [if_pos ⟨by omega, hz⟩] at hd1
        rw [hd1] at hout
        repeat (first | rw [c_seq] | simp -dsimp only [↓RE,RU,RL,forall_const,implies_true,Nat.reduceLeDiff,Nat.reduceLT,pureOp,binPure,intBin,strBin,eqPure,isConstO,lenPure,resK,endV,yieldE,↓reduceIte,Nat.reduceEqDiff,reduceCtorEq,Nat.reduceAdd,Nat.reduceMul,Int.reduceLT,Int.reduceLE,Int.reduceToNat,Int.reduceAdd,ne_eq,decide_true,decide_false,tf58, hz', Bool.not_true, he16, v1])
        refine hold_intro ⟨⟨g5.trans g6, ⟨?_, ?_, ?_, ?_⟩, k + 1, Out, vo, hlt, ?_, ?_, hout, by omega, hO4.grow ((Grow.drew w4).trans g6), hF⟩, ?_⟩
        · simp -dsimp only [↓RE,RU,RL,↓reduceIte,Nat.reduceEqDiff,reduceCtorEq,decide_true,decide_false, he1]
        · simp -dsimp only [↓RE,RU,RL,↓reduceIte,Nat.reduceEqDiff,reduceCtorEq,decide_true,decide_false, he5]
        · simp -dsimp only [↓RE,RU,RL,↓reduceIte,Nat.reduceEqDiff,reduceCtorEq,decide_true,decide_false, he14]
        · simp -dsimp only [↓RE,RU,RL,↓reduceIte,Nat.reduceEqDiff,reduceCtorEq,decide_true,decide_false, he15]
        · simp -dsimp only [↓RE,RU,RL,↓reduceIte,Nat.reduceEqDiff,reduceCtorEq,decide_true,decide_false, he16, v1]
        · simp -dsimp only [↓RE,RU,RL,↓reduceIte,Nat.reduceEqDiff,reduceCtorEq,decide_true,decide_false, he6]
        · rw [hmu]
          simp -dsimp only [↓RE,↓c_seq,RU,RL,forall_const,implies_true,Nat.reduceLeDiff,Nat.reduceLT,pureOp,binPure,intBin,strBin,eqPure,isConstO,lenPure,resK,endV,yieldE,↓reduceIte,Nat.reduceEqDiff,reduceCtorEq,Nat.reduceAdd,Nat.reduceMul,Int.reduceLT,Int.reduceLE,Int.reduceToNat,Int.reduceAdd,ne_eq,decide_true,decide_false,tf58, he16, v1, envInt, Int.toNat_natCast]
          omega
      · have hz' : decide (cf x y = 0) = false := decide_eq_false hz
        rw [if_neg (fun q => hz q.2)] at hd1
        repeat (first | rw [c_seq] | simp -dsimp only [↓RE,RU,RL,forall_const,implies_true,Nat.reduceLeDiff,Nat.reduceLT,pureOp,binPure,intBin,strBin,eqPure,isConstO,lenPure,resK,endV,yieldE,↓reduceIte,Nat.reduceEqDiff,reduceCtorEq,Nat.reduceAdd,Nat.reduceMul,Int.reduceLT,Int.reduceLE,Int.reduceToNat,Int.reduceAdd,ne_eq,decide_true,decide_false,tf58, hz', Bool.not_false, he6, he8])
        refine ⟨x.cells, rfl, hx4 _ ((Grow.drew w4).trans g6), ?_⟩
        repeat (first | rw [c_seq] | simp -dsimp only [↓RE,RU,RL,forall_const,implies_true,Nat.reduceLeDiff,Nat.reduceLT,pureOp,binPure,intBin,strBin,eqPure,isConstO,lenPure,resK,endV,yieldE,↓reduceIte,Nat.reduceEqDiff,reduceCtorEq,Nat.reduceAdd,Nat.reduceMul,Int.reduceLT,Int.reduceLE,Int.reduceToNat,Int.reduceAdd,ne_eq,decide_true,decide_false,tf58, he6, hxl, hfill, hc66, and_self, Nat.le_refl])
        have ga := Grow.alloc w6 (.cells x.cells.toArray 60)
        have gG := (g5.trans g6).trans ga
        refine app_w (hO4.grow (((Grow.drew w4).trans g6).trans ga)) (one_row w6 x) (by omega) (fun A' c' w7 hL7 k7 f7 => ?_)
        have hs7 := gG.size
        have g7 : Grow w2 w7 := gG.above k7 (fun q hq e => by have := hF q e; omega)
        repeat (first | rw [c_seq] | simp -dsimp only [↓RE,RU,RL,forall_const,implies_true,Nat.reduceLeDiff,Nat.reduceLT,pureOp,binPure,intBin,strBin,eqPure,isConstO,lenPure,resK,endV,yieldE,↓reduceIte,Nat.reduceEqDiff,reduceCtorEq,Nat.reduceAdd,Nat.reduceMul,Int.reduceLT,Int.reduceLE,Int.reduceToNat,Int.reduceAdd,ne_eq,decide_true,decide_false,tf58, he16, v1])
        refine hold_intro ⟨⟨g7, ⟨?_, ?_, ?_, ?_⟩, k + 1, Out ++ [x], .slice A' (Out.length + 1) c', hlt, ?_, ?_, ?_, ?_, hL7, fun q hq => ?_⟩, ?_⟩
        · simp -dsimp only [↓RE,RU,RL,↓reduceIte,Nat.reduceEqDiff,reduceCtorEq,decide_true,decide_false, he1]
        · simp -dsimp only [↓RE,RU,RL,↓reduceIte,Nat.reduceEqDiff,reduceCtorEq,decide_true,decide_false, he5]
        · simp -dsimp only [↓RE,RU,RL,↓reduceIte,Nat.reduceEqDiff,reduceCtorEq,decide_true,decide_false, he14]
        · simp -dsimp only [↓RE,RU,RL,↓reduceIte,Nat.reduceEqDiff,reduceCtorEq,decide_true,decide_false, he15]
        · simp -dsimp only [↓RE,RU,RL,↓reduceIte,Nat.reduceEqDiff,reduceCtorEq,decide_true,decide_false, he16, v1]
        · simp -dsimp only [↓RE,RU,RL,↓reduceIte,Nat.reduceEqDiff,reduceCtorEq,decide_true,decide_false, he6]
        · rw [← hout, hd1]; simp
        · simp; omega
        · rcases f7 q hq with e | e
          · exact hF q e
          · omega
        · rw [hmu]
          simp -dsimp only [↓RE,↓c_seq,RU,RL,forall_const,implies_true,Nat.reduceLeDiff,Nat.reduceLT,pureOp,binPure,intBin,strBin,eqPure,isConstO,lenPure,resK,endV,yieldE,↓reduceIte,Nat.reduceEqDiff,reduceCtorEq,Nat.reduceAdd,Nat.reduceMul,Int.reduceLT,Int.reduceLE,Int.reduceToNat,Int.reduceAdd,ne_eq,decide_true,decide_false,tf58, he16, v1, envInt, Int.toNat_natCast]
          omega
  · have hd : decide ((k : Int) < (n : Int)) = false := decide_eq_false (by omega)
    rw [List.drop_eq_nil_of_le (by omega)] at hout
    have hout : Out = gLoad cf [] L := by rw [← hlast, ← hout]; simp [lastK]
    subst hout
    repeat (first | rw [c_seq] | simp -dsimp only [↓RE,RU,RL,forall_const,implies_true,Nat.reduceLeDiff,Nat.reduceLT,pureOp,binPure,intBin,strBin,eqPure,isConstO,lenPure,resK,endV,yieldE,↓reduceIte,Nat.reduceEqDiff,reduceCtorEq,Nat.reduceAdd,Nat.reduceMul,Int.reduceLT,Int.reduceLE,Int.reduceToNat,Int.reduceAdd,ne_eq,decide_true,decide_false,tf58, he15, he16, he6, hd])
    exact hR wz vo hO (g2.trans gz) (fun q hq => by have := hF q hq; have := g2.size; omega)

end Go.Proofs.YtljgnocpijniiaaGreatDoor

namespace Go.Proofs.YtljgnocpijniiaaGreatDoor
open Go

/-- a write with another row for its tags. -/
def WrV.at_ (x : WrV) (A : Option Addr) (c : Nat) : WrV := ⟨⟨x.s.s, A, x.s.n, c⟩, x.x⟩
abbrev TRow (w : World) (x : WrV) : Prop := LRow w 115 2 (.slice x.s.A x.s.n x.s.c) x.s.n (x.s.s.tags.flatMap tcells)
/-- no two have tags in one place. -/
abbrev ApartW (D : List WrV) : Prop := D.Pairwise (fun a b => ∀ q, fpA a.s.A q → ¬ fpA b.s.A q)
theorem TRow.keep {F : Nat → Prop} {w w' : World} {x : WrV} (h : TRow w x) (k : Keep F w w') (hF : ∀ q, fpA x.s.A q → ¬ F q) : TRow w' x := LRow.keep h k (fun q hq => hF q ((fpV_fpA _ _ _ _).1 hq))
set_option maxHeartbeats 1000000 in
theorem own_ok {w : World} {A : Option Addr} {n c : Nat} {L : List WrV} (h : LRow w 60 6 (.slice A n c) n (L.flatMap WrV.cells)) (ho : ∀ x ∈ L, x.Ok w) (hap : ∀ x ∈ L, 0 < x.s.n → ∀ q, fpA x.s.A q → ¬ fpA A q) (hn : n ≤ 1000000000000) {R : VWK}
    (hR : ∀ w' D, D.map WrV.wr = L.map WrV.wr → LRow w' 60 6 (.slice A n c) n (D.flatMap WrV.cells) → (∀ x ∈ D, x.Ok w' ∧ TRow w' x) → (∀ x ∈ D, ∀ q, fpA x.s.A q → w.heap.size ≤ q) → ApartW D → Keep (fun q => fpA A q) w w' → R (.slice A n c) w') :
    CallsV Tryz.prog 57 [.slice A n c] w R := by
  have hl : L.length = n := by
    have h1 := h.1
    rw [flat_len WrV.cells (size := 6) L (fun _ _ => rfl)] at h1
    omega
  have hAlt : ∀ q, fpA A q → q < w.heap.size := fun q hq => h.lt q ((fpV_fpA _ _ _ _).2 hq)
  refine calls_of_wpC mixed Tryz.func57 rfl (by kernel_rfl) ?_
  intro e he
  have he0 := he 0
  simp only [List.getD_cons_zero, List.getD_cons_succ] at he0
  clear he
  repeat (first | rw [c_seq] | simp -dsimp only [↓RE,RU,RL,Nat.reduceLeDiff,Nat.reduceLT,pureOp,binPure,intBin,strBin,lenPure,resK,endV,↓reduceIte,Nat.reduceEqDiff,reduceCtorEq,Nat.reduceAdd,Nat.reduceMul,Int.reduceLT,Int.reduceLE,Int.reduceToNat,Int.reduceAdd,decide_true,decide_false,tf57, he0])
  refine wpLoop_intro (fun e' w' => (e' 0 = .slice A n c ∧ e' 5 = .int .i64 (n : Int)) ∧ Keep (fun q => fpA A q) w w' ∧ ∃ (k : Nat) (D : List WrV), k ≤ n ∧ e' 6 = .int .i64 (k : Int) ∧ D.length = k ∧ D.map WrV.wr = (L.take k).map WrV.wr ∧ LRow w' 60 6 (.slice A n c) n ((D ++ L.drop k).flatMap WrV.cells) ∧ (∀ x ∈ D, x.Ok w' ∧ TRow w' x) ∧ (∀ x ∈ D, ∀ q, fpA x.s.A q → w.heap.size ≤ q ∧ q < w'.heap.size) ∧ ApartW D)
    (fun e' _ => n - (envInt (e' 6)).toNat) ⟨⟨?_, ?_⟩, Keep.refl _ _, 0, [], Nat.zero_le _, ?_, rfl, rfl, by simpa using h, fun x hx => (by cases hx), fun x hx => (by cases hx), List.Pairwise.nil⟩ ?_
  · simp -dsimp only [↓RE,RU,RL,↓reduceIte,Nat.reduceEqDiff,reduceCtorEq,decide_true,decide_false, he0]
  · simp -dsimp only [↓RE,RU,RL,↓reduceIte,Nat.reduceEqDiff,reduceCtorEq,decide_true,decide_false, he0]
  · simp -dsimp only [↓RE,RU,RL,↓reduceIte,Nat.reduceEqDiff,reduceCtorEq,decide_true,decide_false, Int.cast_ofNat_Int]
  clear he0 e
  rintro e wz ⟨⟨he0, he5⟩, kz, k, D, hk, he6, hDl, hD, hrow, hT, hF, hP⟩
  rcases Nat.lt_or_ge k n with hlt | hge
  · have hd : decide ((k : Int) < (n : Int)) = true := decide_eq_true (by omega)
    have hmu : (envInt (e 6)).toNat = k := by rw [he6]; exact Int.toNat_natCast k
    have v1 : IntKind.i64.wrap ((k : Int) + 1) = ((k + 1 : Nat) : Int) := by rw [wrap_i64_in (by omega) (by omega)]; omega
    obtain ⟨x, hx⟩ : ∃ x, x = L[k]'(by omega) := ⟨_, rfl⟩
    have hxm : x ∈ L := hx ▸ List.getElem_mem _
    have eD : L.drop k = x :: L.drop (k + 1) := by rw [List.drop_eq_getElem_cons (by omega), ← hx]
    have eT : L.take (k + 1) = L.take k ++ [x] := by rw [List.take_succ_eq_append_getElem (by omega), ← hx]
    have hxk : (D ++ L.drop k)[k]? = some x := by rw [eD, List.getElem?_append_right (by omega), hDl]; simp
    have hxo : x.Ok wz := (ho x hxm).keep0 kz (hap x hxm)
    have hll : (D ++ L.drop k).length = n := by rw [List.length_append, List.length_drop]; omega
    obtain ⟨ad, rfl⟩ : ∃ ad, A = some ad := by
      obtain ⟨ad, e, _⟩ := hrow.rd.2 (by omega)
      exact ⟨ad, e⟩
    have hc1 : wz.cell? ((ad.add (k * 6)).add 1) = some (.slice x.s.A x.s.n x.s.c) := by
      obtain ⟨_, ad', hA, hcc⟩ := hrow.rd.flat (size := 6) (fun a _ => wcells_len a) hxk (by omega)
      injection hA with hA
      subst hA
      exact hcc 1 _ rfl
    repeat (first | rw [c_seq] | simp -dsimp only [↓RE,RU,RL,Nat.reduceLeDiff,Nat.reduceLT,pureOp,binPure,intBin,strBin,lenPure,resK,endV,↓reduceIte,Nat.reduceEqDiff,reduceCtorEq,Nat.reduceAdd,Nat.reduceMul,Int.reduceLT,Int.reduceLE,Int.reduceToNat,Int.reduceAdd,decide_true,decide_false,tf57, he0, he5, he6, hd, hc1, add_zero', Int.toNat_natCast])
    refine ⟨⟨by omega, by omega⟩, ?_⟩
    repeat (first | rw [c_seq] | simp -dsimp only [↓RE,RU,RL,Nat.reduceLeDiff,Nat.reduceLT,pureOp,binPure,intBin,strBin,lenPure,resK,endV,↓reduceIte,Nat.reduceEqDiff,reduceCtorEq,Nat.reduceAdd,Nat.reduceMul,Int.reduceLT,Int.reduceLE,Int.reduceToNat,Int.reduceAdd,decide_true,decide_false,tf57, hc1, add_zero'])
    refine cloneT_ok hxo.1.1 (tcells_one _) hxo.1.2 (fun w5 A5 c5 hL5 g5 hF5 _ => ?_)
    repeat (first | rw [c_seq] | simp -dsimp only [↓RE,RU,RL,Nat.reduceLeDiff,Nat.reduceLT,pureOp,binPure,intBin,strBin,lenPure,resK,endV,↓reduceIte,Nat.reduceEqDiff,reduceCtorEq,Nat.reduceAdd,Nat.reduceMul,Int.reduceLT,Int.reduceLE,Int.reduceToNat,Int.reduceAdd,decide_true,decide_false,tf57, he0, he6, add_zero', Int.toNat_natCast])
    refine ⟨⟨by omega, by omega⟩, LRow.stCell wcells_len (hrow.grow g5) hll hlt hxk (o := 1) (by omega) (u := .slice A5 x.s.n c5) (x' := x.at_ A5 c5) rfl (fun w6 hr6 k6 => ?_)⟩
    have kad : Keep (fun q => fpA (some ad) q) w5 w6 := k6.mono (fun q _ e => ⟨ad, rfl, e⟩)
    have k6' : Keep (fun q => fpA (some ad) q) w w6 := (kz.then_grow g5).trans kad (fun _ _ q => q) (fun _ _ q => q)
    have hset : (D ++ L.drop k).set k (x.at_ A5 c5) = (D ++ [x.at_ A5 c5]) ++ L.drop (k + 1) := by
      rw [eD, List.set_append_right _ _ (by omega), hDl, Nat.sub_self, List.set_cons_zero]; simp
    rw [hset] at hr6
    have hsz := kz.size
    have hs5 := g5.size
    have hs6 := k6.size
    have hadlt := hAlt ad.block ⟨ad, rfl, rfl⟩
    have hA5 : ∀ q, fpA A5 q → ¬ q = ad.block := fun q hq e => by have := hF5 q hq; omega
    have hnew : TRow w6 (x.at_ A5 c5) := LRow.keep hL5 k6 (fun q hq e => hA5 q ((fpV_fpA _ _ _ _).1 hq) e)
    have hlt5 : ∀ q, fpA A5 q → q < w5.heap.size := fun q hq => hL5.lt q ((fpV_fpA _ _ _ _).2 hq)
    repeat (first | rw [c_seq] | simp -dsimp only [↓RE,RU,RL,Nat.reduceLeDiff,Nat.reduceLT,pureOp,binPure,intBin,strBin,lenPure,resK,endV,↓reduceIte,Nat.reduceEqDiff,reduceCtorEq,Nat.reduceAdd,Nat.reduceMul,Int.reduceLT,Int.reduceLE,Int.reduceToNat,Int.reduceAdd,decide_true,decide_false,tf57, he6, v1])
    refine hold_intro ⟨⟨⟨?_, ?_⟩, k6', k + 1, D ++ [x.at_ A5 c5], hlt, ?_, ?_, ?_, hr6, fun z hz => ?_, fun z hz q hq => ?_, ?_⟩, ?_⟩
    · simp -dsimp only [↓RE,RU,RL,↓reduceIte,Nat.reduceEqDiff,reduceCtorEq,decide_true,decide_false, he0]
    · simp -dsimp only [↓RE,RU,RL,↓reduceIte,Nat.reduceEqDiff,reduceCtorEq,decide_true,decide_false, he5]
    · simp -dsimp only [↓RE,RU,RL,↓reduceIte,Nat.reduceEqDiff,reduceCtorEq,decide_true,decide_false, he6, v1]
    · rw [List.length_append, hDl]; rfl
    · rw [List.map_append, hD, eT, List.map_append]; rfl
    · rcases List.mem_append.1 hz with hz | hz
      · have hap' : ∀ q, fpA z.s.A q → ¬ q = ad.block := fun q hq e => by have := (hF z hz q hq).1; omega
        exact ⟨((hT z hz).1.grow g5).keep0 k6 (fun _ => hap'), TRow.keep (LRow.grow (hT z hz).2 g5) k6 hap'⟩
      · rw [List.mem_singleton.1 hz]
        exact ⟨⟨⟨hnew.rd, hxo.1.2⟩, hxo.2⟩, hnew⟩
    · rcases List.mem_append.1 hz with hz | hz
      · have := hF z hz q hq; omega
      · rw [List.mem_singleton.1 hz] at hq
        have h1 := hF5 q hq
        have h2 := hlt5 q hq
        omega
    · refine List.pairwise_append.2 ⟨hP, List.pairwise_singleton _ _, fun a ha b hb q hq hq2 => ?_⟩
      rw [List.mem_singleton.1 hb] at hq2
      have h1 := hF5 q hq2
      have h2 := (hF a ha q hq).2
      omega
    · rw [hmu]
      simp -dsimp only [↓RE,↓c_seq,RU,RL,Nat.reduceLeDiff,Nat.reduceLT,pureOp,binPure,intBin,strBin,lenPure,resK,endV,↓reduceIte,Nat.reduceEqDiff,reduceCtorEq,Nat.reduceAdd,Nat.reduceMul,Int.reduceLT,Int.reduceLE,Int.reduceToNat,Int.reduceAdd,decide_true,decide_false,tf57, he6, v1, envInt, Int.toNat_natCast]
      omega
  · have hd : decide ((k : Int) < (n : Int)) = false := decide_eq_false (by omega)
    rw [List.take_of_length_le (by omega)] at hD
    rw [List.drop_eq_nil_of_le (by omega), List.append_nil] at hrow
    repeat (first | rw [c_seq] | simp -dsimp only [↓RE,RU,RL,Nat.reduceLeDiff,Nat.reduceLT,pureOp,binPure,intBin,strBin,lenPure,resK,endV,↓reduceIte,Nat.reduceEqDiff,reduceCtorEq,Nat.reduceAdd,Nat.reduceMul,Int.reduceLT,Int.reduceLE,Int.reduceToNat,Int.reduceAdd,decide_true,decide_false,tf57, he0, he5, he6, hd])
    exact hR wz D hD hrow hT (fun x hx q hq => (hF x hx q hq).1) hP kz

/-- writes that were put in order: in memory of their own. -/
structure OrdR (w0 w : World) (v : Value) (D : List WrV) (l : List Wr) : Prop where
  eq : D.map WrV.wr = l
  row : LRow w 60 6 v D.length (D.flatMap WrV.cells)
  ok : ∀ x ∈ D, x.Ok w ∧ TRow w x
  fresh : ∀ q, fpV v q → w0.heap.size ≤ q
  tfresh : ∀ x ∈ D, ∀ q, fpA x.s.A q → w0.heap.size ≤ q
  apart : ApartW D
theorem OrdR.grow {w0 w w' : World} {v : Value} {D : List WrV} {l : List Wr} (h : OrdR w0 w v D l) (g : Grow w w') : OrdR w0 w' v D l :=
  ⟨h.eq, h.row.grow g, fun x hx => ⟨(h.ok x hx).1.grow g, LRow.grow (h.ok x hx).2 g⟩, h.fresh, h.tfresh, h.apart⟩
/-- in order: of each series and time the last one. -/
def wOrd (l : List Wr) : List Wr := gLoad cmpW [] l
theorem wOrd_map (L : List WrV) : (gLoad cmpV [] L).map WrV.wr = wOrd (L.map WrV.wr) := gLoad_map WrV.wr (fun x y => rfl) L []
theorem wOrd_len (l : List Wr) : (wOrd l).length ≤ l.length := by have := gLoad_len (cf := cmpW) l []; rw [List.length_nil, Nat.zero_add] at this; exact this
theorem order_ok {w : World} {A : Option Addr} {n c : Nat} {L : List WrV} (h : Rd w A n 6 (L.flatMap WrV.cells)) (ho : ∀ x ∈ L, x.Ok w) (hn : n ≤ 100000000000) {R : VWK}
    (hR : ∀ w' v D, OrdR w w' v D (wOrd (L.map WrV.wr)) → Grow w w' → R v w') : CallsV Tryz.prog 27 [.slice A n c] w R := by
  have hl := h.wlen
  have hgl := gLoad_len (cf := cmpV) L []
  rw [List.length_nil, Nat.zero_add] at hgl
  refine calls_of_wpC mixed Tryz.func27 rfl (by kernel_rfl) ?_
  intro e he
  have he0 := he 0
  simp only [List.getD_cons_zero, List.getD_cons_succ] at he0
  clear he
  repeat (first | rw [c_seq] | simp -dsimp only [↓RE,RU,RL,Nat.reduceLeDiff,Nat.reduceLT,pureOp,resK,endV,↓reduceIte,Nat.reduceEqDiff,reduceCtorEq,Nat.reduceAdd,Nat.reduceMul,Int.reduceLT,Int.reduceLE,Int.reduceToNat,decide_true,decide_false,tf27, he0])
  refine sorted_ok cmpF_compare cmpV_cmp h ho hn (fun w1 v hv g1 hF => ?_)
  obtain ⟨A1, c1, rfl, _, _⟩ := hv.form
  have hmem : ∀ x ∈ gLoad cmpV [] L, x ∈ L := fun x hx => by
    rcases gLoad_mem hx with h | h
    · exact h
    · cases h
  repeat (first | rw [c_seq] | simp -dsimp only [↓RE,RU,RL,Nat.reduceLeDiff,Nat.reduceLT,pureOp,resK,endV,↓reduceIte,Nat.reduceEqDiff,reduceCtorEq,Nat.reduceAdd,Nat.reduceMul,Int.reduceLT,Int.reduceLE,Int.reduceToNat,decide_true,decide_false,tf27, he0])
  refine own_ok hv (fun x hx => (ho x (hmem x hx)).grow g1) (fun x hx h0 q hq e => ?_) (by omega) (fun w2 D hD hrow hT hF2 hP k2 => ?_)
  · have h1 := (ho x (hmem x hx)).lt h0 q hq
    have h2 := hF q ((fpV_fpA _ _ _ _).2 e)
    omega
  have hDl : D.length = (gLoad cmpV [] L).length := by have := congrArg List.length hD; simpa using this
  have hs1 := g1.size
  repeat (first | rw [c_seq] | simp -dsimp only [↓RE,RU,RL,Nat.reduceLeDiff,Nat.reduceLT,pureOp,resK,endV,↓reduceIte,Nat.reduceEqDiff,reduceCtorEq,Nat.reduceAdd,Nat.reduceMul,Int.reduceLT,Int.reduceLE,Int.reduceToNat,decide_true,decide_false,tf27, he0])
  refine hR w2 _ D ⟨by rw [hD, wOrd_map], by rw [hDl]; exact hrow, hT, hF, fun x hx q hq => by have := hF2 x hx q hq; omega, hP⟩ (g1.above k2 (fun q hq e => by have := hF q ((fpV_fpA _ _ _ _).2 e); omega))

end Go.Proofs.YtljgnocpijniiaaGreatDoor

namespace Go.Proofs.YtljgnocpijniiaaGreatDoor
open Go

theorem groww_ok {w : World} {k : Nat} (hk : k ≤ 1000000000000) {R : VWK}
    (h : ∀ w' v, LRow w' 60 6 v 0 [] → Grow w w' → (∀ q, fpV v q → w.heap.size ≤ q) → R v w') : CallsV Tryz.prog 120 [.slice none 0 0, .int .i64 (k : Int)] w R := by
  have d1 : decide ((k : Int) < 0) = false := decide_eq_false (by omega)
  have w1 : IntKind.i64.wrap 0 = 0 := by decide
  have w2 : IntKind.i64.wrap ((k : Int) - 0) = (k : Int) := by rw [wrap_i64_in (by omega) (by omega)]; omega
  refine calls_of_wpC mixed Tryz.func120 rfl (by kernel_rfl) ?_
  intro e he
  have he0 := he 0
  have he1 := he 1
  simp only [List.getD_cons_zero, List.getD_cons_succ] at he0 he1
  clear he
  rcases Nat.eq_zero_or_pos k with h0 | h0
  · have d2 : decide ((0 : Int) < (k : Int)) = false := decide_eq_false (by omega)
    repeat (first | rw [c_seq] | simp -dsimp only [↓RE,RU,RL,Nat.reduceLeDiff,Nat.reduceLT,pureOp,binPure,intBin,strBin,sliceLo,sliceHi,slicePure,lenPure,capPure,resK,endV,↓reduceIte,Nat.reduceEqDiff,reduceCtorEq,Nat.reduceAdd,Nat.reduceMul,Nat.reduceSub,Int.reduceLT,Int.reduceLE,Int.reduceToNat,Int.reduceAdd,Int.reduceSub,decide_true,decide_false,tf120, he0, he1, d1, w1, w2, d2, Int.cast_ofNat_Int])
    exact h w _ (LRow.nil _ _ _) (Keep.refl _ _) (fun q hq => (fpV_none _ hq).elim)
  · have d2 : decide ((0 : Int) < (k : Int)) = true := decide_eq_true (by omega)
    repeat (first | rw [c_seq] | simp -dsimp only [↓RE,RU,RL,Nat.reduceLeDiff,Nat.reduceLT,pureOp,binPure,intBin,strBin,sliceLo,sliceHi,slicePure,lenPure,capPure,resK,endV,↓reduceIte,Nat.reduceEqDiff,reduceCtorEq,Nat.reduceAdd,Nat.reduceMul,Nat.reduceSub,Int.reduceLT,Int.reduceLE,Int.reduceToNat,Int.reduceAdd,Int.reduceSub,decide_true,decide_false,tf120, he0, he1, d1, w1, w2, d2, Int.cast_ofNat_Int])
    refine appK_zeros0 (e := 60) (size := 6) (bytes := 80) (by kernel_rfl) (by kernel_rfl) rfl h0 (by simp only [maxLen]; omega) (by omega) (fun cur c1 w1 hc1 hn1 hm1 hb1 g1 => ?_)
    have hz : ∀ x : Option Addr, (if c1 = 0 then x else x) = x := fun x => by split <;> rfl
    have hv := h w1 (.slice (some ⟨w.heap.size, 0, none⟩) 0 c1) ⟨by simp, .inr ⟨_, c1, cur, rfl, hb1, Nat.zero_le _, hm1, hc1, by simp⟩⟩ g1 (fun q hq => by rw [fpV_some] at hq; simp only at hq; omega)
    repeat (first | rw [c_seq] | simp -dsimp only [↓RE,RU,RL,Nat.reduceLeDiff,Nat.reduceLT,pureOp,binPure,intBin,strBin,sliceLo,sliceHi,slicePure,lenPure,capPure,resK,endV,↓reduceIte,Nat.reduceEqDiff,reduceCtorEq,Nat.reduceAdd,Nat.reduceMul,Nat.reduceSub,Int.reduceLT,Int.reduceLE,Int.reduceToNat,Int.reduceAdd,Int.reduceSub,decide_true,decide_false,tf120, he0, Int.cast_ofNat_Int, hz, Nat.sub_zero])
    refine ⟨by omega, ?_⟩
    repeat (first | rw [c_seq] | simp -dsimp only [↓RE,RU,RL,Nat.reduceLeDiff,Nat.reduceLT,pureOp,binPure,intBin,strBin,sliceLo,sliceHi,slicePure,lenPure,capPure,resK,endV,↓reduceIte,Nat.reduceEqDiff,reduceCtorEq,Nat.reduceAdd,Nat.reduceMul,Nat.reduceSub,Int.reduceLT,Int.reduceLE,Int.reduceToNat,Int.reduceAdd,Int.reduceSub,decide_true,decide_false,tf120, he0, hz, Nat.sub_zero])
    exact hv
/-- a row of writes, as it is handed on. -/
structure WS where
  A : Option Addr
  n : Nat
  c : Nat
  l : List WrV
def WS.cell (x : WS) : Value := .slice x.A x.n x.c
def s00 : WS := ⟨none, 0, 0, []⟩
abbrev WS.Ok (w : World) (x : WS) : Prop := Rd w x.A x.n 6 (x.l.flatMap WrV.cells)
def allW (xs : List WS) : List WrV := xs.flatMap WS.l
set_option maxHeartbeats 1000000 in
theorem concat_ok {w : World} {B : Option Addr} {m d : Nat} {xs : List WS} (hR : Rd w B m 1 (xs.map WS.cell)) (ho : ∀ x ∈ xs, x.Ok w) (hn : (allW xs).length ≤ 100000000000) (hm : m ≤ 1000) {R : VWK}
    (h : ∀ w' v, LRow w' 60 6 v (allW xs).length ((allW xs).flatMap WrV.cells) → Grow w w' → (∀ q, fpV v q → w.heap.size ≤ q) → R v w') : CallsV Tryz.prog 60 [.slice B m d] w R := by
  have hl : xs.length = m := by have := hR.1; simp at this; omega
  have htk : ∀ k, (allW (xs.take k)).length ≤ (allW xs).length := fun k => by
    conv => rhs; rw [← List.take_append_drop k xs]
    unfold allW
    rw [List.flatMap_append, List.length_append]
    omega
  have hst : ∀ k (hk : k < m), allW (xs.take (k + 1)) = allW (xs.take k) ++ (xs[k]'(by omega)).l := fun k hk => by
    unfold allW
    rw [List.take_succ_eq_append_getElem (by omega), List.flatMap_append]
    simp
  have hcell : ∀ w', Grow w w' → ∀ k (hk : k < m), ∃ ad, B = some ad ∧ w'.cell? (ad.add k) = some ((xs[k]'(by omega)).cell) := fun w' g k hk => by
    obtain ⟨ad, u, e, hu, hc⟩ := (hR.grow g).cell1 hk
    refine ⟨ad, e, hc.trans ?_⟩
    rw [List.getElem?_map, List.getElem?_eq_getElem (by omega)] at hu
    exact hu.symm
  have hxn : ∀ k (hk : k < m), (xs[k]'(by omega)).l.length = (xs[k]'(by omega)).n := fun k hk => (ho _ (List.getElem_mem (by omega))).wlen
  refine calls_of_wpC mixed Tryz.func60 rfl (by kernel_rfl) ?_
  intro e he
  have he0 := he 0
  simp only [List.getD_cons_zero, List.getD_cons_succ] at he0
  clear he
  repeat (first | rw [c_seq] | simp -dsimp only [↓RE,RU,RL,Nat.reduceLeDiff,Nat.reduceLT,pureOp,binPure,intBin,strBin,lenPure,resK,endV,↓reduceIte,Nat.reduceEqDiff,reduceCtorEq,Nat.reduceAdd,Nat.reduceMul,Int.reduceLT,Int.reduceLE,Int.reduceToNat,Int.reduceAdd,decide_true,decide_false,tf60, he0])
  refine wpLoop_intro (fun e' w' => w' = w ∧ (e' 0 = .slice B m d ∧ e' 9 = .slice B m d ∧ e' 10 = .int .i64 (m : Int)) ∧ ∃ k : Nat, k ≤ m ∧ e' 11 = .int .i64 (k : Int) ∧ e' 3 = .int .i64 ((allW (xs.take k)).length : Int))
    (fun e' _ => m - (envInt (e' 11)).toNat) ⟨rfl, ⟨?_, ?_, ?_⟩, 0, Nat.zero_le _, ?_, ?_⟩ ?_
  · simp -dsimp only [↓RE,RU,RL,↓reduceIte,Nat.reduceEqDiff,reduceCtorEq,decide_true,decide_false, he0]
  · simp -dsimp only [↓RE,RU,RL,↓reduceIte,Nat.reduceEqDiff,reduceCtorEq,decide_true,decide_false, he0]
  · simp -dsimp only [↓RE,RU,RL,↓reduceIte,Nat.reduceEqDiff,reduceCtorEq,decide_true,decide_false, he0]
  · simp -dsimp only [↓RE,RU,RL,↓reduceIte,Nat.reduceEqDiff,reduceCtorEq,decide_true,decide_false, Int.cast_ofNat_Int]
  · rw [List.take_zero]; simp -dsimp only [↓RE,↓c_seq,RU,RL,Nat.reduceLeDiff,Nat.reduceLT,pureOp,binPure,intBin,strBin,lenPure,resK,endV,↓reduceIte,Nat.reduceEqDiff,reduceCtorEq,Nat.reduceAdd,Nat.reduceMul,Int.reduceLT,Int.reduceLE,Int.reduceToNat,Int.reduceAdd,decide_true,decide_false,tf60, allW, List.flatMap_nil, List.length_nil, Int.cast_ofNat_Int]
  clear he0 e
  rintro e wz ⟨rfl, ⟨he0, he9, he10⟩, k, hk, he11, he3⟩
  rcases Nat.lt_or_ge k m with hlt | hge
  · have hd : decide ((k : Int) < (m : Int)) = true := decide_eq_true (by omega)
    have hmu : (envInt (e 11)).toNat = k := by rw [he11]; exact Int.toNat_natCast k
    have v1 : IntKind.i64.wrap ((k : Int) + 1) = ((k + 1 : Nat) : Int) := by rw [wrap_i64_in (by omega) (by omega)]; omega
    obtain ⟨ad, rfl, hc⟩ := hcell wz (Keep.refl _ _) k hlt
    have hs := hst k hlt
    have ht := htk (k + 1)
    have hxl := hxn k hlt
    have hsl := congrArg List.length hs
    rw [List.length_append] at hsl
    generalize xs[k] = x at hc hs hxl hsl
    simp only [WS.cell] at hc
    have v2 : IntKind.i64.wrap (((allW (xs.take k)).length : Int) + (x.n : Int)) = ((allW (xs.take (k + 1))).length : Int) := by rw [wrap_i64_in (by omega) (by omega)]; omega
    have d2 : decide (((allW (xs.take (k + 1))).length : Int) < 0) = false := decide_eq_false (by omega)
    repeat (first | rw [c_seq] | simp -dsimp only [↓RE,RU,RL,Nat.reduceLeDiff,Nat.reduceLT,pureOp,binPure,intBin,strBin,lenPure,resK,endV,↓reduceIte,Nat.reduceEqDiff,reduceCtorEq,Nat.reduceAdd,Nat.reduceMul,Int.reduceLT,Int.reduceLE,Int.reduceToNat,Int.reduceAdd,decide_true,decide_false,tf60, he9, he10, he11, he3, hd, hc, Nat.mul_one, Int.toNat_natCast])
    refine ⟨⟨by omega, by omega⟩, ?_⟩
    repeat (first | rw [c_seq] | simp -dsimp only [↓RE,RU,RL,Nat.reduceLeDiff,Nat.reduceLT,pureOp,binPure,intBin,strBin,lenPure,resK,endV,↓reduceIte,Nat.reduceEqDiff,reduceCtorEq,Nat.reduceAdd,Nat.reduceMul,Int.reduceLT,Int.reduceLE,Int.reduceToNat,Int.reduceAdd,decide_true,decide_false,tf60, he3, he11, v1, v2, d2])
    refine ⟨fun hq => absurd hq (by omega), fun _ => ?_⟩
    repeat (first | rw [c_seq] | simp -dsimp only [↓RE,RU,RL,Nat.reduceLeDiff,Nat.reduceLT,pureOp,binPure,intBin,strBin,lenPure,resK,endV,↓reduceIte,Nat.reduceEqDiff,reduceCtorEq,Nat.reduceAdd,Nat.reduceMul,Int.reduceLT,Int.reduceLE,Int.reduceToNat,Int.reduceAdd,decide_true,decide_false,tf60, he3, he11, v1, v2, d2])
    refine hold_intro ⟨⟨rfl, ⟨?_, ?_, ?_⟩, k + 1, hlt, ?_, ?_⟩, ?_⟩
    · simp -dsimp only [↓RE,RU,RL,↓reduceIte,Nat.reduceEqDiff,reduceCtorEq,decide_true,decide_false, he0]
    · simp -dsimp only [↓RE,RU,RL,↓reduceIte,Nat.reduceEqDiff,reduceCtorEq,decide_true,decide_false, he9]
    · simp -dsimp only [↓RE,RU,RL,↓reduceIte,Nat.reduceEqDiff,reduceCtorEq,decide_true,decide_false, he10]
    · simp -dsimp only [↓RE,RU,RL,↓reduceIte,Nat.reduceEqDiff,reduceCtorEq,decide_true,decide_false, he11, v1]
    · simp -dsimp only [↓RE,RU,RL,↓reduceIte,Nat.reduceEqDiff,reduceCtorEq,decide_true,decide_false, he3, v2]
    · rw [hmu]
      simp -dsimp only [↓RE,↓c_seq,RU,RL,Nat.reduceLeDiff,Nat.reduceLT,pureOp,binPure,intBin,strBin,lenPure,resK,endV,↓reduceIte,Nat.reduceEqDiff,reduceCtorEq,Nat.reduceAdd,Nat.reduceMul,Int.reduceLT,Int.reduceLE,Int.reduceToNat,Int.reduceAdd,decide_true,decide_false,tf60, he11, v1, envInt, Int.toNat_natCast]
      omega
  · have hd : decide ((k : Int) < (m : Int)) = false := decide_eq_false (by omega)
    rw [List.take_of_length_le (by omega)] at he3
    repeat (first | rw [c_seq] | simp -dsimp only [↓RE,RU,RL,Nat.reduceLeDiff,Nat.reduceLT,pureOp,binPure,intBin,strBin,lenPure,resK,endV,↓reduceIte,Nat.reduceEqDiff,reduceCtorEq,Nat.reduceAdd,Nat.reduceMul,Int.reduceLT,Int.reduceLE,Int.reduceToNat,Int.reduceAdd,decide_true,decide_false,tf60, he9, he10, he11, he3, hd])
    refine groww_ok (by omega) (fun w2 v2 hv2 g2 hF2 => ?_)
    repeat (first | rw [c_seq] | simp -dsimp only [↓RE,RU,RL,Nat.reduceLeDiff,Nat.reduceLT,pureOp,binPure,intBin,strBin,lenPure,resK,endV,↓reduceIte,Nat.reduceEqDiff,reduceCtorEq,Nat.reduceAdd,Nat.reduceMul,Int.reduceLT,Int.reduceLE,Int.reduceToNat,Int.reduceAdd,decide_true,decide_false,tf60, he0])
    refine wpLoop_intro (fun e' w' => Grow wz w' ∧ (e' 25 = .slice B m d ∧ e' 26 = .int .i64 (m : Int)) ∧ ∃ (k : Nat) (v : Value), k ≤ m ∧ e' 27 = .int .i64 (k : Int) ∧ e' 6 = v ∧ LRow w' 60 6 v (allW (xs.take k)).length ((allW (xs.take k)).flatMap WrV.cells) ∧ (∀ q, fpV v q → wz.heap.size ≤ q))
      (fun e' _ => m - (envInt (e' 27)).toNat) ⟨g2, ⟨?_, ?_⟩, 0, v2, Nat.zero_le _, ?_, ?_, hv2, hF2⟩ ?_
    · simp -dsimp only [↓RE,RU,RL,↓reduceIte,Nat.reduceEqDiff,reduceCtorEq,decide_true,decide_false, he0]
    · simp -dsimp only [↓RE,RU,RL,↓reduceIte,Nat.reduceEqDiff,reduceCtorEq,decide_true,decide_false, he0]
    · simp -dsimp only [↓RE,RU,RL,↓reduceIte,Nat.reduceEqDiff,reduceCtorEq,decide_true,decide_false, Int.cast_ofNat_Int]
    · simp -dsimp only [↓RE,RU,RL,↓reduceIte,Nat.reduceEqDiff,reduceCtorEq,decide_true,decide_false, he0]
    clear he0 he9 he10 he11 he3 hd hge hk k hv2 hF2 g2 e
    rintro e wy ⟨gy, ⟨he25, he26⟩, k, v, hk, he27, he6, hv, hF⟩
    rcases Nat.lt_or_ge k m with hlt | hge
    · have hd : decide ((k : Int) < (m : Int)) = true := decide_eq_true (by omega)
      have hmu : (envInt (e 27)).toNat = k := by rw [he27]; exact Int.toNat_natCast k
      have v1 : IntKind.i64.wrap ((k : Int) + 1) = ((k + 1 : Nat) : Int) := by rw [wrap_i64_in (by omega) (by omega)]; omega
      obtain ⟨ad, rfl, hc⟩ := hcell wy gy k hlt
      have hs := hst k hlt
      have ht := htk (k + 1)
      have hxl := hxn k hlt
      have hxo := (ho _ (List.getElem_mem (show k < xs.length by omega))).grow gy
      have hsl := congrArg List.length hs
      rw [List.length_append] at hsl
      generalize xs[k] = x at hc hs hxl hsl hxo
      simp only [WS.cell] at hc
      repeat (first | rw [c_seq] | simp -dsimp only [↓RE,RU,RL,Nat.reduceLeDiff,Nat.reduceLT,pureOp,binPure,intBin,strBin,lenPure,resK,endV,↓reduceIte,Nat.reduceEqDiff,reduceCtorEq,Nat.reduceAdd,Nat.reduceMul,Int.reduceLT,Int.reduceLE,Int.reduceToNat,Int.reduceAdd,decide_true,decide_false,tf60, he25, he26, he27, hd, hc, Nat.mul_one, Int.toNat_natCast])
      refine ⟨⟨by omega, by omega⟩, ?_⟩
      repeat (first | rw [c_seq] | simp -dsimp only [↓RE,RU,RL,Nat.reduceLeDiff,Nat.reduceLT,pureOp,binPure,intBin,strBin,lenPure,resK,endV,↓reduceIte,Nat.reduceEqDiff,reduceCtorEq,Nat.reduceAdd,Nat.reduceMul,Int.reduceLT,Int.reduceLE,Int.reduceToNat,Int.reduceAdd,decide_true,decide_false,tf60, he6])
      refine app_w hv hxo (by omega) (fun A' c' w4 hL4 k4 f4 => ?_)
      have g4 : Grow wz w4 := gy.above k4 (fun q hq e => by have := hF q e; omega)
      rw [← hs] at hL4
      have hsy := gy.size
      repeat (first | rw [c_seq] | simp -dsimp only [↓RE,RU,RL,Nat.reduceLeDiff,Nat.reduceLT,pureOp,binPure,intBin,strBin,lenPure,resK,endV,↓reduceIte,Nat.reduceEqDiff,reduceCtorEq,Nat.reduceAdd,Nat.reduceMul,Int.reduceLT,Int.reduceLE,Int.reduceToNat,Int.reduceAdd,decide_true,decide_false,tf60, he27, v1])
      refine hold_intro ⟨⟨g4, ⟨?_, ?_⟩, k + 1, _, hlt, ?_, ?_, hL4, fun q hq => ?_⟩, ?_⟩
      · simp -dsimp only [↓RE,RU,RL,↓reduceIte,Nat.reduceEqDiff,reduceCtorEq,decide_true,decide_false, he25]
      · simp -dsimp only [↓RE,RU,RL,↓reduceIte,Nat.reduceEqDiff,reduceCtorEq,decide_true,decide_false, he26]
      · simp -dsimp only [↓RE,RU,RL,↓reduceIte,Nat.reduceEqDiff,reduceCtorEq,decide_true,decide_false, he27, v1]
      · simp -dsimp only [↓RE,RU,RL,↓reduceIte,Nat.reduceEqDiff,reduceCtorEq,decide_true,decide_false, he6]
      · rcases f4 q hq with e | e
        · exact hF q e
        · omega
      · rw [hmu]
        simp -dsimp only [↓RE,↓c_seq,RU,RL,Nat.reduceLeDiff,Nat.reduceLT,pureOp,binPure,intBin,strBin,lenPure,resK,endV,↓reduceIte,Nat.reduceEqDiff,reduceCtorEq,Nat.reduceAdd,Nat.reduceMul,Int.reduceLT,Int.reduceLE,Int.reduceToNat,Int.reduceAdd,decide_true,decide_false,tf60, he27, v1, envInt, Int.toNat_natCast]
        omega
    · have hd : decide ((k : Int) < (m : Int)) = false := decide_eq_false (by omega)
      rw [List.take_of_length_le (by omega)] at hv
      repeat (first | rw [c_seq] | simp -dsimp only [↓RE,RU,RL,Nat.reduceLeDiff,Nat.reduceLT,pureOp,binPure,intBin,strBin,lenPure,resK,endV,↓reduceIte,Nat.reduceEqDiff,reduceCtorEq,Nat.reduceAdd,Nat.reduceMul,Int.reduceLT,Int.reduceLE,Int.reduceToNat,Int.reduceAdd,decide_true,decide_false,tf60, he26, he27, he6, hd])
      exact h wy v hv gy hF
theorem merge_ok {w : World} {A B : Option Addr} {n c m d : Nat} {X Y : List WrV} (hX : Rd w A n 6 (X.flatMap WrV.cells)) (hY : Rd w B m 6 (Y.flatMap WrV.cells)) (hoX : ∀ x ∈ X, x.Ok w) (hoY : ∀ x ∈ Y, x.Ok w) (hn : n + m ≤ 10000000000) {R : VWK}
    (hR : ∀ w' v D, OrdR w w' v D (wOrd (X.map WrV.wr ++ Y.map WrV.wr)) → Grow w w' → R v w') : CallsV Tryz.prog 29 [.slice A n c, .slice B m d] w R := by
  have hXl := hX.wlen
  have hYl := hY.wlen
  refine calls_of_wpC mixed Tryz.func29 rfl (by kernel_rfl) ?_
  intro e he
  have he0 := he 0
  have he1 := he 1
  simp only [List.getD_cons_zero, List.getD_cons_succ] at he0 he1
  clear he
  repeat (first | rw [c_seq] | simp -dsimp only [↓RE,RU,RL,Nat.reduceLeDiff,Nat.reduceLT,pureOp,resK,endV,↓reduceIte,Nat.reduceEqDiff,reduceCtorEq,Nat.reduceAdd,Nat.reduceMul,Int.reduceLT,Int.reduceLE,Int.reduceToNat,decide_true,decide_false,tf29, he0, he1])
  have g1 := Grow.alloc w (.cells #[.slice A n c, .slice B m d] 42)
  have hrow : Rd (w.alloc (.cells #[.slice A n c, .slice B m d] 42)) (some ⟨w.heap.size, 0, none⟩) 2 1 ([⟨A, n, c, X⟩, ⟨B, m, d, Y⟩].map WS.cell) := Rd.of_own (own_new w 42 1 2 #[.slice A n c, .slice B m d] rfl (by simp [maxLen]))
  have hall : allW [⟨A, n, c, X⟩, ⟨B, m, d, Y⟩] = X ++ Y := by simp [allW]
  refine concat_ok hrow (fun x hx => ?_) (by rw [hall, List.length_append]; omega) (by omega) (fun w2 v hv g2 hF => ?_)
  · simp only [List.mem_cons, List.not_mem_nil, or_false] at hx
    rcases hx with rfl | rfl
    · exact hX.grow g1
    · exact hY.grow g1
  rw [hall] at hv
  obtain ⟨A1, c1, rfl, _, _⟩ := hv.form
  have g12 := g1.trans g2
  repeat (first | rw [c_seq] | simp -dsimp only [↓RE,RU,RL,Nat.reduceLeDiff,Nat.reduceLT,pureOp,resK,endV,↓reduceIte,Nat.reduceEqDiff,reduceCtorEq,Nat.reduceAdd,Nat.reduceMul,Int.reduceLT,Int.reduceLE,Int.reduceToNat,decide_true,decide_false,tf29, he0])
  refine order_ok hv.rd (fun x hx => ?_) (by rw [List.length_append]; omega) (fun w3 v3 D hD g3 => ?_)
  · rcases List.mem_append.1 hx with hx | hx
    · exact (hoX x hx).grow g12
    · exact (hoY x hx).grow g12
  rw [List.map_append] at hD
  have hs := g12.size
  repeat (first | rw [c_seq] | simp -dsimp only [↓RE,RU,RL,Nat.reduceLeDiff,Nat.reduceLT,pureOp,resK,endV,↓reduceIte,Nat.reduceEqDiff,reduceCtorEq,Nat.reduceAdd,Nat.reduceMul,Int.reduceLT,Int.reduceLE,Int.reduceToNat,decide_true,decide_false,tf29, he0])
  exact hR w3 v3 D ⟨hD.eq, hD.row, hD.ok, fun q hq => by have := hD.fresh q hq; omega, fun x hx q hq => by have := hD.tfresh x hx q hq; omega, hD.apart⟩ (g12.trans g3)

end Go.Proofs.YtljgnocpijniiaaGreatDoor
