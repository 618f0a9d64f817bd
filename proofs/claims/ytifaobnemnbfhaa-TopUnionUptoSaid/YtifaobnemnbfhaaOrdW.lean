/- batch.Order: writes in order, the last one of each series and time. -/
import Derived.Test.YtifaobnemnbfhaaStable
import Derived.Test.YtifaobnemnbfhaaClones
set_option linter.unusedVariables false
set_option linter.unusedSimpArgs false
set_option maxRecDepth 100000
namespace Go.Proofs.Ytifaobnemnbfhaa
open Go

theorem tcells_one (l : List Tg) : ∀ u ∈ l.flatMap tcells, u.oneCell' = true := by
  intro u hu
  obtain ⟨v, _, hv⟩ := List.mem_flatMap.1 hu
  simp only [tcells, List.mem_cons, List.not_mem_nil, or_false] at hv
  rcases hv with rfl | rfl <;> rfl
theorem wflat_one (l : List WrV) : ∀ u ∈ l.flatMap WrV.cells, u.oneCell' = true := by
  intro u hu
  obtain ⟨v, _, hv⟩ := List.mem_flatMap.1 hu
  exact wcells_one v u hv
theorem Rd.wlen {w : World} {A : Option Addr} {n : Nat} {l : List WrV} (h : Rd w A n 6 (l.flatMap WrV.cells)) : l.length = n := by
  have h1 := h.1
  rw [flat_len WrV.cells (size := 6) l (fun _ _ => rfl)] at h1
  omega
theorem SerV.Ok.keep0 {F : Nat → Prop} {w w' : World} {v : SerV} (h : v.Ok w) (k : Keep F w w') (hF : 0 < v.n → ∀ q, fpA v.A q → ¬ F q) : v.Ok w' := ⟨h.1.keep0 k hF, h.2⟩
theorem WrV.Ok.keep0 {F : Nat → Prop} {w w' : World} {v : WrV} (h : v.Ok w) (k : Keep F w w') (hF : 0 < v.s.n → ∀ q, fpA v.s.A q → ¬ F q) : v.Ok w' := ⟨h.1.keep0 k hF, h.2⟩
theorem WrV.Ok.lt {w : World} {v : WrV} (h : v.Ok w) (h0 : 0 < v.s.n) : ∀ q, fpA v.s.A q → q < w.heap.size := h.1.1.lt h0 (by omega)
/-- a comparison that reads no more than its two arguments. -/
structure CmpF (f : FuncId) (cf : WrV → WrV → Int) : Prop where
  can : callable Try.prog f = true
  cmp : ∀ (w : World) (a b : WrV), a.Ok w → b.Ok w → ∀ R : VWK, (∀ w', Grow w w' → R (.int .i64 (cf a b)) w') → CallsV Try.prog f [.agg a.cells.toArray, .agg b.cells.toArray] w R
theorem cmpF_compare : CmpF 30 cmpV := ⟨by kernel_rfl, fun w a b ha hb R h => wcmp_ok ha hb h⟩
theorem CmpF.ok {f : FuncId} {cf : WrV → WrV → Int} (h : CmpF f cf) {w0 : World} {ad : Addr} {l0 : List WrV} (ho : ∀ x ∈ l0, x.Ok w0) (hap : ∀ x ∈ l0, 0 < x.s.n → ∀ q, fpA x.s.A q → q ≠ ad.block) : CmpOk w0 ad l0 f cf :=
  ⟨h.can, fun w hk a ha b hb R hR => h.cmp w a b ((ho a ha).keep0 hk (hap a ha)) ((ho b hb).keep0 hk (hap b hb)) R hR⟩
theorem sortw_ok {w : World} {A : Option Addr} {n c : Nat} {L : List WrV} {f : FuncId} {cf : WrV → WrV → Int} (hf : CmpF f cf) (hc : Cmp cf) (h : LRow w 37 6 (.slice A n c) n (L.flatMap WrV.cells)) (ho : ∀ x ∈ L, x.Ok w) (hap : ∀ x ∈ L, 0 < x.s.n → ∀ q, fpA x.s.A q → ¬ fpA A q) (hn : n ≤ 1000000000000) {R : VWK}
    (hR : ∀ w' Z, SortedC cf Z → SameK cf L Z → Keep (fun q => fpA A q) w w' → LRow w' 37 6 (.slice A n c) n (Z.flatMap WrV.cells) → R (.tuple #[]) w') :
    CallsV Try.prog 50 [.slice A n c, .func (.func f) #[] #[]] w R := by
  have hl : L.length = n := by
    have h1 := h.1
    rw [flat_len WrV.cells (size := 6) L (fun _ _ => rfl)] at h1
    omega
  refine calls_of_wpC mixed Try.func50 rfl (by kernel_rfl) ?_
  intro e he
  have he0 := he 0
  have he1 := he 1
  simp only [List.getD_cons_zero, List.getD_cons_succ] at he0 he1
  clear he
  repeat (first | rw [c_seq] | simp -dsimp only [↓RE,RU,RL,if_true,if_false,forall_const,implies_true,Nat.reduceLeDiff,Nat.reduceLT,pureOp,binPure,intBin,strBin,eqPure,isConstO,unPure,sliceLo,sliceHi,slicePure,slice3Pure,lenPure,capPure,minPure,maxPure,buildP,resK,endV,yieldE,↓reduceIte,Nat.reduceEqDiff,reduceCtorEq,Nat.reduceAdd,Nat.reduceMul,Nat.reduceSub,Int.reduceLT,Int.reduceLE,Int.reduceToNat,Int.reduceAdd,Int.reduceSub,Int.reduceMul,ne_eq,decide_true,decide_false,tf50, he0, he1])
  rcases Nat.eq_zero_or_pos n with h0 | h0
  · subst h0
    have hL : L = [] := List.eq_nil_of_length_eq_zero hl
    subst hL
    refine stable0_ok ?_
    repeat (first | rw [c_seq] | simp -dsimp only [↓RE,RU,RL,if_true,if_false,forall_const,implies_true,Nat.reduceLeDiff,Nat.reduceLT,pureOp,binPure,intBin,strBin,eqPure,isConstO,unPure,sliceLo,sliceHi,slicePure,slice3Pure,lenPure,capPure,minPure,maxPure,buildP,resK,endV,yieldE,↓reduceIte,Nat.reduceEqDiff,reduceCtorEq,Nat.reduceAdd,Nat.reduceMul,Nat.reduceSub,Int.reduceLT,Int.reduceLE,Int.reduceToNat,Int.reduceAdd,Int.reduceSub,Int.reduceMul,ne_eq,decide_true,decide_false,tf50, he0])
    exact hR w [] List.Pairwise.nil (SameK.refl _) (Keep.refl _ _) h
  · obtain ⟨ad, rfl⟩ : ∃ ad, A = some ad := by
      obtain ⟨ad, e, _⟩ := h.rd.2 h0
      exact ⟨ad, e⟩
    have hlt : ad.block < w.heap.size := h.lt _ ((fpV_some _ _ _ _).2 rfl)
    have hS : Sr w ad n c L w L := ⟨Keep.refl _ _, h, hl, fun x hx => hx, hlt⟩
    refine stable_ok (hf.ok ho (fun x hx h0 q hq e => hap x hx h0 q hq ⟨ad, rfl, e⟩)) hc hS hn (fun w' Z hZ hk hS' => ?_)
    repeat (first | rw [c_seq] | simp -dsimp only [↓RE,RU,RL,if_true,if_false,forall_const,implies_true,Nat.reduceLeDiff,Nat.reduceLT,pureOp,binPure,intBin,strBin,eqPure,isConstO,unPure,sliceLo,sliceHi,slicePure,slice3Pure,lenPure,capPure,minPure,maxPure,buildP,resK,endV,yieldE,↓reduceIte,Nat.reduceEqDiff,reduceCtorEq,Nat.reduceAdd,Nat.reduceMul,Nat.reduceSub,Int.reduceLT,Int.reduceLE,Int.reduceToNat,Int.reduceAdd,Int.reduceSub,Int.reduceMul,ne_eq,decide_true,decide_false,tf50, he0])
    exact hR w' Z hZ hk (hS'.keep.mono (fun q _ e => ⟨ad, rfl, e⟩)) hS'.row

/-- one write more. -/
theorem app_w {w : World} {v : Value} {L : List WrV} (h : LRow w 37 6 v L.length (L.flatMap WrV.cells)) {A : Option Addr} {n c : Nat} {xs : List WrV} (hX : Rd w A n 6 (xs.flatMap WrV.cells)) (hn : L.length + n ≤ 1000000000000) {ty : TypeId} {K : VWK} {tk : Tok K}
    (hK : ∀ A' c' w', LRow w' 37 6 (.slice A' (L.length + n) c') (L ++ xs).length ((L ++ xs).flatMap WrV.cells) → Keep (fpV v) w w' → (∀ q, fpV (.slice A' (L.length + n) c') q → fpV v q ∨ q = w.heap.size) → K (.slice A' (L.length + n) c') w') :
    appK Try.prog [28, 28] ty [v, .slice A n c] w K tk := by
  have hl := hX.wlen
  refine appK_l (bytes := 80) (by kernel_rfl) h hX (wflat_one xs) (by simp only [maxLen]; omega) (by omega) (fun A' c' w' hL k1 f1 _ => hK A' c' w' ?_ k1 f1)
  rw [List.flatMap_append, List.length_append, hl]
  exact hL
theorem one_row (w : World) (x : WrV) : Rd (w.alloc (.cells x.cells.toArray 37)) (some ⟨w.heap.size, 0, none⟩) 1 6 ([x].flatMap WrV.cells) := by
  have := Rd.of_own (own_new w 37 6 1 x.cells.toArray rfl (by simp [maxLen]))
  simpa using this
theorem lastK_drop {cf : WrV → WrV → Int} {Z : List WrV} {k : Nat} (hk : k < Z.length) : lastK cf (Z.drop k) = if k + 1 < Z.length ∧ cf (Z.getD k w00) (Z.getD (k + 1) w00) = 0 then lastK cf (Z.drop (k + 1)) else Z.getD k w00 :: lastK cf (Z.drop (k + 1)) := by
  have e1 : Z.drop k = Z.getD k w00 :: Z.drop (k + 1) := by
    rw [List.drop_eq_getElem_cons hk, List.getD_eq_getElem?_getD, List.getElem?_eq_getElem hk]; rfl
  rw [e1]
  rcases Nat.lt_or_ge (k + 1) Z.length with h | h
  · have e2 : Z.drop (k + 1) = Z.getD (k + 1) w00 :: Z.drop (k + 1 + 1) := by
      rw [List.drop_eq_getElem_cons h, List.getD_eq_getElem?_getD, List.getElem?_eq_getElem h]; rfl
    rw [e2, lastK]
    by_cases hz : cf (Z.getD k w00) (Z.getD (k + 1) w00) = 0
    · rw [if_pos hz, if_pos ⟨h, hz⟩]
    · rw [if_neg hz, if_neg (fun q => hz q.2)]
  · rw [List.drop_eq_nil_of_le h, if_neg (fun q => by omega)]
    rfl
set_option maxHeartbeats 1000000 in
theorem sorted_ok {w : World} {A : Option Addr} {n c : Nat} {L : List WrV} {f : FuncId} {cf : WrV → WrV → Int} (hf : CmpF f cf) (hc : Cmp cf) (h : Rd w A n 6 (L.flatMap WrV.cells)) (ho : ∀ x ∈ L, x.Ok w) (hn : n ≤ 100000000000) {R : VWK}
    (hR : ∀ w' v, LRow w' 37 6 v (gLoad cf [] L).length ((gLoad cf [] L).flatMap WrV.cells) → Grow w w' → (∀ q, fpV v q → w.heap.size ≤ q) → R v w') :
    CallsV Try.prog 29 [.slice A n c, .func (.func f) #[] #[]] w R := by
  have hl := h.wlen
  have hcall := fun xs w K tk => callK_func hf.can xs w (K := K) (tk := tk)
  refine calls_of_wpC mixed Try.func29 rfl (by kernel_rfl) ?_
  intro e he
  have he0 := he 0
  have he1 := he 1
  simp only [List.getD_cons_zero, List.getD_cons_succ] at he0 he1
  clear he
  repeat (first | rw [c_seq] | simp -dsimp only [↓RE,RU,RL,if_true,if_false,forall_const,implies_true,Nat.reduceLeDiff,Nat.reduceLT,pureOp,binPure,intBin,strBin,eqPure,isConstO,unPure,sliceLo,sliceHi,slicePure,slice3Pure,lenPure,capPure,minPure,maxPure,buildP,resK,endV,yieldE,↓reduceIte,Nat.reduceEqDiff,reduceCtorEq,Nat.reduceAdd,Nat.reduceMul,Nat.reduceSub,Int.reduceLT,Int.reduceLE,Int.reduceToNat,Int.reduceAdd,Int.reduceSub,Int.reduceMul,ne_eq,decide_true,decide_false,tf29, he0, he1])
  refine cloneW_ok h (wflat_one L) (by omega) (fun w1 A1 c1 hL1 g1 hF1 hN1 => ?_)
  repeat (first | rw [c_seq] | simp -dsimp only [↓RE,RU,RL,if_true,if_false,forall_const,implies_true,Nat.reduceLeDiff,Nat.reduceLT,pureOp,binPure,intBin,strBin,eqPure,isConstO,unPure,sliceLo,sliceHi,slicePure,slice3Pure,lenPure,capPure,minPure,maxPure,buildP,resK,endV,yieldE,↓reduceIte,Nat.reduceEqDiff,reduceCtorEq,Nat.reduceAdd,Nat.reduceMul,Nat.reduceSub,Int.reduceLT,Int.reduceLE,Int.reduceToNat,Int.reduceAdd,Int.reduceSub,Int.reduceMul,ne_eq,decide_true,decide_false,tf29, he1])
  have ho1 : ∀ x ∈ L, x.Ok w1 := fun x hx => (ho x hx).grow g1
  have hap1 : ∀ x ∈ L, 0 < x.s.n → ∀ q, fpA x.s.A q → ¬ fpA A1 q := fun x hx h0 q hq e => by have := (ho x hx).lt h0 q hq; have := hF1 q e; omega
  refine sortw_ok hf hc hL1 ho1 hap1 (by omega) (fun w2 Z hZ hk2 k2 hL2 => ?_)
  have hZl : Z.length = n := by rw [← hk2.1]; exact hl
  have g2 : Grow w w2 := g1.above k2 (fun q hq e => by have := hF1 q e; omega)
  have hoZ : ∀ x ∈ Z, x.Ok w2 := fun x hx => (ho1 x (hk2.symm.mem hc hx)).keep0 k2 (hap1 x (hk2.symm.mem hc hx))
  have hlast := lastK_load hc hZ hk2.symm
  repeat (first | rw [c_seq] | simp -dsimp only [↓RE,RU,RL,if_true,if_false,forall_const,implies_true,Nat.reduceLeDiff,Nat.reduceLT,pureOp,binPure,intBin,strBin,eqPure,isConstO,unPure,sliceLo,sliceHi,slicePure,slice3Pure,lenPure,capPure,minPure,maxPure,buildP,resK,endV,yieldE,↓reduceIte,Nat.reduceEqDiff,reduceCtorEq,Nat.reduceAdd,Nat.reduceMul,Nat.reduceSub,Int.reduceLT,Int.reduceLE,Int.reduceToNat,Int.reduceAdd,Int.reduceSub,Int.reduceMul,ne_eq,decide_true,decide_false,tf29, he1])
  refine wpLoop_intro (fun e' w' => Grow w2 w' ∧ (e' 1 = .func (.func f) #[] #[] ∧ e' 5 = .slice A1 n c1 ∧ e' 14 = .slice A1 n c1 ∧ e' 15 = .int .i64 (n : Int)) ∧ ∃ (k : Nat) (Out : List WrV) (vo : Value), k ≤ n ∧ e' 16 = .int .i64 (k : Int) ∧ e' 6 = vo ∧ Out ++ lastK cf (Z.drop k) = lastK cf Z ∧ Out.length ≤ k ∧ LRow w' 37 6 vo Out.length (Out.flatMap WrV.cells) ∧ (∀ q, fpV vo q → w2.heap.size ≤ q))
    (fun e' _ => n - (envInt (e' 16)).toNat) ⟨Keep.refl _ _, ⟨?_, ?_, ?_, ?_⟩, 0, [], .slice none 0 0, Nat.zero_le _, ?_, ?_, by rw [List.drop_zero]; rfl, Nat.le_refl _, LRow.nil _ _ _, fun q hq => (fpV_none _ hq).elim⟩ ?_
  · simp -dsimp only [↓RE,RU,RL,if_true,if_false,↓reduceIte,Nat.reduceEqDiff,reduceCtorEq,decide_true,decide_false, he1]
  · simp -dsimp only [↓RE,RU,RL,if_true,if_false,↓reduceIte,Nat.reduceEqDiff,reduceCtorEq,decide_true,decide_false, he1]
  · simp -dsimp only [↓RE,RU,RL,if_true,if_false,↓reduceIte,Nat.reduceEqDiff,reduceCtorEq,decide_true,decide_false, he1]
  · simp -dsimp only [↓RE,RU,RL,if_true,if_false,↓reduceIte,Nat.reduceEqDiff,reduceCtorEq,decide_true,decide_false, he1]
  · simp -dsimp only [↓RE,RU,RL,if_true,if_false,↓reduceIte,Nat.reduceEqDiff,reduceCtorEq,decide_true,decide_false, Int.cast_ofNat_Int]
  · simp -dsimp only [↓RE,RU,RL,if_true,if_false,↓reduceIte,Nat.reduceEqDiff,reduceCtorEq,decide_true,decide_false, he1]
  clear he0 he1 e
  rintro e wz ⟨gz, ⟨he1, he5, he14, he15⟩, k, Out, vo, hk, he16, he6, hout, hol, hO, hF⟩
  rcases Nat.lt_or_ge k n with hlt | hge
  · have hd : decide ((k : Int) < (n : Int)) = true := decide_eq_true (by omega)
    have hmu : (envInt (e 16)).toNat = k := by rw [he16]; exact Int.toNat_natCast k
    have v1 : IntKind.i64.wrap ((k : Int) + 1) = ((k + 1 : Nat) : Int) := by rw [wrap_i64_in (by omega) (by omega)]; omega
    have hd1 := lastK_drop (cf := cf) (Z := Z) (k := k) (by omega)
    have hzk := getD_some (l := Z) (k := k) (by omega)
    have hxm : Z.getD k w00 ∈ Z := getD_mem (by omega)
    obtain ⟨ad, rfl⟩ : ∃ ad, A1 = some ad := by
      obtain ⟨ad, e, _⟩ := hL2.rd.2 (by omega)
      exact ⟨ad, e⟩
    have hLz := hL2.grow gz
    repeat (first | rw [c_seq] | simp -dsimp only [↓RE,RU,RL,if_true,if_false,forall_const,implies_true,Nat.reduceLeDiff,Nat.reduceLT,pureOp,binPure,intBin,strBin,eqPure,isConstO,unPure,sliceLo,sliceHi,slicePure,slice3Pure,lenPure,capPure,minPure,maxPure,buildP,resK,endV,yieldE,↓reduceIte,Nat.reduceEqDiff,reduceCtorEq,Nat.reduceAdd,Nat.reduceMul,Nat.reduceSub,Int.reduceLT,Int.reduceLE,Int.reduceToNat,Int.reduceAdd,Int.reduceSub,Int.reduceMul,ne_eq,decide_true,decide_false,tf29, he14, he15, he16, hd])
    refine ⟨⟨by omega, by omega⟩, hLz.elem wcells_len (by omega) hzk ?_⟩
    repeat (first | rw [c_seq] | simp -dsimp only [↓RE,RU,RL,if_true,if_false,forall_const,implies_true,Nat.reduceLeDiff,Nat.reduceLT,pureOp,binPure,intBin,strBin,eqPure,isConstO,unPure,sliceLo,sliceHi,slicePure,slice3Pure,lenPure,capPure,minPure,maxPure,buildP,resK,endV,yieldE,↓reduceIte,Nat.reduceEqDiff,reduceCtorEq,Nat.reduceAdd,Nat.reduceMul,Nat.reduceSub,Int.reduceLT,Int.reduceLE,Int.reduceToNat,Int.reduceAdd,Int.reduceSub,Int.reduceMul,ne_eq,decide_true,decide_false,tf29, he16])
    refine ⟨rfl, newN rfl (wcells_one _) (fun w4 hb4 g4 => ?_)⟩
    generalize wz.heap.size = b at hb4
    refine os_gen (fun e' => (e' 1 = .func (.func f) #[] #[] ∧ e' 5 = .slice (some ad) n c1 ∧ e' 14 = .slice (some ad) n c1 ∧ e' 15 = .int .i64 (n : Int)) ∧ e' 16 = .int .i64 (k : Int) ∧ e' 6 = vo ∧ e' 7 = .int .i64 (k : Int) ∧ e' 8 = .pointer (some ⟨b, 0, none⟩)) ⟨⟨?_, ?_, ?_, ?_⟩, ?_, ?_, ?_, ?_⟩ ?_
    · simp -dsimp only [↓RE,RU,RL,if_true,if_false,↓reduceIte,Nat.reduceEqDiff,reduceCtorEq,decide_true,decide_false, he1]
    · simp -dsimp only [↓RE,RU,RL,if_true,if_false,↓reduceIte,Nat.reduceEqDiff,reduceCtorEq,decide_true,decide_false, he5]
    · simp -dsimp only [↓RE,RU,RL,if_true,if_false,↓reduceIte,Nat.reduceEqDiff,reduceCtorEq,decide_true,decide_false, he14]
    · simp -dsimp only [↓RE,RU,RL,if_true,if_false,↓reduceIte,Nat.reduceEqDiff,reduceCtorEq,decide_true,decide_false, he15]
    · simp -dsimp only [↓RE,RU,RL,if_true,if_false,↓reduceIte,Nat.reduceEqDiff,reduceCtorEq,decide_true,decide_false, he16]
    · simp -dsimp only [↓RE,RU,RL,if_true,if_false,↓reduceIte,Nat.reduceEqDiff,reduceCtorEq,decide_true,decide_false, he6]
    · simp -dsimp only [↓RE,RU,RL,if_true,if_false,↓reduceIte,Nat.reduceEqDiff,reduceCtorEq,decide_true,decide_false, he16]
    · simp -dsimp only [↓RE,RU,RL,if_true,if_false,↓reduceIte,Nat.reduceEqDiff,reduceCtorEq,decide_true,decide_false, he16]
    clear he1 he5 he14 he15 he16 he6
    rintro e1 ⟨⟨he1, he5, he14, he15⟩, he16, he6, he7, he8⟩
    have gz4 := gz.trans g4
    have hO4 := hO.grow g4
    have hx4 : ∀ w', Grow w4 w' → ∀ (j : Nat) v, (Z.getD k w00).cells[j]? = some v → w'.cell? ((⟨b, 0, none⟩ : Addr).add j) = some v := fun w' g j v hv => by rw [add_lit', Nat.zero_add, (hb4.grow g).cell]; exact hv
    generalize hxg : Z.getD k w00 = x at hd1 hb4 hxm hx4 hzk
    have hxl : x.cells.length = 6 := rfl
    have hfill : putAt #[.string .empty, .slice none 0 0, .string .empty, .int .i64 0, .int .u8 0, .int .i64 0] 0 x.cells = x.cells.toArray := rfl
    have hc66 : (6 = 6 ∧ 6 ≤ 6) := ⟨rfl, Nat.le_refl _⟩
    by_cases hend : k + 1 = n
    · have d2 : decide (((k + 1 : Nat) : Int) = (n : Int)) = true := decide_eq_true (by omega)
      rw [if_neg (fun q => by omega)] at hd1
      repeat (first | rw [c_seq] | simp -dsimp only [↓RE,RU,RL,if_true,if_false,forall_const,implies_true,Nat.reduceLeDiff,Nat.reduceLT,pureOp,binPure,intBin,strBin,eqPure,isConstO,unPure,sliceLo,sliceHi,slicePure,slice3Pure,lenPure,capPure,minPure,maxPure,buildP,resK,endV,yieldE,↓reduceIte,Nat.reduceEqDiff,reduceCtorEq,Nat.reduceAdd,Nat.reduceMul,Nat.reduceSub,Int.reduceLT,Int.reduceLE,Int.reduceToNat,Int.reduceAdd,Int.reduceSub,Int.reduceMul,ne_eq,decide_true,decide_false,tf29, he7])
      refine wpDraw_by (Grow w4 ·) [(0, true), (1, true), (2, true), (3, true), (4, true), (5, true), (6, true), (7, true), (8, true), (9, true), (10, true), (11, true), (12, true), (13, false), (14, true), (15, true)] (by kernel_rfl) (Grow.drew w4) ?_
      simp only [planL, List.getElem?_toArray, List.getElem?_cons_zero, List.getElem?_cons_succ, Option.toList_some, List.map_cons, List.map_nil, List.cons_append, List.nil_append]
      repeat (first | rw [c_seq] | simp -dsimp only [↓RE,RU,RL,if_true,if_false,forall_const,implies_true,Nat.reduceLeDiff,Nat.reduceLT,pureOp,binPure,intBin,strBin,eqPure,isConstO,unPure,sliceLo,sliceHi,slicePure,slice3Pure,lenPure,capPure,minPure,maxPure,buildP,resK,endV,yieldE,↓reduceIte,Nat.reduceEqDiff,reduceCtorEq,Nat.reduceAdd,Nat.reduceMul,Nat.reduceSub,Int.reduceLT,Int.reduceLE,Int.reduceToNat,Int.reduceAdd,Int.reduceSub,Int.reduceMul,ne_eq,decide_true,decide_false,tf29, he5, he7, v1, d2, undef])
      refine ⟨Grow.drew w4, ?_⟩
      repeat (first | rw [c_seq] | simp -dsimp only [↓RE,RU,RL,if_true,if_false,forall_const,implies_true,Nat.reduceLeDiff,Nat.reduceLT,pureOp,binPure,intBin,strBin,eqPure,isConstO,unPure,sliceLo,sliceHi,slicePure,slice3Pure,lenPure,capPure,minPure,maxPure,buildP,resK,endV,yieldE,↓reduceIte,Nat.reduceEqDiff,reduceCtorEq,Nat.reduceAdd,Nat.reduceMul,Nat.reduceSub,Int.reduceLT,Int.reduceLE,Int.reduceToNat,Int.reduceAdd,Int.reduceSub,Int.reduceMul,ne_eq,decide_true,decide_false,tf29, he6, he8])
      refine ⟨x.cells, rfl, hx4 _ (Grow.drew w4), ?_⟩
      repeat (first | rw [c_seq] | simp -dsimp only [↓RE,RU,RL,if_true,if_false,forall_const,implies_true,Nat.reduceLeDiff,Nat.reduceLT,pureOp,binPure,intBin,strBin,eqPure,isConstO,unPure,sliceLo,sliceHi,slicePure,slice3Pure,lenPure,capPure,minPure,maxPure,buildP,resK,endV,yieldE,↓reduceIte,Nat.reduceEqDiff,reduceCtorEq,Nat.reduceAdd,Nat.reduceMul,Nat.reduceSub,Int.reduceLT,Int.reduceLE,Int.reduceToNat,Int.reduceAdd,Int.reduceSub,Int.reduceMul,ne_eq,decide_true,decide_false,tf29, he6, hxl, hfill, hc66, and_self, Nat.le_refl])
      have ga := Grow.alloc w4.drew (.cells x.cells.toArray 37)
      have gG := (gz4.trans (Grow.drew w4)).trans ga
      refine app_w (hO4.grow ((Grow.drew w4).trans ga)) (one_row w4.drew x) (by omega) (fun A' c' w7 hL7 k7 f7 => ?_)
      have hs7 := gG.size
      have g7 : Grow w2 w7 := gG.above k7 (fun q hq e => by have := hF q e; omega)
      repeat (first | rw [c_seq] | simp -dsimp only [↓RE,RU,RL,if_true,if_false,forall_const,implies_true,Nat.reduceLeDiff,Nat.reduceLT,pureOp,binPure,intBin,strBin,eqPure,isConstO,unPure,sliceLo,sliceHi,slicePure,slice3Pure,lenPure,capPure,minPure,maxPure,buildP,resK,endV,yieldE,↓reduceIte,Nat.reduceEqDiff,reduceCtorEq,Nat.reduceAdd,Nat.reduceMul,Nat.reduceSub,Int.reduceLT,Int.reduceLE,Int.reduceToNat,Int.reduceAdd,Int.reduceSub,Int.reduceMul,ne_eq,decide_true,decide_false,tf29, he16, v1])
      refine hold_intro ⟨⟨g7, ⟨?_, ?_, ?_, ?_⟩, k + 1, Out ++ [x], .slice A' (Out.length + 1) c', hlt, ?_, ?_, ?_, ?_, hL7, fun q hq => ?_⟩, ?_⟩
      · simp -dsimp only [↓RE,RU,RL,if_true,if_false,↓reduceIte,Nat.reduceEqDiff,reduceCtorEq,decide_true,decide_false, he1]
      · simp -dsimp only [↓RE,RU,RL,if_true,if_false,↓reduceIte,Nat.reduceEqDiff,reduceCtorEq,decide_true,decide_false, he5]
      · simp -dsimp only [↓RE,RU,RL,if_true,if_false,↓reduceIte,Nat.reduceEqDiff,reduceCtorEq,decide_true,decide_false, he14]
      · simp -dsimp only [↓RE,RU,RL,if_true,if_false,↓reduceIte,Nat.reduceEqDiff,reduceCtorEq,decide_true,decide_false, he15]
      · simp -dsimp only [↓RE,RU,RL,if_true,if_false,↓reduceIte,Nat.reduceEqDiff,reduceCtorEq,decide_true,decide_false, he16, v1]
      · simp -dsimp only [↓RE,RU,RL,if_true,if_false,↓reduceIte,Nat.reduceEqDiff,reduceCtorEq,decide_true,decide_false, he6]
      · rw [← hout, hd1]; simp
      · simp; omega
      · rcases f7 q hq with e | e
        · exact hF q e
        · omega
      · rw [hmu]
        simp -dsimp only [↓RE,↓c_seq,RU,RL,if_true,if_false,forall_const,implies_true,Nat.reduceLeDiff,Nat.reduceLT,pureOp,binPure,intBin,strBin,eqPure,isConstO,unPure,sliceLo,sliceHi,slicePure,slice3Pure,lenPure,capPure,minPure,maxPure,buildP,resK,endV,yieldE,↓reduceIte,Nat.reduceEqDiff,reduceCtorEq,Nat.reduceAdd,Nat.reduceMul,Nat.reduceSub,Int.reduceLT,Int.reduceLE,Int.reduceToNat,Int.reduceAdd,Int.reduceSub,Int.reduceMul,ne_eq,decide_true,decide_false,tf29, he16, v1, envInt, Int.toNat_natCast]
        omega
    · have d2 : decide (((k + 1 : Nat) : Int) = (n : Int)) = false := decide_eq_false (by omega)
      obtain ⟨y, hyg⟩ : ∃ y, y = Z.getD (k + 1) w00 := ⟨_, rfl⟩
      have hyk := getD_some (l := Z) (k := k + 1) (by omega)
      have hym : y ∈ Z := by rw [hyg]; exact getD_mem (by omega)
      rw [← hyg] at hyk hd1
      have hLz4 := hL2.grow gz4
      have hy4 : ∀ w', Grow w4 w' → ∀ (j : Nat) v, y.cells[j]? = some v → w'.cell? ((ad.add ((k + 1) * 6)).add j) = some v := fun w' g j v hv => by
        obtain ⟨_, ad', hA, hcc⟩ := (hLz4.grow g).rd.flat (size := 6) (fun a _ => wcells_len a) hyk (by omega)
        injection hA with hA
        subst hA
        exact hcc j v hv
      repeat (first | rw [c_seq] | simp -dsimp only [↓RE,RU,RL,if_true,if_false,forall_const,implies_true,Nat.reduceLeDiff,Nat.reduceLT,pureOp,binPure,intBin,strBin,eqPure,isConstO,unPure,sliceLo,sliceHi,slicePure,slice3Pure,lenPure,capPure,minPure,maxPure,buildP,resK,endV,yieldE,↓reduceIte,Nat.reduceEqDiff,reduceCtorEq,Nat.reduceAdd,Nat.reduceMul,Nat.reduceSub,Int.reduceLT,Int.reduceLE,Int.reduceToNat,Int.reduceAdd,Int.reduceSub,Int.reduceMul,ne_eq,decide_true,decide_false,tf29, he7])
      refine wpDraw_by (Grow w4 ·) [(0, true), (1, true), (2, true), (3, true), (4, true), (5, true), (6, true), (7, true), (8, true), (9, true), (10, true), (11, true), (12, true), (13, false), (14, true), (15, true)] (by kernel_rfl) (Grow.drew w4) ?_
      simp only [planL, List.getElem?_toArray, List.getElem?_cons_zero, List.getElem?_cons_succ, Option.toList_some, List.map_cons, List.map_nil, List.cons_append, List.nil_append]
      repeat (first | rw [c_seq] | simp -dsimp only [↓RE,RU,RL,if_true,if_false,forall_const,implies_true,Nat.reduceLeDiff,Nat.reduceLT,pureOp,binPure,intBin,strBin,eqPure,isConstO,unPure,sliceLo,sliceHi,slicePure,slice3Pure,lenPure,capPure,minPure,maxPure,buildP,resK,endV,yieldE,↓reduceIte,Nat.reduceEqDiff,reduceCtorEq,Nat.reduceAdd,Nat.reduceMul,Nat.reduceSub,Int.reduceLT,Int.reduceLE,Int.reduceToNat,Int.reduceAdd,Int.reduceSub,Int.reduceMul,ne_eq,decide_true,decide_false,tf29, he1, he5, he7, he8, v1, d2, Int.toNat_natCast])
      refine ⟨x.cells, rfl, hx4, ?_⟩
      repeat (first | rw [c_seq] | simp -dsimp only [↓RE,RU,RL,if_true,if_false,forall_const,implies_true,Nat.reduceLeDiff,Nat.reduceLT,pureOp,binPure,intBin,strBin,eqPure,isConstO,unPure,sliceLo,sliceHi,slicePure,slice3Pure,lenPure,capPure,minPure,maxPure,buildP,resK,endV,yieldE,↓reduceIte,Nat.reduceEqDiff,reduceCtorEq,Nat.reduceAdd,Nat.reduceMul,Nat.reduceSub,Int.reduceLT,Int.reduceLE,Int.reduceToNat,Int.reduceAdd,Int.reduceSub,Int.reduceMul,ne_eq,decide_true,decide_false,tf29, he1, he5, he7, he8, v1, d2, Int.toNat_natCast])
      refine ⟨⟨by omega, by omega⟩, y.cells, rfl, hy4, ?_⟩
      repeat (first | rw [c_seq] | simp -dsimp only [↓RE,RU,RL,if_true,if_false,forall_const,implies_true,Nat.reduceLeDiff,Nat.reduceLT,pureOp,binPure,intBin,strBin,eqPure,isConstO,unPure,sliceLo,sliceHi,slicePure,slice3Pure,lenPure,capPure,minPure,maxPure,buildP,resK,endV,yieldE,↓reduceIte,Nat.reduceEqDiff,reduceCtorEq,Nat.reduceAdd,Nat.reduceMul,Nat.reduceSub,Int.reduceLT,Int.reduceLE,Int.reduceToNat,Int.reduceAdd,Int.reduceSub,Int.reduceMul,ne_eq,decide_true,decide_false,tf29, he1, hcall])
      have g5 := gz4.trans (Grow.drew w4)
      refine hf.cmp w4.drew x y ((hoZ x hxm).grow g5) ((hoZ y hym).grow g5) _ (fun w6 g6 => ?_)
      refine ⟨(Grow.drew w4).trans g6, ?_⟩
      by_cases hz : cf x y = 0
      · have hz' : decide (cf x y = 0) = true := decide_eq_true hz
        rw [if_pos ⟨by omega, hz⟩] at hd1
        rw [hd1] at hout
        repeat (first | rw [c_seq] | simp -dsimp only [↓RE,RU,RL,if_true,if_false,forall_const,implies_true,Nat.reduceLeDiff,Nat.reduceLT,pureOp,binPure,intBin,strBin,eqPure,isConstO,unPure,sliceLo,sliceHi,slicePure,slice3Pure,lenPure,capPure,minPure,maxPure,buildP,resK,endV,yieldE,↓reduceIte,Nat.reduceEqDiff,reduceCtorEq,Nat.reduceAdd,Nat.reduceMul,Nat.reduceSub,Int.reduceLT,Int.reduceLE,Int.reduceToNat,Int.reduceAdd,Int.reduceSub,Int.reduceMul,ne_eq,decide_true,decide_false,tf29, hz', Bool.not_true, he16, v1])
        refine hold_intro ⟨⟨g5.trans g6, ⟨?_, ?_, ?_, ?_⟩, k + 1, Out, vo, hlt, ?_, ?_, hout, by omega, hO4.grow ((Grow.drew w4).trans g6), hF⟩, ?_⟩
        · simp -dsimp only [↓RE,RU,RL,if_true,if_false,↓reduceIte,Nat.reduceEqDiff,reduceCtorEq,decide_true,decide_false, he1]
        · simp -dsimp only [↓RE,RU,RL,if_true,if_false,↓reduceIte,Nat.reduceEqDiff,reduceCtorEq,decide_true,decide_false, he5]
        · simp -dsimp only [↓RE,RU,RL,if_true,if_false,↓reduceIte,Nat.reduceEqDiff,reduceCtorEq,decide_true,decide_false, he14]
        · simp -dsimp only [↓RE,RU,RL,if_true,if_false,↓reduceIte,Nat.reduceEqDiff,reduceCtorEq,decide_true,decide_false, he15]
        · simp -dsimp only [↓RE,RU,RL,if_true,if_false,↓reduceIte,Nat.reduceEqDiff,reduceCtorEq,decide_true,decide_false, he16, v1]
        · simp -dsimp only [↓RE,RU,RL,if_true,if_false,↓reduceIte,Nat.reduceEqDiff,reduceCtorEq,decide_true,decide_false, he6]
        · rw [hmu]
          simp -dsimp only [↓RE,↓c_seq,RU,RL,if_true,if_false,forall_const,implies_true,Nat.reduceLeDiff,Nat.reduceLT,pureOp,binPure,intBin,strBin,eqPure,isConstO,unPure,sliceLo,sliceHi,slicePure,slice3Pure,lenPure,capPure,minPure,maxPure,buildP,resK,endV,yieldE,↓reduceIte,Nat.reduceEqDiff,reduceCtorEq,Nat.reduceAdd,Nat.reduceMul,Nat.reduceSub,Int.reduceLT,Int.reduceLE,Int.reduceToNat,Int.reduceAdd,Int.reduceSub,Int.reduceMul,ne_eq,decide_true,decide_false,tf29, he16, v1, envInt, Int.toNat_natCast]
          omega
      · have hz' : decide (cf x y = 0) = false := decide_eq_false hz
        rw [if_neg (fun q => hz q.2)] at hd1
        repeat (first | rw [c_seq] | simp -dsimp only [↓RE,RU,RL,if_true,if_false,forall_const,implies_true,Nat.reduceLeDiff,Nat.reduceLT,pureOp,binPure,intBin,strBin,eqPure,isConstO,unPure,sliceLo,sliceHi,slicePure,slice3Pure,lenPure,capPure,minPure,maxPure,buildP,resK,endV,yieldE,↓reduceIte,Nat.reduceEqDiff,reduceCtorEq,Nat.reduceAdd,Nat.reduceMul,Nat.reduceSub,Int.reduceLT,Int.reduceLE,Int.reduceToNat,Int.reduceAdd,Int.reduceSub,Int.reduceMul,ne_eq,decide_true,decide_false,tf29, hz', Bool.not_false, he6, he8])
        refine ⟨x.cells, rfl, hx4 _ ((Grow.drew w4).trans g6), ?_⟩
        repeat (first | rw [c_seq] | simp -dsimp only [↓RE,RU,RL,if_true,if_false,forall_const,implies_true,Nat.reduceLeDiff,Nat.reduceLT,pureOp,binPure,intBin,strBin,eqPure,isConstO,unPure,sliceLo,sliceHi,slicePure,slice3Pure,lenPure,capPure,minPure,maxPure,buildP,resK,endV,yieldE,↓reduceIte,Nat.reduceEqDiff,reduceCtorEq,Nat.reduceAdd,Nat.reduceMul,Nat.reduceSub,Int.reduceLT,Int.reduceLE,Int.reduceToNat,Int.reduceAdd,Int.reduceSub,Int.reduceMul,ne_eq,decide_true,decide_false,tf29, he6, hxl, hfill, hc66, and_self, Nat.le_refl])
        have ga := Grow.alloc w6 (.cells x.cells.toArray 37)
        have gG := (g5.trans g6).trans ga
        refine app_w (hO4.grow (((Grow.drew w4).trans g6).trans ga)) (one_row w6 x) (by omega) (fun A' c' w7 hL7 k7 f7 => ?_)
        have hs7 := gG.size
        have g7 : Grow w2 w7 := gG.above k7 (fun q hq e => by have := hF q e; omega)
        repeat (first | rw [c_seq] | simp -dsimp only [↓RE,RU,RL,if_true,if_false,forall_const,implies_true,Nat.reduceLeDiff,Nat.reduceLT,pureOp,binPure,intBin,strBin,eqPure,isConstO,unPure,sliceLo,sliceHi,slicePure,slice3Pure,lenPure,capPure,minPure,maxPure,buildP,resK,endV,yieldE,↓reduceIte,Nat.reduceEqDiff,reduceCtorEq,Nat.reduceAdd,Nat.reduceMul,Nat.reduceSub,Int.reduceLT,Int.reduceLE,Int.reduceToNat,Int.reduceAdd,Int.reduceSub,Int.reduceMul,ne_eq,decide_true,decide_false,tf29, he16, v1])
        refine hold_intro ⟨⟨g7, ⟨?_, ?_, ?_, ?_⟩, k + 1, Out ++ [x], .slice A' (Out.length + 1) c', hlt, ?_, ?_, ?_, ?_, hL7, fun q hq => ?_⟩, ?_⟩
        · simp -dsimp only [↓RE,RU,RL,if_true,if_false,↓reduceIte,Nat.reduceEqDiff,reduceCtorEq,decide_true,decide_false, he1]
        · simp -dsimp only [↓RE,RU,RL,if_true,if_false,↓reduceIte,Nat.reduceEqDiff,reduceCtorEq,decide_true,decide_false, he5]
        · simp -dsimp only [↓RE,RU,RL,if_true,if_false,↓reduceIte,Nat.reduceEqDiff,reduceCtorEq,decide_true,decide_false, he14]
        · simp -dsimp only [↓RE,RU,RL,if_true,if_false,↓reduceIte,Nat.reduceEqDiff,reduceCtorEq,decide_true,decide_false, he15]
        · simp -dsimp only [↓RE,RU,RL,if_true,if_false,↓reduceIte,Nat.reduceEqDiff,reduceCtorEq,decide_true,decide_false, he16, v1]
        · simp -dsimp only [↓RE,RU,RL,if_true,if_false,↓reduceIte,Nat.reduceEqDiff,reduceCtorEq,decide_true,decide_false, he6]
        · rw [← hout, hd1]; simp
        · simp; omega
        · rcases f7 q hq with e | e
          · exact hF q e
          · omega
        · rw [hmu]
          simp -dsimp only [↓RE,↓c_seq,RU,RL,if_true,if_false,forall_const,implies_true,Nat.reduceLeDiff,Nat.reduceLT,pureOp,binPure,intBin,strBin,eqPure,isConstO,unPure,sliceLo,sliceHi,slicePure,slice3Pure,lenPure,capPure,minPure,maxPure,buildP,resK,endV,yieldE,↓reduceIte,Nat.reduceEqDiff,reduceCtorEq,Nat.reduceAdd,Nat.reduceMul,Nat.reduceSub,Int.reduceLT,Int.reduceLE,Int.reduceToNat,Int.reduceAdd,Int.reduceSub,Int.reduceMul,ne_eq,decide_true,decide_false,tf29, he16, v1, envInt, Int.toNat_natCast]
          omega
  · have hd : decide ((k : Int) < (n : Int)) = false := decide_eq_false (by omega)
    rw [List.drop_eq_nil_of_le (by omega)] at hout
    have hout : Out = gLoad cf [] L := by rw [← hlast, ← hout]; simp [lastK]
    subst hout
    repeat (first | rw [c_seq] | simp -dsimp only [↓RE,RU,RL,if_true,if_false,forall_const,implies_true,Nat.reduceLeDiff,Nat.reduceLT,pureOp,binPure,intBin,strBin,eqPure,isConstO,unPure,sliceLo,sliceHi,slicePure,slice3Pure,lenPure,capPure,minPure,maxPure,buildP,resK,endV,yieldE,↓reduceIte,Nat.reduceEqDiff,reduceCtorEq,Nat.reduceAdd,Nat.reduceMul,Nat.reduceSub,Int.reduceLT,Int.reduceLE,Int.reduceToNat,Int.reduceAdd,Int.reduceSub,Int.reduceMul,ne_eq,decide_true,decide_false,tf29, he15, he16, he6, hd])
    exact hR wz vo hO (g2.trans gz) (fun q hq => by have := hF q hq; have := g2.size; omega)

end Go.Proofs.Ytifaobnemnbfhaa
