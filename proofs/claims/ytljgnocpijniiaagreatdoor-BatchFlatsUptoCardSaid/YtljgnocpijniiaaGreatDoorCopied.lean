/- points in memory of their own, a marked one behind them (copied). -/
import Derived.Test.YtljgnocpijniiaaGreatDoorPtRow
import Derived.Test.YtljgnocpijniiaaGreatDoorFlatP
import Derived.Test.YtljgnocpijniiaaGreatDoorDrawT
import Derived.Test.YtljgnocpijniiaaGreatDoorInsSrt
set_option linter.unusedVariables false
set_option linter.unusedSimpArgs false
set_option maxRecDepth 100000
namespace Go.Proofs.YtljgnocpijniiaaGreatDoor
open Go

def sMk : ByteArray := ⟨#[109, 97, 114, 107]⟩
def tMk : Tg := (sMk, .empty)
def fMk : Fd := (sMk, 0)
def pMk : PtV := ⟨⟨sMk, [], [], 0⟩, none, 0, 0, none, 0, 0⟩
abbrev FRow (w : World) (v : Value) (l : List Fd) : Prop := LRow w 98 2 v l.length (l.flatMap fcells)
theorem fcells_one (l : List Fd) : ∀ u ∈ l.flatMap fcells, u.oneCell' = true := by
  intro u hu
  obtain ⟨x, _, hx⟩ := List.mem_flatMap.1 hu
  simp only [fcells, List.mem_cons, List.not_mem_nil, or_false] at hx
  rcases hx with rfl | rfl <;> rfl
theorem app_f {w : World} {v : Value} {L : List Fd} (h : FRow w v L) {A : Option Addr} {n c : Nat} {xs : List Fd} (hX : RdF w A n xs) (hn : L.length + n ≤ 1000000000000) {ty : TypeId} {K : VWK} {tk : Tok K}
    (hK : ∀ A' c' w', LRow w' 98 2 (.slice A' (L.length + n) c') (L ++ xs).length ((L ++ xs).flatMap fcells) → Keep (fpV v) w w' → (∀ q, fpV (.slice A' (L.length + n) c') q → fpV v q ∨ q = w.heap.size) → K (.slice A' (L.length + n) c') w') :
    appK Tryz.prog [23, 23] ty [v, .slice A n c] w K tk := by
  have hl := hX.flen
  refine appK_l (bytes := 24) (by kernel_rfl) h hX (fcells_one xs) (by simp only [maxLen]; omega) (by omega) (fun A' c' w' hL k1 f1 _ => hK A' c' w' ?_ k1 f1)
  rw [List.flatMap_append, List.length_append, hl]
  exact hL
theorem one_frow (w : World) (x : Fd) : RdF (w.alloc (.cells #[.string x.1, .int .i64 x.2] 98)) (some ⟨w.heap.size, 0, none⟩) 1 [x] := by
  have := Rd.of_own (own_new w 98 2 1 #[.string x.1, .int .i64 x.2] rfl (by simp [maxLen]))
  exact this
theorem Rd.pre' {w : World} {A : Option Addr} {n m size : Nat} {xs ys : List Value} (h : Rd w A (n + m) size (xs ++ ys)) (hl : xs.length = n * size) : Rd w A n size xs := by
  refine ⟨hl, fun hn => ?_⟩
  obtain ⟨ad, e, hc⟩ := h.2 (by omega)
  refine ⟨ad, e, fun j u hj => hc j u ?_⟩
  rw [List.getElem?_append_left (List.getElem?_eq_some_iff.1 hj).1]
  exact hj
/-- a point's rows are its own, and behind each stands the mark. -/
structure PMk (w : World) (x : PtV) : Prop where
  tg : LRow w 115 2 (.slice x.A (x.n + 1) x.c) (x.n + 1) ((x.p.tags ++ [tMk]).flatMap tcells)
  fl : LRow w 98 2 (.slice x.B (x.k + 1) x.d) (x.k + 1) ((x.p.fields ++ [fMk]).flatMap fcells)
  hn : x.p.tags.length = x.n
  hk : x.p.fields.length = x.k
theorem PMk.keep {F : Nat → Prop} {w w' : World} {x : PtV} (h : PMk w x) (k : Keep F w w') (h1 : ∀ q, fpV (.slice x.A (x.n + 1) x.c) q → ¬ F q) (h2 : ∀ q, fpV (.slice x.B (x.k + 1) x.d) q → ¬ F q) : PMk w' x :=
  ⟨h.tg.keep k h1, h.fl.keep k h2, h.hn, h.hk⟩
theorem PMk.grow {w w' : World} {x : PtV} (h : PMk w x) (k : Grow w w') : PMk w' x := h.keep k (fun _ _ h => h) (fun _ _ h => h)
theorem PMk.tags {w : World} {x : PtV} (h : PMk w x) : RdT w x.A x.n x.p.tags := by
  have := h.tg.rd
  rw [List.flatMap_append] at this
  exact this.pre' (by rw [flat_lengthT, h.hn])
theorem PMk.fields {w : World} {x : PtV} (h : PMk w x) : RdF w x.B x.k x.p.fields := by
  have := h.fl.rd
  rw [List.flatMap_append] at this
  exact this.pre' (by rw [flat_len fcells (size := 2) _ (fun _ _ => rfl), h.hk])
structure PMark (w : World) (A : Option Addr) (n c : Nat) (Q : List PtV) : Prop where
  len : Q.length = n
  row : LRow w 25 4 (.slice A (n + 1) c) (n + 1) ((Q ++ [pMk]).flatMap PtV.cells)
  els : ∀ x ∈ Q, x.Ok w ∧ PMk w x
theorem PMark.grow {w w' : World} {A : Option Addr} {n c : Nat} {Q : List PtV} (h : PMark w A n c Q) (g : Grow w w') : PMark w' A n c Q :=
  ⟨h.len, h.row.grow g, fun x hx => ⟨(h.els x hx).1.grow g, (h.els x hx).2.grow g⟩⟩
theorem pflat_len (l : List PtV) : (l.flatMap PtV.cells).length = l.length * 4 := flat_len PtV.cells (size := 4) l (fun _ _ => rfl)
theorem PMark.rd {w : World} {A : Option Addr} {n c : Nat} {Q : List PtV} (h : PMark w A n c Q) : RdP w A n Q := by
  have := h.row.rd
  rw [List.flatMap_append] at this
  exact this.pre' (by rw [pflat_len, h.len])
theorem one_ptrow (w : World) (x : PtV) : RdP (w.alloc (.cells x.cells.toArray 25)) (some ⟨w.heap.size, 0, none⟩) 1 [x] := by
  have := Rd.of_own (own_new w 25 4 1 x.cells.toArray rfl (by simp [maxLen]))
  have e : ([x] : List PtV).flatMap PtV.cells = x.cells := by simp
  rw [RdP, e]; exact this
theorem slice_to {A : Option Addr} {c : Nat} : (if c = 0 then A else A.map (fun x => x.add 0)) = A := by
  split
  · rfl
  · cases A with
    | none => rfl
    | some ad => rw [Option.map_some, add_zero']
theorem heap_alloc_size (w : World) (o : Obj) : (w.alloc o).heap.size = w.heap.size + 1 := Array.size_push _
abbrev copyTree : PlanT := .fork [(1, true), (2, true), (4, true), (7, true), (8, true), (9, true)] 0 5 (.fork [] 3 5 (.leaf [(5, false), (6, false), (10, true), (11, true)]) (.leaf [(3, false), (6, false), (10, true), (11, true)])) (.leaf [(0, false), (3, false), (6, false), (10, true), (11, true)])
set_option maxHeartbeats 8000000 in
theorem copied_ok {w : World} {A : Option Addr} {n c : Nat} {X : List PtV} (hX : RdP w A n X) (hoX : ∀ x ∈ X, x.Ok w) (hn : n ≤ 100000000) {R : VWK}
    (h : ∀ w' A' c' Q, PMark w' A' n c' Q → Q.map PtV.p = X.map PtV.p → Grow w w' → R (.slice A' n c') w') : CallsV Tryz.prog 17 [.slice A n c] w R := by
  have hXl := hX.plen
  refine calls_of_wpC mixed Tryz.func17 rfl (by kernel_rfl) ?_
  intro e he
  have he0 := he 0
  simp only [List.getD_cons_zero, List.getD_cons_succ] at he0
  clear he
  repeat (first | rw [c_seq] | simp -dsimp only [↓RE,RU,RL,if_true,if_false,forall_const,implies_true,Nat.reduceLeDiff,Nat.reduceLT,pureOp,binPure,intBin,strBin,sliceLo,sliceHi,slicePure,lenPure,buildP,resK,endV,↓reduceIte,Nat.reduceEqDiff,reduceCtorEq,Nat.reduceAdd,Nat.reduceMul,Nat.reduceSub,Int.reduceLT,Int.reduceLE,Int.reduceToNat,Int.reduceAdd,ne_eq,decide_true,decide_false,tf17, he0])
  refine wpLoop_intro (fun e' w' => Grow w w' ∧ e' 0 = .slice A n c ∧ ∃ (k : Nat) (Out : List PtV) (v : Value), k ≤ n ∧ e' 4 = .int .i64 (k : Int) ∧ e' 3 = v ∧ Out.map PtV.p = (X.take k).map PtV.p ∧ PRow w' v Out ∧ (∀ x ∈ Out, x.Ok w' ∧ PMk w' x) ∧ (∀ q, fpV v q → w.heap.size ≤ q))
    (fun e' _ => n - (envInt (e' 4)).toNat) ⟨Keep.refl _ _, ?_, 0, [], .slice none 0 0, Nat.zero_le _, ?_, ?_, rfl, LRow.nil _ _ _, (fun x hx => by cases hx), fun q hq => (fpV_none _ hq).elim⟩ ?_
  · simp -dsimp only [↓RE,RU,RL,if_true,if_false,↓reduceIte,Nat.reduceEqDiff,reduceCtorEq,decide_true,decide_false, he0]
  · simp -dsimp only [↓RE,RU,RL,if_true,if_false,↓reduceIte,Nat.reduceEqDiff,reduceCtorEq,decide_true,decide_false, he0]
    rfl
  · simp -dsimp only [↓RE,RU,RL,if_true,if_false,↓reduceIte,Nat.reduceEqDiff,reduceCtorEq,decide_true,decide_false, he0]
  clear he0 e
  rintro e w1 ⟨g1, he0, k, Out, v, hk, he4, he3, hout, hv, hok, hF⟩
  have hol : Out.length = k := by have := congrArg List.length hout; rw [List.length_map, List.length_map, List.length_take] at this; omega
  rcases Nat.lt_or_ge k n with hlt | hge
  · have hdk : decide ((k : Int) < (n : Int)) = true := decide_eq_true (by omega)
    have hw1 : IntKind.i64.wrap ((k : Int) + 1) = ((k + 1 : Nat) : Int) := by rw [wrap_i64_in (by omega) (by omega)]; omega
    obtain ⟨ad, rfl⟩ : ∃ ad, A = some ad := by
      obtain ⟨ad, e, _⟩ := hX.2 (by omega)
      exact ⟨ad, e⟩
    have hcs := (Rd.grow hX g1).pt hlt
    have hox := hoX _ (getP_mem (l := X) (k := k) (by omega))
    have hmu : (envInt (e 4)).toNat = k := by rw [he4]; exact Int.toNat_natCast k
    have hsn := ptk_snoc (l := X) (k := k) (by omega)
    generalize X.getD k p00 = x at hcs hox hsn
    have htl := hox.tags.tlen
    have hfl := hox.fields.flen
    have hxn := hox.hn
    have hxk := hox.hk
    rw [c_seq, c_seq]
    simp -dsimp only [↓RE,RU,RL,if_true,if_false,forall_const,implies_true,Nat.reduceLeDiff,Nat.reduceLT,pureOp,binPure,intBin,strBin,sliceLo,sliceHi,slicePure,lenPure,buildP,resK,endV,↓reduceIte,Nat.reduceEqDiff,reduceCtorEq,Nat.reduceAdd,Nat.reduceMul,Nat.reduceSub,Int.reduceLT,Int.reduceLE,Int.reduceToNat,Int.reduceAdd,ne_eq,decide_true,decide_false,tf17, he0, he4, hdk]
    rw [c_seq]
    simp -dsimp only [↓RE,RU,RL,if_true,if_false,forall_const,implies_true,Nat.reduceLeDiff,Nat.reduceLT,pureOp,binPure,intBin,strBin,sliceLo,sliceHi,slicePure,lenPure,buildP,resK,endV,↓reduceIte,Nat.reduceEqDiff,reduceCtorEq,Nat.reduceAdd,Nat.reduceMul,Nat.reduceSub,Int.reduceLT,Int.reduceLE,Int.reduceToNat,Int.reduceAdd,ne_eq,decide_true,decide_false,tf17, he0, he4, hdk]
    rw [c_seq]
    simp -dsimp only [↓RE,RU,RL,if_true,if_false,forall_const,implies_true,Nat.reduceLeDiff,Nat.reduceLT,pureOp,binPure,intBin,strBin,sliceLo,sliceHi,slicePure,lenPure,buildP,resK,endV,↓reduceIte,Nat.reduceEqDiff,reduceCtorEq,Nat.reduceAdd,Nat.reduceMul,Nat.reduceSub,Int.reduceLT,Int.reduceLE,Int.reduceToNat,Int.reduceAdd,ne_eq,decide_true,decide_false,tf17, he0, he4, Int.toNat_natCast]
    refine ⟨⟨by omega, by omega⟩, x.cells, rfl, hcs, ?_⟩
    simp -dsimp only [↓RE,RU,RL,if_true,if_false,forall_const,implies_true,Nat.reduceLeDiff,Nat.reduceLT,pureOp,binPure,intBin,strBin,sliceLo,sliceHi,slicePure,lenPure,buildP,resK,endV,↓reduceIte,Nat.reduceEqDiff,reduceCtorEq,Nat.reduceAdd,Nat.reduceMul,Nat.reduceSub,Int.reduceLT,Int.reduceLE,Int.reduceToNat,Int.reduceAdd,ne_eq,decide_true,decide_false,tf17, he0, he4, Int.toNat_natCast]
    refine ⟨rfl, newN (cs := x.cells) rfl (pcells_one x) (fun w2 hb g2 => ?_)⟩
    have hb1 : w1.heap.size ≤ w1.heap.size := Nat.le_refl _
    generalize hbe : w1.heap.size = b at hb
    refine os_gen (fun e' => e' 0 = .slice (some ad) n c ∧ e' 3 = v ∧ e' 4 = .int .i64 (k : Int) ∧ e' 5 = .pointer (some ⟨b, 0, none⟩)) ⟨?_, ?_, ?_, ?_⟩ ?_
    · simp -dsimp only [↓RE,RU,RL,if_true,if_false,↓reduceIte,Nat.reduceEqDiff,reduceCtorEq,decide_true,decide_false, he0]
    · simp -dsimp only [↓RE,RU,RL,if_true,if_false,↓reduceIte,Nat.reduceEqDiff,reduceCtorEq,decide_true,decide_false, he3]
    · simp -dsimp only [↓RE,RU,RL,if_true,if_false,↓reduceIte,Nat.reduceEqDiff,reduceCtorEq,decide_true,decide_false, he4]
    · simp -dsimp only [↓RE,RU,RL,if_true,if_false,↓reduceIte,Nat.reduceEqDiff,reduceCtorEq,decide_true,decide_false, he4, hbe]
    clear he0 he3 he4
    rintro e1 ⟨he0, he3, he4, he5⟩
    have q1 : ∀ w', Grow w2 w' → w'.cell? ⟨b, 1, none⟩ = some (.slice x.A x.n x.c) := fun w' g => ((hb.grow g).cell 1).trans rfl
    have g12 := g1.trans g2
    have hsl0 : True := trivial
    have hel0 : True := trivial
    have hb0 : Blk w2 b 25 [.string x.p.m, .slice x.A x.n x.c, .slice x.B x.k x.d, .int .i64 x.p.t] := hb
    refine c_seq_cut (fun e' w' => (e' 0 = .slice (some ad) n c ∧ e' 3 = v ∧ e' 4 = .int .i64 (k : Int) ∧ e' 5 = .pointer (some ⟨b, 0, none⟩)) ∧ Keep (fun q => q = b) w2 w' ∧ ∃ A' c', Blk w' b 25 [.string x.p.m, .slice A' x.n c', .slice x.B x.k x.d, .int .i64 x.p.t] ∧ LRow w' 115 2 (.slice A' (x.n + 1) c') (x.n + 1) ((x.p.tags ++ [tMk]).flatMap tcells)) ?_ ?_
    · simp -dsimp only [↓RE,RU,RL,if_true,if_false,forall_const,implies_true,Nat.reduceLeDiff,Nat.reduceLT,pureOp,binPure,intBin,strBin,sliceLo,sliceHi,slicePure,lenPure,buildP,resK,endV,↓reduceIte,Nat.reduceEqDiff,reduceCtorEq,Nat.reduceAdd,Nat.reduceMul,Nat.reduceSub,Int.reduceLT,Int.reduceLE,Int.reduceToNat,Int.reduceAdd,ne_eq,decide_true,decide_false,tf17, he0]
      refine wpDraw_treeF (Grow w2 ·) copyTree 12 (by kernel_rfl) (Grow.drew w2) ?_
      refine wpTL_fork ?_
      simp only [planL, List.getElem?_toArray, List.getElem?_cons_zero, List.getElem?_cons_succ, Option.toList_some, List.map_cons, List.map_nil, List.cons_append, List.nil_append]
      repeat (first | rw [c_seq] | simp -dsimp only [↓RE,RU,RL,if_true,if_false,forall_const,implies_true,Nat.reduceLeDiff,Nat.reduceLT,pureOp,binPure,intBin,strBin,sliceLo,sliceHi,slicePure,lenPure,buildP,resK,endV,↓reduceIte,Nat.reduceEqDiff,reduceCtorEq,Nat.reduceAdd,Nat.reduceMul,Nat.reduceSub,Int.reduceLT,Int.reduceLE,Int.reduceToNat,Int.reduceAdd,ne_eq,decide_true,decide_false,tf17, he5, add_lit', Nat.zero_add])
      refine ⟨_, q1, ?_⟩
      repeat (first | rw [c_seq] | simp -dsimp only [↓RE,RU,RL,if_true,if_false,forall_const,implies_true,Nat.reduceLeDiff,Nat.reduceLT,pureOp,binPure,intBin,strBin,sliceLo,sliceHi,slicePure,lenPure,buildP,resK,endV,↓reduceIte,Nat.reduceEqDiff,reduceCtorEq,Nat.reduceAdd,Nat.reduceMul,Nat.reduceSub,Int.reduceLT,Int.reduceLE,Int.reduceToNat,Int.reduceAdd,ne_eq,decide_true,decide_false,tf17, he5, add_lit', Nat.zero_add])
      refine ⟨_, q1, ?_⟩
      repeat (first | rw [c_seq] | simp -dsimp only [↓RE,RU,RL,if_true,if_false,forall_const,implies_true,Nat.reduceLeDiff,Nat.reduceLT,pureOp,binPure,intBin,strBin,sliceLo,sliceHi,slicePure,lenPure,buildP,resK,endV,↓reduceIte,Nat.reduceEqDiff,reduceCtorEq,Nat.reduceAdd,Nat.reduceMul,Nat.reduceSub,Int.reduceLT,Int.reduceLE,Int.reduceToNat,Int.reduceAdd,ne_eq,decide_true,decide_false,tf17, he5, add_lit', Nat.zero_add])
      have gd := Grow.drew w2
      have hsd : w2.drew.heap.size = w2.heap.size := rfl
      refine both_intro ?_ ?_
      · try simp -dsimp only [List.append_eq, List.nil_append, Option.toList, List.map_cons, List.map_nil, List.cons_append]
        repeat (first | rw [c_seq] | simp -dsimp only [↓RE,RU,RL,if_true,if_false,forall_const,implies_true,Nat.reduceLeDiff,Nat.reduceLT,pureOp,binPure,intBin,strBin,sliceLo,sliceHi,slicePure,lenPure,buildP,resK,endV,↓reduceIte,Nat.reduceEqDiff,reduceCtorEq,Nat.reduceAdd,Nat.reduceMul,Nat.reduceSub,Int.reduceLT,Int.reduceLE,Int.reduceToNat,Int.reduceAdd,ne_eq,decide_true,decide_false,tf17, he5])
        have gE := Grow.alloc w2.drew (.cells #[] 115)
        have hE := LRow.empty w2.drew 115 2
        have hsE := gE.size
        refine ⟨gd.trans gE, ?_⟩
        refine wpTL_fork ?_
        simp only [planL, List.getElem?_toArray, List.getElem?_cons_zero, List.getElem?_cons_succ, Option.toList_some, List.map_cons, List.map_nil, List.cons_append, List.nil_append]
        repeat (first | rw [c_seq] | simp -dsimp only [↓RE,RU,RL,if_true,if_false,forall_const,implies_true,Nat.reduceLeDiff,Nat.reduceLT,pureOp,binPure,intBin,strBin,sliceLo,sliceHi,slicePure,lenPure,buildP,resK,endV,↓reduceIte,Nat.reduceEqDiff,reduceCtorEq,Nat.reduceAdd,Nat.reduceMul,Nat.reduceSub,Int.reduceLT,Int.reduceLE,Int.reduceToNat,Int.reduceAdd,ne_eq,decide_true,decide_false,tf17, he5])
        refine both_intro ?_ ?_
        · try simp -dsimp only [List.append_eq, List.nil_append, Option.toList, List.map_cons, List.map_nil, List.cons_append]
          repeat (first | rw [c_seq] | simp -dsimp only [↓RE,RU,RL,if_true,if_false,forall_const,implies_true,Nat.reduceLeDiff,Nat.reduceLT,pureOp,binPure,intBin,strBin,sliceLo,sliceHi,slicePure,lenPure,buildP,resK,endV,↓reduceIte,Nat.reduceEqDiff,reduceCtorEq,Nat.reduceAdd,Nat.reduceMul,Nat.reduceSub,Int.reduceLT,Int.reduceLE,Int.reduceToNat,Int.reduceAdd,ne_eq,decide_true,decide_false,tf17, he5])
          have hx3 := hox.tags.grow (g12.trans (gd.trans gE))
          refine app_t (L := []) hE hx3 (by simp; omega) (fun A3 c3 w3 hL3 k3 f3 => ?_)
          have g23 : Grow w2 w3 := (gd.trans gE).above k3 (fun q hq e => by rw [fpV_some] at e; simp only at e; omega)
          have hL3' : GRow w3 (.slice A3 x.p.tags.length c3) x.p.tags := by
            have := hL3
            rw [List.nil_append, List.length_nil, Nat.zero_add, ← htl] at this
            exact this
          have hF3 : ∀ q, fpV (.slice A3 x.p.tags.length c3) q → w2.heap.size ≤ q := fun q hq => by
            rcases f3 q (by rw [List.length_nil, Nat.zero_add, ← htl]; exact hq) with e | e
            · rw [fpV_some] at e; simp only at e; omega
            · omega
          rw [List.length_nil, Nat.zero_add, ← htl]
          refine ⟨g23, ?_⟩
          refine wpTL_leaf ?_
          simp only [planL, List.getElem?_toArray, List.getElem?_cons_zero, List.getElem?_cons_succ, Option.toList_some, List.map_cons, List.map_nil, List.cons_append, List.nil_append]
          try simp -dsimp only [List.append_eq, List.nil_append, Option.toList, List.map_cons, List.map_nil, List.cons_append]
          repeat (first | rw [c_seq] | simp -dsimp only [↓RE,RU,RL,if_true,if_false,forall_const,implies_true,Nat.reduceLeDiff,Nat.reduceLT,pureOp,binPure,intBin,strBin,sliceLo,sliceHi,slicePure,lenPure,buildP,resK,endV,↓reduceIte,Nat.reduceEqDiff,reduceCtorEq,Nat.reduceAdd,Nat.reduceMul,Nat.reduceSub,Int.reduceLT,Int.reduceLE,Int.reduceToNat,Int.reduceAdd,ne_eq,decide_true,decide_false,tf17, he5])
          have hM := one_trow w3 tMk
          have gM := Grow.alloc w3 (.cells #[.string sMk, .string .empty] 115)
          have hs23 := g23.size
          refine ⟨g23.trans gM, ?_⟩
          repeat (first | rw [c_seq] | simp -dsimp only [↓RE,RU,RL,if_true,if_false,forall_const,implies_true,Nat.reduceLeDiff,Nat.reduceLT,pureOp,binPure,intBin,strBin,sliceLo,sliceHi,slicePure,lenPure,buildP,resK,endV,↓reduceIte,Nat.reduceEqDiff,reduceCtorEq,Nat.reduceAdd,Nat.reduceMul,Nat.reduceSub,Int.reduceLT,Int.reduceLE,Int.reduceToNat,Int.reduceAdd,ne_eq,decide_true,decide_false,tf17, he5])
          have hL3' := LRow.grow hL3' gM
          refine app_t hL3' hM (by omega) (fun A4 c4 w4 hL4 k4 f4 => ?_)
          have g24 : Grow w2 w4 := (g23.trans gM).above k4 (fun q hq e => by have := hF3 q e; omega)
          have hl4 : (x.p.tags ++ [tMk]).length = x.n + 1 := by rw [List.length_append, htl]; rfl
          rw [hl4, htl] at hL4
          obtain ⟨_, _, e4, hc4, _⟩ := hL4.form
          injection e4 with _ _ e4
          subst e4
          rw [htl]
          have hbn := LRow.blk_ne hL4 (hb.grow g24) (by decide)
          refine ⟨g24, ?_⟩
          repeat (first | rw [c_seq] | simp -dsimp only [↓RE,RU,RL,if_true,if_false,forall_const,implies_true,Nat.reduceLeDiff,Nat.reduceLT,pureOp,binPure,intBin,strBin,sliceLo,sliceHi,slicePure,lenPure,buildP,resK,endV,↓reduceIte,Nat.reduceEqDiff,reduceCtorEq,Nat.reduceAdd,Nat.reduceMul,Nat.reduceSub,Int.reduceLT,Int.reduceLE,Int.reduceToNat,Int.reduceAdd,ne_eq,decide_true,decide_false,tf17, he5, hsl0, hel0, add_lit', Nat.zero_add])
          refine ⟨⟨by omega, by omega⟩, ?_⟩
          repeat (first | rw [c_seq] | simp -dsimp only [↓RE,RU,RL,if_true,if_false,forall_const,implies_true,Nat.reduceLeDiff,Nat.reduceLT,pureOp,binPure,intBin,strBin,sliceLo,sliceHi,slicePure,lenPure,buildP,resK,endV,↓reduceIte,Nat.reduceEqDiff,reduceCtorEq,Nat.reduceAdd,Nat.reduceMul,Nat.reduceSub,Int.reduceLT,Int.reduceLE,Int.reduceToNat,Int.reduceAdd,ne_eq,decide_true,decide_false,tf17, he5, add_lit', Nat.zero_add])
          refine (hb.grow g24).st (i := 1) (by simp [PtV.cells]) ?_
          have ks := Keep.set1 w4 b 1 (.slice A4 x.n c4)
          have hb5 := (hb.grow g24).set 1 (.slice A4 x.n c4)
          have e5 : (if c4 = 0 then A4 else A4.map (fun x => x.add 0)) = A4 := slice_to
          rw [e5, Nat.sub_zero, Nat.sub_zero]
          try simp -dsimp only [↓RE,↓c_seq,RU,RL,if_true,if_false,forall_const,implies_true,Nat.reduceLeDiff,Nat.reduceLT,pureOp,binPure,intBin,strBin,sliceLo,sliceHi,slicePure,lenPure,buildP,resK,endV,↓reduceIte,Nat.reduceEqDiff,reduceCtorEq,Nat.reduceAdd,Nat.reduceMul,Nat.reduceSub,Int.reduceLT,Int.reduceLE,Int.reduceToNat,Int.reduceAdd,ne_eq,decide_true,decide_false,tf17, he5]
          refine hold_intro ⟨⟨?_, ?_, ?_, ?_⟩, g24.then ks, A4, c4, hb5, hL4.keep ks (fun q hq e => hbn (e ▸ hq))⟩
          · simp -dsimp only [↓RE,RU,RL,if_true,if_false,↓reduceIte,Nat.reduceEqDiff,reduceCtorEq,decide_true,decide_false, he0]
          · simp -dsimp only [↓RE,RU,RL,if_true,if_false,↓reduceIte,Nat.reduceEqDiff,reduceCtorEq,decide_true,decide_false, he3]
          · simp -dsimp only [↓RE,RU,RL,if_true,if_false,↓reduceIte,Nat.reduceEqDiff,reduceCtorEq,decide_true,decide_false, he4]
          · simp -dsimp only [↓RE,RU,RL,if_true,if_false,↓reduceIte,Nat.reduceEqDiff,reduceCtorEq,decide_true,decide_false, he5]
        · try simp -dsimp only [List.append_eq, List.nil_append, Option.toList, List.map_cons, List.map_nil, List.cons_append]
          repeat (first | rw [c_seq] | simp -dsimp only [↓RE,RU,RL,if_true,if_false,forall_const,implies_true,Nat.reduceLeDiff,Nat.reduceLT,pureOp,binPure,intBin,strBin,sliceLo,sliceHi,slicePure,lenPure,buildP,resK,endV,↓reduceIte,Nat.reduceEqDiff,reduceCtorEq,Nat.reduceAdd,Nat.reduceMul,Nat.reduceSub,Int.reduceLT,Int.reduceLE,Int.reduceToNat,Int.reduceAdd,ne_eq,decide_true,decide_false,tf17, he5])
          have hM := one_trow (w2.drew.alloc (.cells #[] 115)) tMk
          have gM := Grow.alloc (w2.drew.alloc (.cells #[] 115)) (.cells #[.string sMk, .string .empty] 115)
          have hsM := gM.size
          refine ⟨(gd.trans gE).trans gM, ?_⟩
          refine wpTL_leaf ?_
          simp only [planL, List.getElem?_toArray, List.getElem?_cons_zero, List.getElem?_cons_succ, Option.toList_some, List.map_cons, List.map_nil, List.cons_append, List.nil_append]
          try simp -dsimp only [List.append_eq, List.nil_append, Option.toList, List.map_cons, List.map_nil, List.cons_append]
          repeat (first | rw [c_seq] | simp -dsimp only [↓RE,RU,RL,if_true,if_false,forall_const,implies_true,Nat.reduceLeDiff,Nat.reduceLT,pureOp,binPure,intBin,strBin,sliceLo,sliceHi,slicePure,lenPure,buildP,resK,endV,↓reduceIte,Nat.reduceEqDiff,reduceCtorEq,Nat.reduceAdd,Nat.reduceMul,Nat.reduceSub,Int.reduceLT,Int.reduceLE,Int.reduceToNat,Int.reduceAdd,ne_eq,decide_true,decide_false,tf17, he5])
          have hne : w2.drew.heap.size ≠ (w2.drew.alloc (.cells #[] 115)).heap.size := by rw [heap_alloc_size]; omega
          have hx3 := hox.tags.grow (g12.trans ((gd.trans gE).trans gM))
          refine app_t (L := []) (LRow.grow hE gM) hx3 (by simp; omega) (fun A3 c3 w3 hL3 k3 f3 => ?_)
          have g23 : Grow w2 w3 := ((gd.trans gE).trans gM).above k3 (fun q hq e => by rw [fpV_some] at e; simp only at e; omega)
          have hL3' : GRow w3 (.slice A3 x.p.tags.length c3) x.p.tags := by
            have := hL3
            rw [List.nil_append, List.length_nil, Nat.zero_add, ← htl] at this
            exact this
          have hF3 : ∀ q, fpV (.slice A3 x.p.tags.length c3) q → w2.heap.size ≤ q := fun q hq => by
            rcases f3 q (by rw [List.length_nil, Nat.zero_add, ← htl]; exact hq) with e | e
            · rw [fpV_some] at e; simp only at e; omega
            · omega
          rw [List.length_nil, Nat.zero_add, ← htl]
          have hM3 := hM.keep k3 (fun q hq e => by
            obtain ⟨ad, e1, e2⟩ := hq
            injection e1 with e1
            subst e1
            rw [fpV_some] at e
            exact hne (e.symm.trans e2))
          refine ⟨g23, ?_⟩
          repeat (first | rw [c_seq] | simp -dsimp only [↓RE,RU,RL,if_true,if_false,forall_const,implies_true,Nat.reduceLeDiff,Nat.reduceLT,pureOp,binPure,intBin,strBin,sliceLo,sliceHi,slicePure,lenPure,buildP,resK,endV,↓reduceIte,Nat.reduceEqDiff,reduceCtorEq,Nat.reduceAdd,Nat.reduceMul,Nat.reduceSub,Int.reduceLT,Int.reduceLE,Int.reduceToNat,Int.reduceAdd,ne_eq,decide_true,decide_false,tf17, he5])
          refine app_t hL3' hM3 (by omega) (fun A4 c4 w4 hL4 k4 f4 => ?_)
          have g24 : Grow w2 w4 := (g23).above k4 (fun q hq e => by have := hF3 q e; omega)
          have hl4 : (x.p.tags ++ [tMk]).length = x.n + 1 := by rw [List.length_append, htl]; rfl
          rw [hl4, htl] at hL4
          obtain ⟨_, _, e4, hc4, _⟩ := hL4.form
          injection e4 with _ _ e4
          subst e4
          rw [htl]
          have hbn := LRow.blk_ne hL4 (hb.grow g24) (by decide)
          refine ⟨g24, ?_⟩
          repeat (first | rw [c_seq] | simp -dsimp only [↓RE,RU,RL,if_true,if_false,forall_const,implies_true,Nat.reduceLeDiff,Nat.reduceLT,pureOp,binPure,intBin,strBin,sliceLo,sliceHi,slicePure,lenPure,buildP,resK,endV,↓reduceIte,Nat.reduceEqDiff,reduceCtorEq,Nat.reduceAdd,Nat.reduceMul,Nat.reduceSub,Int.reduceLT,Int.reduceLE,Int.reduceToNat,Int.reduceAdd,ne_eq,decide_true,decide_false,tf17, he5, hsl0, hel0, add_lit', Nat.zero_add])
          refine ⟨⟨by omega, by omega⟩, ?_⟩
          repeat (first | rw [c_seq] | simp -dsimp only [↓RE,RU,RL,if_true,if_false,forall_const,implies_true,Nat.reduceLeDiff,Nat.reduceLT,pureOp,binPure,intBin,strBin,sliceLo,sliceHi,slicePure,lenPure,buildP,resK,endV,↓reduceIte,Nat.reduceEqDiff,reduceCtorEq,Nat.reduceAdd,Nat.reduceMul,Nat.reduceSub,Int.reduceLT,Int.reduceLE,Int.reduceToNat,Int.reduceAdd,ne_eq,decide_true,decide_false,tf17, he5, add_lit', Nat.zero_add])
          refine (hb.grow g24).st (i := 1) (by simp [PtV.cells]) ?_
          have ks := Keep.set1 w4 b 1 (.slice A4 x.n c4)
          have hb5 := (hb.grow g24).set 1 (.slice A4 x.n c4)
          have e5 : (if c4 = 0 then A4 else A4.map (fun x => x.add 0)) = A4 := slice_to
          rw [e5, Nat.sub_zero, Nat.sub_zero]
          try simp -dsimp only [↓RE,↓c_seq,RU,RL,if_true,if_false,forall_const,implies_true,Nat.reduceLeDiff,Nat.reduceLT,pureOp,binPure,intBin,strBin,sliceLo,sliceHi,slicePure,lenPure,buildP,resK,endV,↓reduceIte,Nat.reduceEqDiff,reduceCtorEq,Nat.reduceAdd,Nat.reduceMul,Nat.reduceSub,Int.reduceLT,Int.reduceLE,Int.reduceToNat,Int.reduceAdd,ne_eq,decide_true,decide_false,tf17, he5]
          refine hold_intro ⟨⟨?_, ?_, ?_, ?_⟩, g24.then ks, A4, c4, hb5, hL4.keep ks (fun q hq e => hbn (e ▸ hq))⟩
          · simp -dsimp only [↓RE,RU,RL,if_true,if_false,↓reduceIte,Nat.reduceEqDiff,reduceCtorEq,decide_true,decide_false, he0]
          · simp -dsimp only [↓RE,RU,RL,if_true,if_false,↓reduceIte,Nat.reduceEqDiff,reduceCtorEq,decide_true,decide_false, he3]
          · simp -dsimp only [↓RE,RU,RL,if_true,if_false,↓reduceIte,Nat.reduceEqDiff,reduceCtorEq,decide_true,decide_false, he4]
          · simp -dsimp only [↓RE,RU,RL,if_true,if_false,↓reduceIte,Nat.reduceEqDiff,reduceCtorEq,decide_true,decide_false, he5]
      · try simp -dsimp only [List.append_eq, List.nil_append, Option.toList, List.map_cons, List.map_nil, List.cons_append]
        repeat (first | rw [c_seq] | simp -dsimp only [↓RE,RU,RL,if_true,if_false,forall_const,implies_true,Nat.reduceLeDiff,Nat.reduceLT,pureOp,binPure,intBin,strBin,sliceLo,sliceHi,slicePure,lenPure,buildP,resK,endV,↓reduceIte,Nat.reduceEqDiff,reduceCtorEq,Nat.reduceAdd,Nat.reduceMul,Nat.reduceSub,Int.reduceLT,Int.reduceLE,Int.reduceToNat,Int.reduceAdd,ne_eq,decide_true,decide_false,tf17, he5])
        have hM := one_trow w2.drew tMk
        have gM := Grow.alloc w2.drew (.cells #[.string sMk, .string .empty] 115)
        have hsM := gM.size
        refine ⟨gd.trans gM, ?_⟩
        refine wpTL_leaf ?_
        simp only [planL, List.getElem?_toArray, List.getElem?_cons_zero, List.getElem?_cons_succ, Option.toList_some, List.map_cons, List.map_nil, List.cons_append, List.nil_append]
        try simp -dsimp only [List.append_eq, List.nil_append, Option.toList, List.map_cons, List.map_nil, List.cons_append]
        repeat (first | rw [c_seq] | simp -dsimp only [↓RE,RU,RL,if_true,if_false,forall_const,implies_true,Nat.reduceLeDiff,Nat.reduceLT,pureOp,binPure,intBin,strBin,sliceLo,sliceHi,slicePure,lenPure,buildP,resK,endV,↓reduceIte,Nat.reduceEqDiff,reduceCtorEq,Nat.reduceAdd,Nat.reduceMul,Nat.reduceSub,Int.reduceLT,Int.reduceLE,Int.reduceToNat,Int.reduceAdd,ne_eq,decide_true,decide_false,tf17, he5])
        have hE := LRow.empty (w2.drew.alloc (.cells #[.string sMk, .string .empty] 115)) 115 2
        have gE := Grow.alloc (w2.drew.alloc (.cells #[.string sMk, .string .empty] 115)) (.cells #[] 115)
        have hsE := gE.size
        refine ⟨(gd.trans gM).trans gE, ?_⟩
        repeat (first | rw [c_seq] | simp -dsimp only [↓RE,RU,RL,if_true,if_false,forall_const,implies_true,Nat.reduceLeDiff,Nat.reduceLT,pureOp,binPure,intBin,strBin,sliceLo,sliceHi,slicePure,lenPure,buildP,resK,endV,↓reduceIte,Nat.reduceEqDiff,reduceCtorEq,Nat.reduceAdd,Nat.reduceMul,Nat.reduceSub,Int.reduceLT,Int.reduceLE,Int.reduceToNat,Int.reduceAdd,ne_eq,decide_true,decide_false,tf17, he5])
        have hne : (w2.drew.alloc (.cells #[.string sMk, .string .empty] 115)).heap.size ≠ w2.drew.heap.size := by rw [heap_alloc_size]; omega
        have hx3 := hox.tags.grow (g12.trans ((gd.trans gM).trans gE))
        refine app_t (L := []) hE hx3 (by simp; omega) (fun A3 c3 w3 hL3 k3 f3 => ?_)
        have g23 : Grow w2 w3 := ((gd.trans gM).trans gE).above k3 (fun q hq e => by rw [fpV_some] at e; simp only at e; omega)
        have hL3' : GRow w3 (.slice A3 x.p.tags.length c3) x.p.tags := by
          have := hL3
          rw [List.nil_append, List.length_nil, Nat.zero_add, ← htl] at this
          exact this
        have hF3 : ∀ q, fpV (.slice A3 x.p.tags.length c3) q → w2.heap.size ≤ q := fun q hq => by
          rcases f3 q (by rw [List.length_nil, Nat.zero_add, ← htl]; exact hq) with e | e
          · rw [fpV_some] at e; simp only at e; omega
          · omega
        rw [List.length_nil, Nat.zero_add, ← htl]
        have hM3 := (Rd.grow hM gE).keep k3 (fun q hq e => by
          obtain ⟨ad, e1, e2⟩ := hq
          injection e1 with e1
          subst e1
          rw [fpV_some] at e
          exact hne (e.symm.trans e2))
        refine ⟨g23, ?_⟩
        repeat (first | rw [c_seq] | simp -dsimp only [↓RE,RU,RL,if_true,if_false,forall_const,implies_true,Nat.reduceLeDiff,Nat.reduceLT,pureOp,binPure,intBin,strBin,sliceLo,sliceHi,slicePure,lenPure,buildP,resK,endV,↓reduceIte,Nat.reduceEqDiff,reduceCtorEq,Nat.reduceAdd,Nat.reduceMul,Nat.reduceSub,Int.reduceLT,Int.reduceLE,Int.reduceToNat,Int.reduceAdd,ne_eq,decide_true,decide_false,tf17, he5])
        refine app_t hL3' hM3 (by omega) (fun A4 c4 w4 hL4 k4 f4 => ?_)
        have g24 : Grow w2 w4 := (g23).above k4 (fun q hq e => by have := hF3 q e; omega)
        have hl4 : (x.p.tags ++ [tMk]).length = x.n + 1 := by rw [List.length_append, htl]; rfl
        rw [hl4, htl] at hL4
        obtain ⟨_, _, e4, hc4, _⟩ := hL4.form
        injection e4 with _ _ e4
        subst e4
        rw [htl]
        have hbn := LRow.blk_ne hL4 (hb.grow g24) (by decide)
        refine ⟨g24, ?_⟩
        repeat (first | rw [c_seq] | simp -dsimp only [↓RE,RU,RL,if_true,if_false,forall_const,implies_true,Nat.reduceLeDiff,Nat.reduceLT,pureOp,binPure,intBin,strBin,sliceLo,sliceHi,slicePure,lenPure,buildP,resK,endV,↓reduceIte,Nat.reduceEqDiff,reduceCtorEq,Nat.reduceAdd,Nat.reduceMul,Nat.reduceSub,Int.reduceLT,Int.reduceLE,Int.reduceToNat,Int.reduceAdd,ne_eq,decide_true,decide_false,tf17, he5, hsl0, hel0, add_lit', Nat.zero_add])
        refine ⟨⟨by omega, by omega⟩, ?_⟩
        repeat (first | rw [c_seq] | simp -dsimp only [↓RE,RU,RL,if_true,if_false,forall_const,implies_true,Nat.reduceLeDiff,Nat.reduceLT,pureOp,binPure,intBin,strBin,sliceLo,sliceHi,slicePure,lenPure,buildP,resK,endV,↓reduceIte,Nat.reduceEqDiff,reduceCtorEq,Nat.reduceAdd,Nat.reduceMul,Nat.reduceSub,Int.reduceLT,Int.reduceLE,Int.reduceToNat,Int.reduceAdd,ne_eq,decide_true,decide_false,tf17, he5, add_lit', Nat.zero_add])
        refine (hb.grow g24).st (i := 1) (by simp [PtV.cells]) ?_
        have ks := Keep.set1 w4 b 1 (.slice A4 x.n c4)
        have hb5 := (hb.grow g24).set 1 (.slice A4 x.n c4)
        have e5 : (if c4 = 0 then A4 else A4.map (fun x => x.add 0)) = A4 := slice_to
        rw [e5, Nat.sub_zero, Nat.sub_zero]
        try simp -dsimp only [↓RE,↓c_seq,RU,RL,if_true,if_false,forall_const,implies_true,Nat.reduceLeDiff,Nat.reduceLT,pureOp,binPure,intBin,strBin,sliceLo,sliceHi,slicePure,lenPure,buildP,resK,endV,↓reduceIte,Nat.reduceEqDiff,reduceCtorEq,Nat.reduceAdd,Nat.reduceMul,Nat.reduceSub,Int.reduceLT,Int.reduceLE,Int.reduceToNat,Int.reduceAdd,ne_eq,decide_true,decide_false,tf17, he5]
        refine hold_intro ⟨⟨?_, ?_, ?_, ?_⟩, g24.then ks, A4, c4, hb5, hL4.keep ks (fun q hq e => hbn (e ▸ hq))⟩
        · simp -dsimp only [↓RE,RU,RL,if_true,if_false,↓reduceIte,Nat.reduceEqDiff,reduceCtorEq,decide_true,decide_false, he0]
        · simp -dsimp only [↓RE,RU,RL,if_true,if_false,↓reduceIte,Nat.reduceEqDiff,reduceCtorEq,decide_true,decide_false, he3]
        · simp -dsimp only [↓RE,RU,RL,if_true,if_false,↓reduceIte,Nat.reduceEqDiff,reduceCtorEq,decide_true,decide_false, he4]
        · simp -dsimp only [↓RE,RU,RL,if_true,if_false,↓reduceIte,Nat.reduceEqDiff,reduceCtorEq,decide_true,decide_false, he5]
    clear he0 he3 he4 he5 q1
    have g12o := g12
    have hbl := hb.lt
    rintro e2 w2 ⟨⟨he0, he3, he4, he5⟩, k23, A5, c5, hb, hT3⟩
    have g2 : Grow w1 w2 := g2.above k23 (fun q hq e => by omega)
    have g12 := g1.trans g2
    have q1 : ∀ w', Grow w2 w' → w'.cell? ⟨b, 2, none⟩ = some (.slice x.B x.k x.d) := fun w' g => ((hb.grow g).cell 2).trans rfl
    refine c_seq_cut (fun e' w' => (e' 0 = .slice (some ad) n c ∧ e' 3 = v ∧ e' 4 = .int .i64 (k : Int) ∧ e' 5 = .pointer (some ⟨b, 0, none⟩)) ∧ Keep (fun q => q = b) w2 w' ∧ ∃ A' c', Blk w' b 25 [.string x.p.m, .slice A5 x.n c5, .slice A' x.k c', .int .i64 x.p.t] ∧ LRow w' 98 2 (.slice A' (x.k + 1) c') (x.k + 1) ((x.p.fields ++ [fMk]).flatMap fcells)) ?_ ?_
    · simp -dsimp only [↓RE,RU,RL,if_true,if_false,forall_const,implies_true,Nat.reduceLeDiff,Nat.reduceLT,pureOp,binPure,intBin,strBin,sliceLo,sliceHi,slicePure,lenPure,buildP,resK,endV,↓reduceIte,Nat.reduceEqDiff,reduceCtorEq,Nat.reduceAdd,Nat.reduceMul,Nat.reduceSub,Int.reduceLT,Int.reduceLE,Int.reduceToNat,Int.reduceAdd,ne_eq,decide_true,decide_false,tf17, he0]
      refine wpDraw_treeF (Grow w2 ·) copyTree 12 (by kernel_rfl) (Grow.drew w2) ?_
      refine wpTL_fork ?_
      simp only [planL, List.getElem?_toArray, List.getElem?_cons_zero, List.getElem?_cons_succ, Option.toList_some, List.map_cons, List.map_nil, List.cons_append, List.nil_append]
      repeat (first | rw [c_seq] | simp -dsimp only [↓RE,RU,RL,if_true,if_false,forall_const,implies_true,Nat.reduceLeDiff,Nat.reduceLT,pureOp,binPure,intBin,strBin,sliceLo,sliceHi,slicePure,lenPure,buildP,resK,endV,↓reduceIte,Nat.reduceEqDiff,reduceCtorEq,Nat.reduceAdd,Nat.reduceMul,Nat.reduceSub,Int.reduceLT,Int.reduceLE,Int.reduceToNat,Int.reduceAdd,ne_eq,decide_true,decide_false,tf17, he5, add_lit', Nat.zero_add])
      refine ⟨_, q1, ?_⟩
      repeat (first | rw [c_seq] | simp -dsimp only [↓RE,RU,RL,if_true,if_false,forall_const,implies_true,Nat.reduceLeDiff,Nat.reduceLT,pureOp,binPure,intBin,strBin,sliceLo,sliceHi,slicePure,lenPure,buildP,resK,endV,↓reduceIte,Nat.reduceEqDiff,reduceCtorEq,Nat.reduceAdd,Nat.reduceMul,Nat.reduceSub,Int.reduceLT,Int.reduceLE,Int.reduceToNat,Int.reduceAdd,ne_eq,decide_true,decide_false,tf17, he5, add_lit', Nat.zero_add])
      refine ⟨_, q1, ?_⟩
      repeat (first | rw [c_seq] | simp -dsimp only [↓RE,RU,RL,if_true,if_false,forall_const,implies_true,Nat.reduceLeDiff,Nat.reduceLT,pureOp,binPure,intBin,strBin,sliceLo,sliceHi,slicePure,lenPure,buildP,resK,endV,↓reduceIte,Nat.reduceEqDiff,reduceCtorEq,Nat.reduceAdd,Nat.reduceMul,Nat.reduceSub,Int.reduceLT,Int.reduceLE,Int.reduceToNat,Int.reduceAdd,ne_eq,decide_true,decide_false,tf17, he5, add_lit', Nat.zero_add])
      have gd := Grow.drew w2
      have hsd : w2.drew.heap.size = w2.heap.size := rfl
      refine both_intro ?_ ?_
      · try simp -dsimp only [List.append_eq, List.nil_append, Option.toList, List.map_cons, List.map_nil, List.cons_append]
        repeat (first | rw [c_seq] | simp -dsimp only [↓RE,RU,RL,if_true,if_false,forall_const,implies_true,Nat.reduceLeDiff,Nat.reduceLT,pureOp,binPure,intBin,strBin,sliceLo,sliceHi,slicePure,lenPure,buildP,resK,endV,↓reduceIte,Nat.reduceEqDiff,reduceCtorEq,Nat.reduceAdd,Nat.reduceMul,Nat.reduceSub,Int.reduceLT,Int.reduceLE,Int.reduceToNat,Int.reduceAdd,ne_eq,decide_true,decide_false,tf17, he5])
        have gE := Grow.alloc w2.drew (.cells #[] 98)
        have hE := LRow.empty w2.drew 98 2
        have hsE := gE.size
        refine ⟨gd.trans gE, ?_⟩
        refine wpTL_fork ?_
        simp only [planL, List.getElem?_toArray, List.getElem?_cons_zero, List.getElem?_cons_succ, Option.toList_some, List.map_cons, List.map_nil, List.cons_append, List.nil_append]
        repeat (first | rw [c_seq] | simp -dsimp only [↓RE,RU,RL,if_true,if_false,forall_const,implies_true,Nat.reduceLeDiff,Nat.reduceLT,pureOp,binPure,intBin,strBin,sliceLo,sliceHi,slicePure,lenPure,buildP,resK,endV,↓reduceIte,Nat.reduceEqDiff,reduceCtorEq,Nat.reduceAdd,Nat.reduceMul,Nat.reduceSub,Int.reduceLT,Int.reduceLE,Int.reduceToNat,Int.reduceAdd,ne_eq,decide_true,decide_false,tf17, he5])
        refine both_intro ?_ ?_
        · try simp -dsimp only [List.append_eq, List.nil_append, Option.toList, List.map_cons, List.map_nil, List.cons_append]
          repeat (first | rw [c_seq] | simp -dsimp only [↓RE,RU,RL,if_true,if_false,forall_const,implies_true,Nat.reduceLeDiff,Nat.reduceLT,pureOp,binPure,intBin,strBin,sliceLo,sliceHi,slicePure,lenPure,buildP,resK,endV,↓reduceIte,Nat.reduceEqDiff,reduceCtorEq,Nat.reduceAdd,Nat.reduceMul,Nat.reduceSub,Int.reduceLT,Int.reduceLE,Int.reduceToNat,Int.reduceAdd,ne_eq,decide_true,decide_false,tf17, he5])
          have hx3 := hox.fields.grow (g12.trans (gd.trans gE))
          refine app_f (L := []) hE hx3 (by simp; omega) (fun A3 c3 w3 hL3 k3 f3 => ?_)
          have g23 : Grow w2 w3 := (gd.trans gE).above k3 (fun q hq e => by rw [fpV_some] at e; simp only at e; omega)
          have hL3' : FRow w3 (.slice A3 x.p.fields.length c3) x.p.fields := by
            have := hL3
            rw [List.nil_append, List.length_nil, Nat.zero_add, ← hfl] at this
            exact this
          have hF3 : ∀ q, fpV (.slice A3 x.p.fields.length c3) q → w2.heap.size ≤ q := fun q hq => by
            rcases f3 q (by rw [List.length_nil, Nat.zero_add, ← hfl]; exact hq) with e | e
            · rw [fpV_some] at e; simp only at e; omega
            · omega
          rw [List.length_nil, Nat.zero_add, ← hfl]
          refine ⟨g23, ?_⟩
          refine wpTL_leaf ?_
          simp only [planL, List.getElem?_toArray, List.getElem?_cons_zero, List.getElem?_cons_succ, Option.toList_some, List.map_cons, List.map_nil, List.cons_append, List.nil_append]
          try simp -dsimp only [List.append_eq, List.nil_append, Option.toList, List.map_cons, List.map_nil, List.cons_append]
          repeat (first | rw [c_seq] | simp -dsimp only [↓RE,RU,RL,if_true,if_false,forall_const,implies_true,Nat.reduceLeDiff,Nat.reduceLT,pureOp,binPure,intBin,strBin,sliceLo,sliceHi,slicePure,lenPure,buildP,resK,endV,↓reduceIte,Nat.reduceEqDiff,reduceCtorEq,Nat.reduceAdd,Nat.reduceMul,Nat.reduceSub,Int.reduceLT,Int.reduceLE,Int.reduceToNat,Int.reduceAdd,ne_eq,decide_true,decide_false,tf17, he5])
          have hM := one_frow w3 fMk
          have gM := Grow.alloc w3 (.cells #[.string sMk, .int .i64 0] 98)
          have hs23 := g23.size
          refine ⟨g23.trans gM, ?_⟩
          repeat (first | rw [c_seq] | simp -dsimp only [↓RE,RU,RL,if_true,if_false,forall_const,implies_true,Nat.reduceLeDiff,Nat.reduceLT,pureOp,binPure,intBin,strBin,sliceLo,sliceHi,slicePure,lenPure,buildP,resK,endV,↓reduceIte,Nat.reduceEqDiff,reduceCtorEq,Nat.reduceAdd,Nat.reduceMul,Nat.reduceSub,Int.reduceLT,Int.reduceLE,Int.reduceToNat,Int.reduceAdd,ne_eq,decide_true,decide_false,tf17, he5])
          have hL3' := LRow.grow hL3' gM
          refine app_f hL3' hM (by omega) (fun A4 c4 w4 hL4 k4 f4 => ?_)
          have g24 : Grow w2 w4 := (g23.trans gM).above k4 (fun q hq e => by have := hF3 q e; omega)
          have hl4 : (x.p.fields ++ [fMk]).length = x.k + 1 := by rw [List.length_append, hfl]; rfl
          rw [hl4, hfl] at hL4
          obtain ⟨_, _, e4, hc4, _⟩ := hL4.form
          injection e4 with _ _ e4
          subst e4
          rw [hfl]
          have hbn := LRow.blk_ne hL4 (hb.grow g24) (by decide)
          refine ⟨g24, ?_⟩
          repeat (first | rw [c_seq] | simp -dsimp only [↓RE,RU,RL,if_true,if_false,forall_const,implies_true,Nat.reduceLeDiff,Nat.reduceLT,pureOp,binPure,intBin,strBin,sliceLo,sliceHi,slicePure,lenPure,buildP,resK,endV,↓reduceIte,Nat.reduceEqDiff,reduceCtorEq,Nat.reduceAdd,Nat.reduceMul,Nat.reduceSub,Int.reduceLT,Int.reduceLE,Int.reduceToNat,Int.reduceAdd,ne_eq,decide_true,decide_false,tf17, he5, hsl0, hel0, add_lit', Nat.zero_add])
          refine ⟨⟨by omega, by omega⟩, ?_⟩
          repeat (first | rw [c_seq] | simp -dsimp only [↓RE,RU,RL,if_true,if_false,forall_const,implies_true,Nat.reduceLeDiff,Nat.reduceLT,pureOp,binPure,intBin,strBin,sliceLo,sliceHi,slicePure,lenPure,buildP,resK,endV,↓reduceIte,Nat.reduceEqDiff,reduceCtorEq,Nat.reduceAdd,Nat.reduceMul,Nat.reduceSub,Int.reduceLT,Int.reduceLE,Int.reduceToNat,Int.reduceAdd,ne_eq,decide_true,decide_false,tf17, he5, add_lit', Nat.zero_add])
          refine (hb.grow g24).st (i := 2) (by simp [PtV.cells]) ?_
          have ks := Keep.set1 w4 b 2 (.slice A4 x.k c4)
          have hb5 := (hb.grow g24).set 2 (.slice A4 x.k c4)
          have e5 : (if c4 = 0 then A4 else A4.map (fun x => x.add 0)) = A4 := slice_to
          rw [e5, Nat.sub_zero, Nat.sub_zero]
          try simp -dsimp only [↓RE,↓c_seq,RU,RL,if_true,if_false,forall_const,implies_true,Nat.reduceLeDiff,Nat.reduceLT,pureOp,binPure,intBin,strBin,sliceLo,sliceHi,slicePure,lenPure,buildP,resK,endV,↓reduceIte,Nat.reduceEqDiff,reduceCtorEq,Nat.reduceAdd,Nat.reduceMul,Nat.reduceSub,Int.reduceLT,Int.reduceLE,Int.reduceToNat,Int.reduceAdd,ne_eq,decide_true,decide_false,tf17, he5]
          refine hold_intro ⟨⟨?_, ?_, ?_, ?_⟩, g24.then ks, A4, c4, hb5, hL4.keep ks (fun q hq e => hbn (e ▸ hq))⟩
          · simp -dsimp only [↓RE,RU,RL,if_true,if_false,↓reduceIte,Nat.reduceEqDiff,reduceCtorEq,decide_true,decide_false, he0]
          · simp -dsimp only [↓RE,RU,RL,if_true,if_false,↓reduceIte,Nat.reduceEqDiff,reduceCtorEq,decide_true,decide_false, he3]
          · simp -dsimp only [↓RE,RU,RL,if_true,if_false,↓reduceIte,Nat.reduceEqDiff,reduceCtorEq,decide_true,decide_false, he4]
          · simp -dsimp only [↓RE,RU,RL,if_true,if_false,↓reduceIte,Nat.reduceEqDiff,reduceCtorEq,decide_true,decide_false, he5]
        · try simp -dsimp only [List.append_eq, List.nil_append, Option.toList, List.map_cons, List.map_nil, List.cons_append]
          repeat (first | rw [c_seq] | simp -dsimp only [↓RE,RU,RL,if_true,if_false,forall_const,implies_true,Nat.reduceLeDiff,Nat.reduceLT,pureOp,binPure,intBin,strBin,sliceLo,sliceHi,slicePure,lenPure,buildP,resK,endV,↓reduceIte,Nat.reduceEqDiff,reduceCtorEq,Nat.reduceAdd,Nat.reduceMul,Nat.reduceSub,Int.reduceLT,Int.reduceLE,Int.reduceToNat,Int.reduceAdd,ne_eq,decide_true,decide_false,tf17, he5])
          have hM := one_frow (w2.drew.alloc (.cells #[] 98)) fMk
          have gM := Grow.alloc (w2.drew.alloc (.cells #[] 98)) (.cells #[.string sMk, .int .i64 0] 98)
          have hsM := gM.size
          refine ⟨(gd.trans gE).trans gM, ?_⟩
          refine wpTL_leaf ?_
          simp only [planL, List.getElem?_toArray, List.getElem?_cons_zero, List.getElem?_cons_succ, Option.toList_some, List.map_cons, List.map_nil, List.cons_append, List.nil_append]
          try simp -dsimp only [List.append_eq, List.nil_append, Option.toList, List.map_cons, List.map_nil, List.cons_append]
          repeat (first | rw [c_seq] | simp -dsimp only [↓RE,RU,RL,if_true,if_false,forall_const,implies_true,Nat.reduceLeDiff,Nat.reduceLT,pureOp,binPure,intBin,strBin,sliceLo,sliceHi,slicePure,lenPure,buildP,resK,endV,↓reduceIte,Nat.reduceEqDiff,reduceCtorEq,Nat.reduceAdd,Nat.reduceMul,Nat.reduceSub,Int.reduceLT,Int.reduceLE,Int.reduceToNat,Int.reduceAdd,ne_eq,decide_true,decide_false,tf17, he5])
          have hne : w2.drew.heap.size ≠ (w2.drew.alloc (.cells #[] 98)).heap.size := by rw [heap_alloc_size]; omega
          have hx3 := hox.fields.grow (g12.trans ((gd.trans gE).trans gM))
          refine app_f (L := []) (LRow.grow hE gM) hx3 (by simp; omega) (fun A3 c3 w3 hL3 k3 f3 => ?_)
          have g23 : Grow w2 w3 := ((gd.trans gE).trans gM).above k3 (fun q hq e => by rw [fpV_some] at e; simp only at e; omega)
          have hL3' : FRow w3 (.slice A3 x.p.fields.length c3) x.p.fields := by
            have := hL3
            rw [List.nil_append, List.length_nil, Nat.zero_add, ← hfl] at this
            exact this
          have hF3 : ∀ q, fpV (.slice A3 x.p.fields.length c3) q → w2.heap.size ≤ q := fun q hq => by
            rcases f3 q (by rw [List.length_nil, Nat.zero_add, ← hfl]; exact hq) with e | e
            · rw [fpV_some] at e; simp only at e; omega
            · omega
          rw [List.length_nil, Nat.zero_add, ← hfl]
          have hM3 := hM.keep k3 (fun q hq e => by
            obtain ⟨ad, e1, e2⟩ := hq
            injection e1 with e1
            subst e1
            rw [fpV_some] at e
            exact hne (e.symm.trans e2))
          refine ⟨g23, ?_⟩
          repeat (first | rw [c_seq] | simp -dsimp only [↓RE,RU,RL,if_true,if_false,forall_const,implies_true,Nat.reduceLeDiff,Nat.reduceLT,pureOp,binPure,intBin,strBin,sliceLo,sliceHi,slicePure,lenPure,buildP,resK,endV,↓reduceIte,Nat.reduceEqDiff,reduceCtorEq,Nat.reduceAdd,Nat.reduceMul,Nat.reduceSub,Int.reduceLT,Int.reduceLE,Int.reduceToNat,Int.reduceAdd,ne_eq,decide_true,decide_false,tf17, he5])
          refine app_f hL3' hM3 (by omega) (fun A4 c4 w4 hL4 k4 f4 => ?_)
          have g24 : Grow w2 w4 := (g23).above k4 (fun q hq e => by have := hF3 q e; omega)
          have hl4 : (x.p.fields ++ [fMk]).length = x.k + 1 := by rw [List.length_append, hfl]; rfl
          rw [hl4, hfl] at hL4
          obtain ⟨_, _, e4, hc4, _⟩ := hL4.form
          injection e4 with _ _ e4
          subst e4
          rw [hfl]
          have hbn := LRow.blk_ne hL4 (hb.grow g24) (by decide)
          refine ⟨g24, ?_⟩
          repeat (first | rw [c_seq] | simp -dsimp only [↓RE,RU,RL,if_true,if_false,forall_const,implies_true,Nat.reduceLeDiff,Nat.reduceLT,pureOp,binPure,intBin,strBin,sliceLo,sliceHi,slicePure,lenPure,buildP,resK,endV,↓reduceIte,Nat.reduceEqDiff,reduceCtorEq,Nat.reduceAdd,Nat.reduceMul,Nat.reduceSub,Int.reduceLT,Int.reduceLE,Int.reduceToNat,Int.reduceAdd,ne_eq,decide_true,decide_false,tf17, he5, hsl0, hel0, add_lit', Nat.zero_add])
          refine ⟨⟨by omega, by omega⟩, ?_⟩
          repeat (first | rw [c_seq] | simp -dsimp only [↓RE,RU,RL,if_true,if_false,forall_const,implies_true,Nat.reduceLeDiff,Nat.reduceLT,pureOp,binPure,intBin,strBin,sliceLo,sliceHi,slicePure,lenPure,buildP,resK,endV,↓reduceIte,Nat.reduceEqDiff,reduceCtorEq,Nat.reduceAdd,Nat.reduceMul,Nat.reduceSub,Int.reduceLT,Int.reduceLE,Int.reduceToNat,Int.reduceAdd,ne_eq,decide_true,decide_false,tf17, he5, add_lit', Nat.zero_add])
          refine (hb.grow g24).st (i := 2) (by simp [PtV.cells]) ?_
          have ks := Keep.set1 w4 b 2 (.slice A4 x.k c4)
          have hb5 := (hb.grow g24).set 2 (.slice A4 x.k c4)
          have e5 : (if c4 = 0 then A4 else A4.map (fun x => x.add 0)) = A4 := slice_to
          rw [e5, Nat.sub_zero, Nat.sub_zero]
          try simp -dsimp only [↓RE,↓c_seq,RU,RL,if_true,if_false,forall_const,implies_true,Nat.reduceLeDiff,Nat.reduceLT,pureOp,binPure,intBin,strBin,sliceLo,sliceHi,slicePure,lenPure,buildP,resK,endV,↓reduceIte,Nat.reduceEqDiff,reduceCtorEq,Nat.reduceAdd,Nat.reduceMul,Nat.reduceSub,Int.reduceLT,Int.reduceLE,Int.reduceToNat,Int.reduceAdd,ne_eq,decide_true,decide_false,tf17, he5]
          refine hold_intro ⟨⟨?_, ?_, ?_, ?_⟩, g24.then ks, A4, c4, hb5, hL4.keep ks (fun q hq e => hbn (e ▸ hq))⟩
          · simp -dsimp only [↓RE,RU,RL,if_true,if_false,↓reduceIte,Nat.reduceEqDiff,reduceCtorEq,decide_true,decide_false, he0]
          · simp -dsimp only [↓RE,RU,RL,if_true,if_false,↓reduceIte,Nat.reduceEqDiff,reduceCtorEq,decide_true,decide_false, he3]
          · simp -dsimp only [↓RE,RU,RL,if_true,if_false,↓reduceIte,Nat.reduceEqDiff,reduceCtorEq,decide_true,decide_false, he4]
          · simp -dsimp only [↓RE,RU,RL,if_true,if_false,↓reduceIte,Nat.reduceEqDiff,reduceCtorEq,decide_true,decide_false, he5]
      · try simp -dsimp only [List.append_eq, List.nil_append, Option.toList, List.map_cons, List.map_nil, List.cons_append]
        repeat (first | rw [c_seq] | simp -dsimp only [↓RE,RU,RL,if_true,if_false,forall_const,implies_true,Nat.reduceLeDiff,Nat.reduceLT,pureOp,binPure,intBin,strBin,sliceLo,sliceHi,slicePure,lenPure,buildP,resK,endV,↓reduceIte,Nat.reduceEqDiff,reduceCtorEq,Nat.reduceAdd,Nat.reduceMul,Nat.reduceSub,Int.reduceLT,Int.reduceLE,Int.reduceToNat,Int.reduceAdd,ne_eq,decide_true,decide_false,tf17, he5])
        have hM := one_frow w2.drew fMk
        have gM := Grow.alloc w2.drew (.cells #[.string sMk, .int .i64 0] 98)
        have hsM := gM.size
        refine ⟨gd.trans gM, ?_⟩
        refine wpTL_leaf ?_
        simp only [planL, List.getElem?_toArray, List.getElem?_cons_zero, List.getElem?_cons_succ, Option.toList_some, List.map_cons, List.map_nil, List.cons_append, List.nil_append]
        try simp -dsimp only [List.append_eq, List.nil_append, Option.toList, List.map_cons, List.map_nil, List.cons_append]
        repeat (first | rw [c_seq] | simp -dsimp only [↓RE,RU,RL,if_true,if_false,forall_const,implies_true,Nat.reduceLeDiff,Nat.reduceLT,pureOp,binPure,intBin,strBin,sliceLo,sliceHi,slicePure,lenPure,buildP,resK,endV,↓reduceIte,Nat.reduceEqDiff,reduceCtorEq,Nat.reduceAdd,Nat.reduceMul,Nat.reduceSub,Int.reduceLT,Int.reduceLE,Int.reduceToNat,Int.reduceAdd,ne_eq,decide_true,decide_false,tf17, he5])
        have hE := LRow.empty (w2.drew.alloc (.cells #[.string sMk, .int .i64 0] 98)) 98 2
        have gE := Grow.alloc (w2.drew.alloc (.cells #[.string sMk, .int .i64 0] 98)) (.cells #[] 98)
        have hsE := gE.size
        refine ⟨(gd.trans gM).trans gE, ?_⟩
        repeat (first | rw [c_seq] | simp -dsimp only [↓RE,RU,RL,if_true,if_false,forall_const,implies_true,Nat.reduceLeDiff,Nat.reduceLT,pureOp,binPure,intBin,strBin,sliceLo,sliceHi,slicePure,lenPure,buildP,resK,endV,↓reduceIte,Nat.reduceEqDiff,reduceCtorEq,Nat.reduceAdd,Nat.reduceMul,Nat.reduceSub,Int.reduceLT,Int.reduceLE,Int.reduceToNat,Int.reduceAdd,ne_eq,decide_true,decide_false,tf17, he5])
        have hne : (w2.drew.alloc (.cells #[.string sMk, .int .i64 0] 98)).heap.size ≠ w2.drew.heap.size := by rw [heap_alloc_size]; omega
        have hx3 := hox.fields.grow (g12.trans ((gd.trans gM).trans gE))
        refine app_f (L := []) hE hx3 (by simp; omega) (fun A3 c3 w3 hL3 k3 f3 => ?_)
        have g23 : Grow w2 w3 := ((gd.trans gM).trans gE).above k3 (fun q hq e => by rw [fpV_some] at e; simp only at e; omega)
        have hL3' : FRow w3 (.slice A3 x.p.fields.length c3) x.p.fields := by
          have := hL3
          rw [List.nil_append, List.length_nil, Nat.zero_add, ← hfl] at this
          exact this
        have hF3 : ∀ q, fpV (.slice A3 x.p.fields.length c3) q → w2.heap.size ≤ q := fun q hq => by
          rcases f3 q (by rw [List.length_nil, Nat.zero_add, ← hfl]; exact hq) with e | e
          · rw [fpV_some] at e; simp only at e; omega
          · omega
        rw [List.length_nil, Nat.zero_add, ← hfl]
        have hM3 := (Rd.grow hM gE).keep k3 (fun q hq e => by
          obtain ⟨ad, e1, e2⟩ := hq
          injection e1 with e1
          subst e1
          rw [fpV_some] at e
          exact hne (e.symm.trans e2))
        refine ⟨g23, ?_⟩
        repeat (first | rw [c_seq] | simp -dsimp only [↓RE,RU,RL,if_true,if_false,forall_const,implies_true,Nat.reduceLeDiff,Nat.reduceLT,pureOp,binPure,intBin,strBin,sliceLo,sliceHi,slicePure,lenPure,buildP,resK,endV,↓reduceIte,Nat.reduceEqDiff,reduceCtorEq,Nat.reduceAdd,Nat.reduceMul,Nat.reduceSub,Int.reduceLT,Int.reduceLE,Int.reduceToNat,Int.reduceAdd,ne_eq,decide_true,decide_false,tf17, he5])
        refine app_f hL3' hM3 (by omega) (fun A4 c4 w4 hL4 k4 f4 => ?_)
        have g24 : Grow w2 w4 := (g23).above k4 (fun q hq e => by have := hF3 q e; omega)
        have hl4 : (x.p.fields ++ [fMk]).length = x.k + 1 := by rw [List.length_append, hfl]; rfl
        rw [hl4, hfl] at hL4
        obtain ⟨_, _, e4, hc4, _⟩ := hL4.form
        injection e4 with _ _ e4
        subst e4
        rw [hfl]
        have hbn := LRow.blk_ne hL4 (hb.grow g24) (by decide)
        refine ⟨g24, ?_⟩
        repeat (first | rw [c_seq] | simp -dsimp only [↓RE,RU,RL,if_true,if_false,forall_const,implies_true,Nat.reduceLeDiff,Nat.reduceLT,pureOp,binPure,intBin,strBin,sliceLo,sliceHi,slicePure,lenPure,buildP,resK,endV,↓reduceIte,Nat.reduceEqDiff,reduceCtorEq,Nat.reduceAdd,Nat.reduceMul,Nat.reduceSub,Int.reduceLT,Int.reduceLE,Int.reduceToNat,Int.reduceAdd,ne_eq,decide_true,decide_false,tf17, he5, hsl0, hel0, add_lit', Nat.zero_add])
        refine ⟨⟨by omega, by omega⟩, ?_⟩
        repeat (first | rw [c_seq] | simp -dsimp only [↓RE,RU,RL,if_true,if_false,forall_const,implies_true,Nat.reduceLeDiff,Nat.reduceLT,pureOp,binPure,intBin,strBin,sliceLo,sliceHi,slicePure,lenPure,buildP,resK,endV,↓reduceIte,Nat.reduceEqDiff,reduceCtorEq,Nat.reduceAdd,Nat.reduceMul,Nat.reduceSub,Int.reduceLT,Int.reduceLE,Int.reduceToNat,Int.reduceAdd,ne_eq,decide_true,decide_false,tf17, he5, add_lit', Nat.zero_add])
        refine (hb.grow g24).st (i := 2) (by simp [PtV.cells]) ?_
        have ks := Keep.set1 w4 b 2 (.slice A4 x.k c4)
        have hb5 := (hb.grow g24).set 2 (.slice A4 x.k c4)
        have e5 : (if c4 = 0 then A4 else A4.map (fun x => x.add 0)) = A4 := slice_to
        rw [e5, Nat.sub_zero, Nat.sub_zero]
        try simp -dsimp only [↓RE,↓c_seq,RU,RL,if_true,if_false,forall_const,implies_true,Nat.reduceLeDiff,Nat.reduceLT,pureOp,binPure,intBin,strBin,sliceLo,sliceHi,slicePure,lenPure,buildP,resK,endV,↓reduceIte,Nat.reduceEqDiff,reduceCtorEq,Nat.reduceAdd,Nat.reduceMul,Nat.reduceSub,Int.reduceLT,Int.reduceLE,Int.reduceToNat,Int.reduceAdd,ne_eq,decide_true,decide_false,tf17, he5]
        refine hold_intro ⟨⟨?_, ?_, ?_, ?_⟩, g24.then ks, A4, c4, hb5, hL4.keep ks (fun q hq e => hbn (e ▸ hq))⟩
        · simp -dsimp only [↓RE,RU,RL,if_true,if_false,↓reduceIte,Nat.reduceEqDiff,reduceCtorEq,decide_true,decide_false, he0]
        · simp -dsimp only [↓RE,RU,RL,if_true,if_false,↓reduceIte,Nat.reduceEqDiff,reduceCtorEq,decide_true,decide_false, he3]
        · simp -dsimp only [↓RE,RU,RL,if_true,if_false,↓reduceIte,Nat.reduceEqDiff,reduceCtorEq,decide_true,decide_false, he4]
        · simp -dsimp only [↓RE,RU,RL,if_true,if_false,↓reduceIte,Nat.reduceEqDiff,reduceCtorEq,decide_true,decide_false, he5]
    clear he0 he3 he4 he5 q1
    rintro e3 w3 ⟨⟨he0, he3, he4, he5⟩, k3, B5, d5, hb3, hF3⟩
    have hTb := LRow.blk_ne hT3 hb (by decide)
    have hT4 := hT3.keep k3 (fun q hq e => hTb (e ▸ hq))
    have g3 : Grow w1 w3 := g2.above k3 (fun q hq e => by omega)
    have g13 := g1.trans g3
    obtain ⟨y, hy⟩ : ∃ y : PtV, y = ⟨x.p, A5, x.n, c5, B5, x.k, d5⟩ := ⟨_, rfl⟩
    have hby : Blk w3 b 25 y.cells := by rw [hy]; exact hb3
    repeat (first | rw [c_seq] | simp -dsimp only [↓RE,RU,RL,if_true,if_false,forall_const,implies_true,Nat.reduceLeDiff,Nat.reduceLT,pureOp,binPure,intBin,strBin,sliceLo,sliceHi,slicePure,lenPure,buildP,resK,endV,↓reduceIte,Nat.reduceEqDiff,reduceCtorEq,Nat.reduceAdd,Nat.reduceMul,Nat.reduceSub,Int.reduceLT,Int.reduceLE,Int.reduceToNat,Int.reduceAdd,ne_eq,decide_true,decide_false,tf17, he5])
    refine hby.aggK (cs := y.cells) (by simp [PtV.cells]) ?_
    have hdt : List.take 4 (List.drop 0 y.cells) = y.cells := rfl
    have hyl : y.cells.length = 4 := rfl
    have h44 : (4 = 4 ∧ 4 ≤ 4) := ⟨rfl, Nat.le_refl _⟩
    have hfill : putAt #[.string .empty, .slice none 0 0, .slice none 0 0, .int .i64 0] 0 y.cells = y.cells.toArray := rfl
    repeat (first | rw [c_seq] | simp -dsimp only [↓RE,RU,RL,if_true,if_false,forall_const,implies_true,Nat.reduceLeDiff,Nat.reduceLT,pureOp,binPure,intBin,strBin,sliceLo,sliceHi,slicePure,lenPure,buildP,resK,endV,↓reduceIte,Nat.reduceEqDiff,reduceCtorEq,Nat.reduceAdd,Nat.reduceMul,Nat.reduceSub,Int.reduceLT,Int.reduceLE,Int.reduceToNat,Int.reduceAdd,ne_eq,decide_true,decide_false,tf17, he3, hdt, hyl, h44, hfill, and_self, Nat.le_refl])
    have ga := Grow.alloc w3 (.cells y.cells.toArray 25)
    have hrow : RdP (w3.alloc (.cells y.cells.toArray 25)) (some ⟨w3.heap.size, 0, none⟩) 1 [y] := one_ptrow w3 y
    have hva := (hv.grow g3).grow ga
    refine app_p hva hrow (by omega) (fun A' c' w7 hL7 k7 f7 => ?_)
    have hs3 := g13.size
    have hsa := ga.size
    have g7 : Grow w w7 := (g13.trans ga).above k7 (fun q hq e => by have := hF q e; omega)
    have hTv := LRow.ne (hT4.grow ga) hva (by decide)
    have hFv := LRow.ne (hF3.grow ga) hva (by decide)
    have hyk : PMk w7 y := by
      rw [hy]
      exact ⟨(hT4.grow ga).keep k7 hTv, (hF3.grow ga).keep k7 hFv, htl, hfl⟩
    have hyo : y.Ok w7 := by
      refine ⟨hyk.tags, hyk.fields, ?_, ?_, ?_, ?_, ?_, ?_, ?_⟩ <;> rw [hy]
      · exact hox.hn
      · exact hox.hk
      · exact hox.hm
      · exact hox.ht
      · exact hox.hf
      · exact hox.time
      · exact hox.nums
    have hoks : ∀ z ∈ Out ++ [y], z.Ok w7 ∧ PMk w7 z := fun z hz => by
      rcases List.mem_append.1 hz with hz | hz
      · have hzk := ((hok z hz).2.grow g3).grow ga
        have h7 : PMk w7 z := hzk.keep k7 (LRow.ne hzk.tg hva (by decide)) (LRow.ne hzk.fl hva (by decide))
        have ho := (hok z hz).1
        exact ⟨⟨h7.tags, h7.fields, ho.hn, ho.hk, ho.hm, ho.ht, ho.hf, ho.time, ho.nums⟩, h7⟩
      · rw [List.mem_singleton.1 hz]; exact ⟨hyo, hyk⟩
    repeat (first | rw [c_seq] | simp -dsimp only [↓RE,RU,RL,if_true,if_false,forall_const,implies_true,Nat.reduceLeDiff,Nat.reduceLT,pureOp,binPure,intBin,strBin,sliceLo,sliceHi,slicePure,lenPure,buildP,resK,endV,↓reduceIte,Nat.reduceEqDiff,reduceCtorEq,Nat.reduceAdd,Nat.reduceMul,Nat.reduceSub,Int.reduceLT,Int.reduceLE,Int.reduceToNat,Int.reduceAdd,ne_eq,decide_true,decide_false,tf17, he4, hw1])
    refine hold_intro ⟨⟨g7, ?_, k + 1, Out ++ [y], .slice A' (Out.length + 1) c', hlt, ?_, ?_, by rw [List.map_append, hout, hsn, List.map_append]; exact congrArg _ (congrArg (· :: []) (show y.p = x.p by rw [hy])), hL7, hoks, fun q hq => ?_⟩, ?_⟩
    · simp -dsimp only [↓RE,RU,RL,if_true,if_false,↓reduceIte,Nat.reduceEqDiff,reduceCtorEq,decide_true,decide_false, he0]
    · simp -dsimp only [↓RE,RU,RL,if_true,if_false,↓reduceIte,Nat.reduceEqDiff,reduceCtorEq,decide_true,decide_false, hw1]
    · simp -dsimp only [↓RE,RU,RL,if_true,if_false,↓reduceIte,Nat.reduceEqDiff,reduceCtorEq,decide_true,decide_false, he3]
    · rcases f7 q hq with e | e
      · exact hF q e
      · omega
    · rw [hmu]
      simp -dsimp only [↓RE,↓c_seq,RU,RL,if_true,if_false,forall_const,implies_true,Nat.reduceLeDiff,Nat.reduceLT,pureOp,binPure,intBin,strBin,sliceLo,sliceHi,slicePure,lenPure,buildP,resK,endV,↓reduceIte,Nat.reduceEqDiff,reduceCtorEq,Nat.reduceAdd,Nat.reduceMul,Nat.reduceSub,Int.reduceLT,Int.reduceLE,Int.reduceToNat,Int.reduceAdd,ne_eq,decide_true,decide_false,tf17, hw1]
      simp only [envInt_int]; omega
  · have hdk : decide ((k : Int) < (n : Int)) = false := decide_eq_false (by omega)
    rw [List.take_of_length_le (by omega)] at hout
    repeat (first | rw [c_seq] | simp -dsimp only [↓RE,RU,RL,if_true,if_false,forall_const,implies_true,Nat.reduceLeDiff,Nat.reduceLT,pureOp,binPure,intBin,strBin,sliceLo,sliceHi,slicePure,lenPure,buildP,resK,endV,↓reduceIte,Nat.reduceEqDiff,reduceCtorEq,Nat.reduceAdd,Nat.reduceMul,Nat.reduceSub,Int.reduceLT,Int.reduceLE,Int.reduceToNat,Int.reduceAdd,ne_eq,decide_true,decide_false,tf17, he0, he3, he4, hdk])
    have ga := Grow.alloc w1 (.cells pMk.cells.toArray 25)
    have hva := hv.grow ga
    refine app_p hva (one_ptrow w1 pMk) (by omega) (fun A' c' w7 hL7 k7 f7 => ?_)
    have g7 : Grow w w7 := (g1.trans ga).above k7 (fun q hq e => by have := hF q e; omega)
    obtain ⟨A9, c9, e9, hc9, _⟩ := hL7.form
    have hl9 : (Out ++ [pMk]).length = n + 1 := by rw [List.length_append, hol]; simp; omega
    rw [hl9] at hL7 hc9
    have e9' := e9
    injection e9' with _ _ hcc
    have hlo : Out.length + 1 = n + 1 := by omega
    rw [hlo] at hL7 ⊢
    rw [← hcc] at hc9
    repeat (first | rw [c_seq] | simp -dsimp only [↓RE,RU,RL,if_true,if_false,forall_const,implies_true,Nat.reduceLeDiff,Nat.reduceLT,pureOp,binPure,intBin,strBin,sliceLo,sliceHi,slicePure,lenPure,buildP,resK,endV,↓reduceIte,Nat.reduceEqDiff,reduceCtorEq,Nat.reduceAdd,Nat.reduceMul,Nat.reduceSub,Int.reduceLT,Int.reduceLE,Int.reduceToNat,Int.reduceAdd,ne_eq,decide_true,decide_false,tf17, he0, he3, he4])
    refine ⟨⟨by omega, by omega⟩, ?_⟩
    have eA : (if c' = 0 then A' else A'.map (fun x => x.add 0)) = A' := slice_to
    rw [eA, Nat.sub_zero, Nat.sub_zero]
    refine h w7 A' c' Out ⟨by omega, hL7, fun z hz => ?_⟩ hout g7
    have hzk := (hok z hz).2.grow ga
    have h7 : PMk w7 z := hzk.keep k7 (LRow.ne hzk.tg hva (by decide)) (LRow.ne hzk.fl hva (by decide))
    have ho := (hok z hz).1
    exact ⟨⟨h7.tags, h7.fields, ho.hn, ho.hk, ho.hm, ho.ht, ho.hf, ho.time, ho.nums⟩, h7⟩

end Go.Proofs.YtljgnocpijniiaaGreatDoor
