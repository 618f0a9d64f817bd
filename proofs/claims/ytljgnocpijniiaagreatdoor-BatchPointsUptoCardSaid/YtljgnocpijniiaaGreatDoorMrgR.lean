/- The document's CopySeries, merged, Order, Merge. -/
import Derived.Test.YtljgnocpijniiaaGreatDoorOrdWO
set_option linter.unusedVariables false
set_option linter.unusedSimpArgs false
set_option maxRecDepth 100000
namespace Go.Proofs.YtljgnocpijniiaaGreatDoor
open Go

/-- writes as the document hands them out. -/
structure WrR (w0 w : World) (v : Value) (D : List WrV) (l : List Wr) : Prop where
  eq : D.map WrV.wr = l
  row : LRow w 60 6 v D.length (D.flatMap WrV.cells)
  ok : ∀ x ∈ D, x.Ok w
  fresh : ∀ q, fpV v q → w0.heap.size ≤ q
theorem WrR.grow {w0 w w' : World} {v : Value} {D : List WrV} {l : List Wr} (h : WrR w0 w v D l) (g : Grow w w') : WrR w0 w' v D l :=
  ⟨h.eq, h.row.grow g, fun x hx => (h.ok x hx).grow g, h.fresh⟩
theorem WrR.base {w0 w1 w : World} {v : Value} {D : List WrV} {l : List Wr} (h : WrR w1 w v D l) (hs : w0.heap.size ≤ w1.heap.size) : WrR w0 w v D l :=
  ⟨h.eq, h.row, h.ok, fun q hq => by have := h.fresh q hq; omega⟩
theorem OrdR.wr {w0 w : World} {v : Value} {D : List WrV} {l : List Wr} (h : OrdR w0 w v D l) : WrR w0 w v D l := ⟨h.eq, h.row, fun x hx => (h.ok x hx).1, h.fresh⟩
theorem WrR.len {w0 w : World} {v : Value} {D : List WrV} {l : List Wr} (h : WrR w0 w v D l) : D.length = l.length := by rw [← h.eq, List.length_map]
theorem gMerge_map {α β : Type} {cf : α → α → Int} {cg : β → β → Int} (f : α → β) (hf : ∀ x y, cf x y = cg (f x) (f y)) : ∀ (a b : List α), (gMerge cf a b).map f = gMerge cg (a.map f) (b.map f)
  | [], b => by rw [gMerge, List.map_nil, gMerge]
  | x :: a, [] => by rw [gMerge_nil, List.map_nil, gMerge_nil]
  | x :: a, y :: b => by
    rw [gMerge, List.map_cons, List.map_cons, gMerge, ← hf]
    split
    · rw [List.map_cons, gMerge_map f hf a (y :: b), List.map_cons]
    · split
      · rw [List.map_cons, gMerge_map f hf (x :: a) b, List.map_cons]
      · rw [gMerge_map f hf a (y :: b), List.map_cons]
termination_by a b => a.length + b.length
theorem gMerge_mem' {α : Type} {cf : α → α → Int} {a b : List α} {z : α} (h : z ∈ gMerge cf a b) : z ∈ a ∨ z ∈ b := gMerge_mem h
theorem copyser_ok {w : World} {x : SerV} (hx : x.Ok w) {R : VWK}
    (h : ∀ w' A' c', LRow w' 115 2 (.slice A' x.n c') x.n (x.s.tags.flatMap tcells) → Grow w w' → (∀ q, fpA A' q → w.heap.size ≤ q) → R (.agg #[.string x.s.m, .slice A' x.n c', .string x.s.f]) w') :
    CallsV Tryz.prog 52 [.agg x.cells.toArray] w R := by
  obtain ⟨⟨m, tags, f⟩, A, n, c⟩ := x
  obtain ⟨hR, hn⟩ := hx
  simp only at hR hn h
  have hl := hR.tlen
  refine calls_of_wpC mixed Tryz.func52 rfl (by kernel_rfl) ?_
  intro e he
  have he0 := he 0
  simp only [List.getD_cons_zero, List.getD_cons_succ] at he0
  clear he
  rw [c_seq]
  simp -dsimp only [↓RE,RU,RL,Nat.reduceLeDiff,Nat.reduceLT,pureOp,resK,endV,↓reduceIte,Nat.reduceEqDiff,reduceCtorEq,Nat.reduceAdd,Nat.reduceMul,Int.reduceLT,Int.reduceLE,Int.reduceToNat,decide_true,decide_false,tf52, he0, SerV.cells]
  refine c_gen2 (fun e' w' => ∃ b z, e' 1 = .pointer (some ⟨b, 0, none⟩) ∧ e' 2 = .pointer (some ⟨z, 0, none⟩) ∧ Blk w' b 53 [.string m, .slice A n c, .string f] ∧ Blk w' z 53 [.string .empty, .slice none 0 0, .string .empty] ∧ w.heap.size ≤ z ∧ b < z ∧ Grow w w')
    ⟨w.heap.size, _, ?_, ?_, (two_new w _ _ #[.string m, .slice A n c, .string f] #[.string .empty, .slice none 0 0, .string .empty]).1, (two_new w 53 _ #[.string m, .slice A n c, .string f] #[.string .empty, .slice none 0 0, .string .empty]).2.1, by simp, by simp, (two_new w 53 53 #[.string m, .slice A n c, .string f] #[.string .empty, .slice none 0 0, .string .empty]).2.2⟩ ?_
  · simp -dsimp only [↓RE,RU,RL,↓reduceIte,Nat.reduceEqDiff,reduceCtorEq,decide_true,decide_false, he0]
  · simp -dsimp only [↓RE,RU,RL,↓reduceIte,Nat.reduceEqDiff,reduceCtorEq,decide_true,decide_false, he0]
  clear he0 e
  rintro e w1 ⟨b, z, he1, he2, hb, hz, hzw, hbz, g1⟩
  have hzl := hz.lt
  repeat (first | rw [c_seq] | simp -dsimp only [↓RE,RU,RL,Nat.reduceLeDiff,Nat.reduceLT,pureOp,resK,endV,↓reduceIte,Nat.reduceEqDiff,reduceCtorEq,Nat.reduceAdd,Nat.reduceMul,Int.reduceLT,Int.reduceLE,Int.reduceToNat,decide_true,decide_false,tf52, he1])
  refine ⟨[.string m, .slice A n c, .string f], rfl, fun j u hu => by rw [add_lit', Nat.zero_add, hb.cell]; exact hu, ?_⟩
  repeat (first | rw [c_seq] | simp -dsimp only [↓RE,RU,RL,Nat.reduceLeDiff,Nat.reduceLT,pureOp,resK,endV,↓reduceIte,Nat.reduceEqDiff,reduceCtorEq,Nat.reduceAdd,Nat.reduceMul,Int.reduceLT,Int.reduceLE,Int.reduceToNat,decide_true,decide_false,tf52, he1])
  refine new3 (fun w2 hb3 g2 => ?_) rfl rfl rfl
  have hb2 := hb.grow g2
  have hz2 := hz.grow g2
  have g12 := g1.trans g2
  have hsz : z < w1.heap.size := hzl
  generalize w1.heap.size = d at hb3 hsz
  have hb4 := hb3.set 1 (.slice none 0 0)
  have k3 := Keep.set1 w2 d 1 (.slice none 0 0)
  repeat (first | rw [c_seq] | simp -dsimp only [↓RE,RU,RL,Nat.reduceLeDiff,Nat.reduceLT,pureOp,resK,endV,↓reduceIte,Nat.reduceEqDiff,reduceCtorEq,Nat.reduceAdd,Nat.reduceMul,Int.reduceLT,Int.reduceLE,Int.reduceToNat,decide_true,decide_false,tf52, he1, add_lit', Nat.zero_add])
  refine hb3.st (i := 1) (by simp) ?_
  have hb5 := hb2.keep k3 (by omega)
  have hz5 := hz2.keep k3 (by omega)
  have hR5 : RdT (w2.setCell ⟨d, 1, none⟩ (.slice none 0 0)) A n tags := by
    have hlt := fun (h0 : 0 < n) => hR.lt h0 (by omega)
    have := g1.size
    exact (hR.grow g12).keep0 k3 (fun h0 q hq e => by have := hlt h0 q hq; omega)
  have k13 : Grow w (w2.setCell ⟨d, 1, none⟩ (.slice none 0 0)) := g12.above k3 (fun q hq e => by omega)
  generalize w2.setCell ⟨d, 1, none⟩ (.slice none 0 0) = w3 at hb4 hb5 hz5 hR5 k13
  have hb4 : Blk w3 d 53 [.string m, .slice none 0 0, .string f] := hb4
  have cd1 : w3.cell? ⟨d, 1, none⟩ = some (.slice none 0 0) := (hb4.cell 1).trans rfl
  have cb1 : w3.cell? ⟨b, 1, none⟩ = some (.slice A n c) := (hb5.cell 1).trans rfl
  repeat (first | rw [c_seq] | simp -dsimp only [↓RE,RU,RL,Nat.reduceLeDiff,Nat.reduceLT,pureOp,resK,endV,↓reduceIte,Nat.reduceEqDiff,reduceCtorEq,Nat.reduceAdd,Nat.reduceMul,Int.reduceLT,Int.reduceLE,Int.reduceToNat,decide_true,decide_false,tf52, he1, cd1, cb1, add_lit', Nat.zero_add])
  refine appK_l (bytes := 32) (by kernel_rfl) (LRow.nil w3 115 2) hR5 (tcells_one _) (by simp only [maxLen]; omega) (by omega) (fun A' c' w4 hL4 k4 f4 _ => ?_)
  rw [Nat.zero_add, List.nil_append] at hL4
  rw [Nat.zero_add] at f4
  have hA' : ∀ q, fpA A' q → w3.heap.size ≤ q := fun q hq => by
    rcases f4 q ((fpV_fpA _ _ _ _).2 hq) with e | e
    · exact (fpV_none _ e).elim
    · omega
  have g4 : Grow w3 w4 := k4.mono (fun q _ hq => (fpV_none _ hq).elim)
  have hb6 := hb4.grow g4
  have hz6 := hz5.grow g4
  have hdl := hb4.lt
  have hb7 := hb6.set 1 (.slice A' n c')
  have k5 := Keep.set1 w4 d 1 (.slice A' n c')
  repeat (first | rw [c_seq] | simp -dsimp only [↓RE,RU,RL,Nat.reduceLeDiff,Nat.reduceLT,pureOp,resK,endV,↓reduceIte,Nat.reduceEqDiff,reduceCtorEq,Nat.reduceAdd,Nat.reduceMul,Int.reduceLT,Int.reduceLE,Int.reduceToNat,decide_true,decide_false,tf52, he1, Nat.zero_add])
  refine hb6.st (i := 1) (by simp) ?_
  have hz7 := hz6.keep k5 (by omega)
  have hL5 := hL4.keep k5 (fun q hq e => by have := hA' q ((fpV_fpA _ _ _ _).1 hq); omega)
  have g5 : Grow w (w4.setCell ⟨d, 1, none⟩ (.slice A' n c')) := (k13.trans g4).above k5 (fun q hq e => by omega)
  generalize w4.setCell ⟨d, 1, none⟩ (.slice A' n c') = w5 at hb7 hz7 hL5 g5
  have hb7 : Blk w5 d 53 [.string m, .slice A' n c', .string f] := hb7
  repeat (first | rw [c_seq] | simp -dsimp only [↓RE,RU,RL,Nat.reduceLeDiff,Nat.reduceLT,pureOp,resK,endV,↓reduceIte,Nat.reduceEqDiff,reduceCtorEq,Nat.reduceAdd,Nat.reduceMul,Int.reduceLT,Int.reduceLE,Int.reduceToNat,decide_true,decide_false,tf52, he2])
  refine ⟨[.string m, .slice A' n c', .string f], rfl, fun j u hu => by rw [add_lit', Nat.zero_add, hb7.cell]; exact hu, ?_⟩
  repeat (first | rw [c_seq] | simp -dsimp only [↓RE,RU,RL,Nat.reduceLeDiff,Nat.reduceLT,pureOp,resK,endV,↓reduceIte,Nat.reduceEqDiff,reduceCtorEq,Nat.reduceAdd,Nat.reduceMul,Int.reduceLT,Int.reduceLE,Int.reduceToNat,decide_true,decide_false,tf52, he2])
  refine blk_st3 hz7 rfl rfl rfl (fun w6 hz8 k6 => ?_)
  have hsz3 := k13.size
  have hL6 := hL5.keep k6 (fun q hq e => by have := hA' q ((fpV_fpA _ _ _ _).1 hq); omega)
  repeat (first | rw [c_seq] | simp -dsimp only [↓RE,RU,RL,Nat.reduceLeDiff,Nat.reduceLT,pureOp,resK,endV,↓reduceIte,Nat.reduceEqDiff,reduceCtorEq,Nat.reduceAdd,Nat.reduceMul,Int.reduceLT,Int.reduceLE,Int.reduceToNat,decide_true,decide_false,tf52, he2])
  refine hz8.aggK (by simp) ?_
  exact h w6 A' c' hL6 (g5.above k6 (fun q hq e => by omega)) (fun q hq => by have := hA' q hq; omega)

abbrev RdW (w : World) (A : Option Addr) (n : Nat) (l : List WrV) : Prop := Rd w A n 6 (l.flatMap WrV.cells)
theorem Rd.wrc {w : World} {ad : Addr} {n : Nat} {l : List WrV} (h : RdW w (some ad) n l) {k : Nat} (hk : k < n) : ∀ j v, (l.getD k w00).cells[j]? = some v → w.cell? ((ad.add (k * 6)).add j) = some v := by
  have hl := h.wlen
  obtain ⟨_, ad', hA, hc⟩ := h.flat (size := 6) (fun a _ => wcells_len a) (getD_some (l := l) (k := k) (by omega)) (by omega)
  injection hA with hA
  subst hA
  exact fun j v hv => hc j v hv
theorem dropW {l : List WrV} {k : Nat} (h : k < l.length) : l.drop k = l.getD k w00 :: l.drop (k + 1) := by
  rw [List.drop_eq_getElem_cons h, List.getD_eq_getElem?_getD, List.getElem?_eq_getElem h]; rfl
/-- how the next ones lie; 1: of the first row none is left. -/
def mSign (X Y : List WrV) (i k : Nat) : Int := if i = X.length then 1 else if k = Y.length then -1 else cmpV (X.getD i w00) (Y.getD k w00)
theorem m_lt {X Y : List WrV} {i k : Nat} (hi : i ≤ X.length) (hk : k ≤ Y.length) (h : mSign X Y i k < 0) : i < X.length ∧ gMerge cmpV (X.drop i) (Y.drop k) = X.getD i w00 :: gMerge cmpV (X.drop (i + 1)) (Y.drop k) := by
  unfold mSign at h
  by_cases h1 : i = X.length
  · rw [if_pos h1] at h; omega
  rw [if_neg h1] at h
  refine ⟨by omega, ?_⟩
  rw [dropW (show i < X.length by omega)]
  by_cases h2 : k = Y.length
  · rw [List.drop_eq_nil_of_le (show Y.length ≤ k by omega), gMerge_nil, gMerge_nil]
  · rw [if_neg h2] at h
    rw [dropW (show k < Y.length by omega), gMerge, if_pos h]
theorem m_gt {X Y : List WrV} {i k : Nat} (hi : i ≤ X.length) (hk : k ≤ Y.length) (hne : i < X.length ∨ k < Y.length) (h : 0 < mSign X Y i k) : k < Y.length ∧ gMerge cmpV (X.drop i) (Y.drop k) = Y.getD k w00 :: gMerge cmpV (X.drop i) (Y.drop (k + 1)) := by
  unfold mSign at h
  by_cases h1 : i = X.length
  · refine ⟨by omega, ?_⟩
    rw [List.drop_eq_nil_of_le (show X.length ≤ i by omega), gMerge, gMerge]
    exact dropW (by omega)
  rw [if_neg h1] at h
  by_cases h2 : k = Y.length
  · rw [if_pos h2] at h; omega
  · rw [if_neg h2] at h
    refine ⟨by omega, ?_⟩
    rw [dropW (show i < X.length by omega), dropW (show k < Y.length by omega), gMerge, if_neg (by omega), if_pos h]
theorem m_eq {X Y : List WrV} {i k : Nat} (hi : i ≤ X.length) (hk : k ≤ Y.length) (h : mSign X Y i k = 0) : i < X.length ∧ gMerge cmpV (X.drop i) (Y.drop k) = gMerge cmpV (X.drop (i + 1)) (Y.drop k) := by
  unfold mSign at h
  by_cases h1 : i = X.length
  · rw [if_pos h1] at h; omega
  rw [if_neg h1] at h
  by_cases h2 : k = Y.length
  · rw [if_pos h2] at h; omega
  · rw [if_neg h2] at h
    refine ⟨by omega, ?_⟩
    rw [dropW (show i < X.length by omega), dropW (show k < Y.length by omega), gMerge, if_neg (by omega), if_neg (by omega)]
theorem gMerge_len {α : Type} {cf : α → α → Int} : ∀ (a b : List α), (gMerge cf a b).length ≤ a.length + b.length
  | [], b => by rw [gMerge]; simp
  | x :: a, [] => by rw [gMerge_nil]; simp
  | x :: a, y :: b => by
    rw [gMerge]
    split
    · have := gMerge_len (cf := cf) a (y :: b); simp at this ⊢; omega
    · split
      · have := gMerge_len (cf := cf) (x :: a) b; simp at this ⊢; omega
      · have := gMerge_len (cf := cf) a (y :: b); simp at this ⊢; omega
termination_by a b => a.length + b.length
set_option maxHeartbeats 1000000 in
theorem merged_ok {w : World} {A B : Option Addr} {n c m d : Nat} {X Y : List WrV} (hX : RdW w A n X) (hY : RdW w B m Y) (hoX : ∀ x ∈ X, x.Ok w) (hoY : ∀ x ∈ Y, x.Ok w) (hn : n + m ≤ 100000000000) {R : VWK}
    (hR : ∀ w' v, LRow w' 60 6 v (gMerge cmpV X Y).length ((gMerge cmpV X Y).flatMap WrV.cells) → Grow w w' → (∀ q, fpV v q → w.heap.size ≤ q) → R v w') : CallsV Tryz.prog 59 [.slice A n c, .slice B m d] w R := by
  have hXl := hX.wlen
  have hYl := hY.wlen
  have hxl6 : ∀ x : WrV, x.cells.length = 6 := wcells_len
  have hfill : ∀ x : WrV, putAt #[.string .empty, .slice none 0 0, .string .empty, .int .i64 0, .int .u8 0, .int .i64 0] 0 x.cells = x.cells.toArray := fun x => rfl
  have hc66 : (6 = 6 ∧ 6 ≤ 6) := ⟨rfl, Nat.le_refl _⟩
  refine calls_of_wpC mixed Tryz.func59 rfl (by kernel_rfl) ?_
  intro e he
  have he0 := he 0
  have he1 := he 1
  simp only [List.getD_cons_zero, List.getD_cons_succ] at he0 he1
  clear he
  repeat (first | rw [c_seq] | simp -dsimp only [↓RE,RU,RL,forall_const,implies_true,Nat.reduceLeDiff,Nat.reduceLT,pureOp,binPure,intBin,strBin,eqPure,isConstO,lenPure,resK,endV,yieldE,↓reduceIte,Nat.reduceEqDiff,reduceCtorEq,Nat.reduceAdd,Nat.reduceMul,Int.reduceLT,Int.reduceLE,Int.reduceToNat,Int.reduceAdd,decide_true,decide_false,tf59, he0, he1])
  refine wpLoop_intro (fun e' w' => Grow w w' ∧ (e' 0 = .slice A n c ∧ e' 1 = .slice B m d) ∧ ∃ (i k : Nat) (Out : List WrV) (v : Value), i ≤ n ∧ k ≤ m ∧ e' 6 = .int .i64 (i : Int) ∧ e' 7 = .int .i64 (k : Int) ∧ e' 5 = v ∧ LRow w' 60 6 v Out.length (Out.flatMap WrV.cells) ∧ (∀ q, fpV v q → w.heap.size ≤ q) ∧ Out.length ≤ i + k ∧ Out ++ gMerge cmpV (X.drop i) (Y.drop k) = gMerge cmpV X Y)
    (fun e' _ => (n - (envInt (e' 6)).toNat) + (m - (envInt (e' 7)).toNat)) ⟨Keep.refl _ _, ⟨?_, ?_⟩, 0, 0, [], .slice none 0 0, Nat.zero_le _, Nat.zero_le _, ?_, ?_, ?_, LRow.nil _ _ _, fun q hq => (fpV_none _ hq).elim, Nat.le_refl _, rfl⟩ ?_
  · simp -dsimp only [↓RE,RU,RL,↓reduceIte,Nat.reduceEqDiff,reduceCtorEq,decide_true,decide_false, he0]
  · simp -dsimp only [↓RE,RU,RL,↓reduceIte,Nat.reduceEqDiff,reduceCtorEq,decide_true,decide_false, he1]
  · simp -dsimp only [↓RE,RU,RL,↓reduceIte,Nat.reduceEqDiff,reduceCtorEq,decide_true,decide_false, Int.cast_ofNat_Int]
  · simp -dsimp only [↓RE,RU,RL,↓reduceIte,Nat.reduceEqDiff,reduceCtorEq,decide_true,decide_false, Int.cast_ofNat_Int]
  · simp -dsimp only [↓RE,RU,RL,↓reduceIte,Nat.reduceEqDiff,reduceCtorEq,decide_true,decide_false, he0]
  clear he0 he1 e
  rintro e w1 ⟨g1, ⟨he0, he1⟩, i, k, Out, v, hi, hk, he6, he7, he5, hv, hF, hol, hout⟩
  have hmu6 : (envInt (e 6)).toNat = i := by rw [he6]; exact Int.toNat_natCast i
  have hmu7 : (envInt (e 7)).toNat = k := by rw [he7]; exact Int.toNat_natCast k
  have hw6 : i < n → IntKind.i64.wrap ((i : Int) + 1) = ((i + 1 : Nat) : Int) := fun hlt => by rw [wrap_i64_in (by omega) (by omega)]; omega
  have hw7 : k < m → IntKind.i64.wrap ((k : Int) + 1) = ((k + 1 : Nat) : Int) := fun hlt => by rw [wrap_i64_in (by omega) (by omega)]; omega
  rw [c_seq]
  refine c_cut (fun e' w' => w' = w1 ∧ (i < n ∨ k < m) ∧ (e' 0 = .slice A n c ∧ e' 1 = .slice B m d) ∧ e' 5 = v ∧ e' 6 = .int .i64 (i : Int) ∧ e' 7 = .int .i64 (k : Int)) ?_ ?_
  · rcases Nat.lt_or_ge i n with h1 | h1
    · have hd : decide ((i : Int) < (n : Int)) = true := decide_eq_true (by omega)
      rw [c_seq]
      simp -dsimp only [↓RE,RU,RL,forall_const,implies_true,Nat.reduceLeDiff,Nat.reduceLT,pureOp,binPure,intBin,strBin,eqPure,isConstO,lenPure,resK,endV,yieldE,↓reduceIte,Nat.reduceEqDiff,reduceCtorEq,Nat.reduceAdd,Nat.reduceMul,Int.reduceLT,Int.reduceLE,Int.reduceToNat,Int.reduceAdd,decide_true,decide_false,tf59, he0, he1, he6, he7, hd, undef]
      refine hold_intro ⟨rfl, .inl h1, ⟨?_, ?_⟩, ?_, ?_, ?_⟩
      · simp -dsimp only [↓RE,RU,RL,↓reduceIte,Nat.reduceEqDiff,reduceCtorEq,decide_true,decide_false, he0]
      · simp -dsimp only [↓RE,RU,RL,↓reduceIte,Nat.reduceEqDiff,reduceCtorEq,decide_true,decide_false, he1]
      · simp -dsimp only [↓RE,RU,RL,↓reduceIte,Nat.reduceEqDiff,reduceCtorEq,decide_true,decide_false, he5]
      · simp -dsimp only [↓RE,RU,RL,↓reduceIte,Nat.reduceEqDiff,reduceCtorEq,decide_true,decide_false, he6]
      · simp -dsimp only [↓RE,RU,RL,↓reduceIte,Nat.reduceEqDiff,reduceCtorEq,decide_true,decide_false, he7]
    · have hd : decide ((i : Int) < (n : Int)) = false := decide_eq_false (by omega)
      rcases Nat.lt_or_ge k m with h2 | h2
      · have hd2 : decide ((k : Int) < (m : Int)) = true := decide_eq_true (by omega)
        rw [c_seq]
        simp -dsimp only [↓RE,RU,RL,forall_const,implies_true,Nat.reduceLeDiff,Nat.reduceLT,pureOp,binPure,intBin,strBin,eqPure,isConstO,lenPure,resK,endV,yieldE,↓reduceIte,Nat.reduceEqDiff,reduceCtorEq,Nat.reduceAdd,Nat.reduceMul,Int.reduceLT,Int.reduceLE,Int.reduceToNat,Int.reduceAdd,decide_true,decide_false,tf59, he0, he1, he6, he7, hd, hd2]
        refine hold_intro ⟨rfl, .inr h2, ⟨?_, ?_⟩, ?_, ?_, ?_⟩
        · simp -dsimp only [↓RE,RU,RL,↓reduceIte,Nat.reduceEqDiff,reduceCtorEq,decide_true,decide_false, he0]
        · simp -dsimp only [↓RE,RU,RL,↓reduceIte,Nat.reduceEqDiff,reduceCtorEq,decide_true,decide_false, he1]
        · simp -dsimp only [↓RE,RU,RL,↓reduceIte,Nat.reduceEqDiff,reduceCtorEq,decide_true,decide_false, he5]
        · simp -dsimp only [↓RE,RU,RL,↓reduceIte,Nat.reduceEqDiff,reduceCtorEq,decide_true,decide_false, he6]
        · simp -dsimp only [↓RE,RU,RL,↓reduceIte,Nat.reduceEqDiff,reduceCtorEq,decide_true,decide_false, he7]
      · have hd2 : decide ((k : Int) < (m : Int)) = false := decide_eq_false (by omega)
        rw [List.drop_eq_nil_of_le (show X.length ≤ i by omega), List.drop_eq_nil_of_le (show Y.length ≤ k by omega), gMerge, List.append_nil] at hout
        subst hout
        repeat (first | rw [c_seq] | simp -dsimp only [↓RE,RU,RL,forall_const,implies_true,Nat.reduceLeDiff,Nat.reduceLT,pureOp,binPure,intBin,strBin,eqPure,isConstO,lenPure,resK,endV,yieldE,↓reduceIte,Nat.reduceEqDiff,reduceCtorEq,Nat.reduceAdd,Nat.reduceMul,Int.reduceLT,Int.reduceLE,Int.reduceToNat,Int.reduceAdd,decide_true,decide_false,tf59, he0, he1, he5, he6, he7, hd, hd2])
        exact hR w1 v hv g1 hF
  clear he0 he1 he5 he6 he7
  rintro e1 w2 ⟨rfl, hne, ⟨he0, he1⟩, he5, he6, he7⟩
  simp -dsimp only [↓RE,RU,RL,forall_const,implies_true,Nat.reduceLeDiff,Nat.reduceLT,pureOp,binPure,intBin,strBin,eqPure,isConstO,lenPure,resK,endV,yieldE,↓reduceIte,Nat.reduceEqDiff,reduceCtorEq,Nat.reduceAdd,Nat.reduceMul,Int.reduceLT,Int.reduceLE,Int.reduceToNat,Int.reduceAdd,decide_true,decide_false,tf59, he0]
  rw [c_seq]
  simp -dsimp only [↓RE,RU,RL,forall_const,implies_true,Nat.reduceLeDiff,Nat.reduceLT,pureOp,binPure,intBin,strBin,eqPure,isConstO,lenPure,resK,endV,yieldE,↓reduceIte,Nat.reduceEqDiff,reduceCtorEq,Nat.reduceAdd,Nat.reduceMul,Int.reduceLT,Int.reduceLE,Int.reduceToNat,Int.reduceAdd,decide_true,decide_false,tf59, he0]
  rw [c_seq]
  refine c_cut (fun e' w' => Grow w2 w' ∧ (e' 0 = .slice A n c ∧ e' 1 = .slice B m d) ∧ e' 5 = v ∧ e' 6 = .int .i64 (i : Int) ∧ e' 7 = .int .i64 (k : Int) ∧ e' 8 = .int .i64 (mSign X Y i k)) ?_ ?_
  · by_cases h1 : i = n
    · have hd : decide ((i : Int) = (n : Int)) = true := decide_eq_true (by omega)
      have hs : mSign X Y i k = 1 := by unfold mSign; rw [if_pos (by omega)]
      rw [hs]
      rw [c_seq]
      simp -dsimp only [↓RE,RU,RL,forall_const,implies_true,Nat.reduceLeDiff,Nat.reduceLT,pureOp,binPure,intBin,strBin,eqPure,isConstO,lenPure,resK,endV,yieldE,↓reduceIte,Nat.reduceEqDiff,reduceCtorEq,Nat.reduceAdd,Nat.reduceMul,Int.reduceLT,Int.reduceLE,Int.reduceToNat,Int.reduceAdd,decide_true,decide_false,tf59, he0, he1, he6, he7, hd]
      refine hold_intro ⟨Keep.refl _ _, ⟨?_, ?_⟩, ?_, ?_, ?_, ?_⟩
      · simp -dsimp only [↓RE,RU,RL,↓reduceIte,Nat.reduceEqDiff,reduceCtorEq,decide_true,decide_false, he0]
      · simp -dsimp only [↓RE,RU,RL,↓reduceIte,Nat.reduceEqDiff,reduceCtorEq,decide_true,decide_false, he1]
      · simp -dsimp only [↓RE,RU,RL,↓reduceIte,Nat.reduceEqDiff,reduceCtorEq,decide_true,decide_false, he5]
      · simp -dsimp only [↓RE,RU,RL,↓reduceIte,Nat.reduceEqDiff,reduceCtorEq,decide_true,decide_false, he6]
      · simp -dsimp only [↓RE,RU,RL,↓reduceIte,Nat.reduceEqDiff,reduceCtorEq,decide_true,decide_false, he7]
      · simp -dsimp only [↓RE,RU,RL,↓reduceIte,Nat.reduceEqDiff,reduceCtorEq,decide_true,decide_false, he7]
    · have hd : decide ((i : Int) = (n : Int)) = false := decide_eq_false (by omega)
      by_cases h2 : k = m
      · have hd2 : decide ((k : Int) = (m : Int)) = true := decide_eq_true (by omega)
        have hs : mSign X Y i k = -1 := by unfold mSign; rw [if_neg (by omega), if_pos (by omega)]
        rw [hs]
        rw [c_seq]
        simp -dsimp only [↓RE,RU,RL,forall_const,implies_true,Nat.reduceLeDiff,Nat.reduceLT,pureOp,binPure,intBin,strBin,eqPure,isConstO,lenPure,resK,endV,yieldE,↓reduceIte,Nat.reduceEqDiff,reduceCtorEq,Nat.reduceAdd,Nat.reduceMul,Int.reduceLT,Int.reduceLE,Int.reduceToNat,Int.reduceAdd,decide_true,decide_false,tf59, he0, he1, he6, he7, hd]
        rw [c_seq]
        simp -dsimp only [↓RE,RU,RL,forall_const,implies_true,Nat.reduceLeDiff,Nat.reduceLT,pureOp,binPure,intBin,strBin,eqPure,isConstO,lenPure,resK,endV,yieldE,↓reduceIte,Nat.reduceEqDiff,reduceCtorEq,Nat.reduceAdd,Nat.reduceMul,Int.reduceLT,Int.reduceLE,Int.reduceToNat,Int.reduceAdd,decide_true,decide_false,tf59, he0, he1, he6, he7, hd, hd2]
        refine hold_intro ⟨Keep.refl _ _, ⟨?_, ?_⟩, ?_, ?_, ?_, ?_⟩
        · simp -dsimp only [↓RE,RU,RL,↓reduceIte,Nat.reduceEqDiff,reduceCtorEq,decide_true,decide_false, he0]
        · simp -dsimp only [↓RE,RU,RL,↓reduceIte,Nat.reduceEqDiff,reduceCtorEq,decide_true,decide_false, he1]
        · simp -dsimp only [↓RE,RU,RL,↓reduceIte,Nat.reduceEqDiff,reduceCtorEq,decide_true,decide_false, he5]
        · simp -dsimp only [↓RE,RU,RL,↓reduceIte,Nat.reduceEqDiff,reduceCtorEq,decide_true,decide_false, he6]
        · simp -dsimp only [↓RE,RU,RL,↓reduceIte,Nat.reduceEqDiff,reduceCtorEq,decide_true,decide_false, he7]
        · simp -dsimp only [↓RE,RU,RL,↓reduceIte,Nat.reduceEqDiff,reduceCtorEq,decide_true,decide_false, he7]
      · have hd2 : decide ((k : Int) = (m : Int)) = false := decide_eq_false (by omega)
        have hs : mSign X Y i k = cmpV (X.getD i w00) (Y.getD k w00) := by unfold mSign; rw [if_neg (by omega), if_neg (by omega)]
        rw [hs]
        have hXg := hX.grow g1
        have hYg := hY.grow g1
        obtain ⟨ad, rfl⟩ : ∃ ad, A = some ad := by
          obtain ⟨ad, e, _⟩ := hXg.2 (by omega)
          exact ⟨ad, e⟩
        obtain ⟨bd, rfl⟩ : ∃ bd, B = some bd := by
          obtain ⟨ad, e, _⟩ := hYg.2 (by omega)
          exact ⟨ad, e⟩
        have cx : ∀ w', Grow w2 w' → ∀ (j : Nat) u, (X.getD i w00).cells[j]? = some u → w'.cell? ((ad.add (i * 6)).add j) = some u := fun w' g => (hXg.grow g).wrc (by omega)
        have cy : ∀ w', Grow w2 w' → ∀ (j : Nat) u, (Y.getD k w00).cells[j]? = some u → w'.cell? ((bd.add (k * 6)).add j) = some u := fun w' g => (hYg.grow g).wrc (by omega)
        have ox := (hoX _ (getD_mem (l := X) (k := i) (by omega))).grow g1
        have oy := (hoY _ (getD_mem (l := Y) (k := k) (by omega))).grow g1
        rw [c_seq]
        simp -dsimp only [↓RE,RU,RL,forall_const,implies_true,Nat.reduceLeDiff,Nat.reduceLT,pureOp,binPure,intBin,strBin,eqPure,isConstO,lenPure,resK,endV,yieldE,↓reduceIte,Nat.reduceEqDiff,reduceCtorEq,Nat.reduceAdd,Nat.reduceMul,Int.reduceLT,Int.reduceLE,Int.reduceToNat,Int.reduceAdd,decide_true,decide_false,tf59, he0, he1, he6, he7, hd]
        rw [c_seq]
        simp -dsimp only [↓RE,RU,RL,forall_const,implies_true,Nat.reduceLeDiff,Nat.reduceLT,pureOp,binPure,intBin,strBin,eqPure,isConstO,lenPure,resK,endV,yieldE,↓reduceIte,Nat.reduceEqDiff,reduceCtorEq,Nat.reduceAdd,Nat.reduceMul,Int.reduceLT,Int.reduceLE,Int.reduceToNat,Int.reduceAdd,decide_true,decide_false,tf59, he0, he1, he6, he7, hd, hd2]
        refine wpDraw_by (Grow w2 ·) [(0, true), (1, true), (2, true), (3, true), (4, true), (5, true), (6, true), (7, true), (8, false), (9, true)] (by kernel_rfl) (Grow.drew w2) ?_
        simp only [planL, List.getElem?_toArray, List.getElem?_cons_zero, List.getElem?_cons_succ, Option.toList_some, List.map_cons, List.map_nil, List.cons_append, List.nil_append]
        simp -dsimp only [↓RE,RU,RL,forall_const,implies_true,Nat.reduceLeDiff,Nat.reduceLT,pureOp,binPure,intBin,strBin,eqPure,isConstO,lenPure,resK,endV,yieldE,↓reduceIte,Nat.reduceEqDiff,reduceCtorEq,Nat.reduceAdd,Nat.reduceMul,Int.reduceLT,Int.reduceLE,Int.reduceToNat,Int.reduceAdd,decide_true,decide_false,tf59, he0, he1, he6, he7, Int.toNat_natCast]
        refine ⟨⟨by omega, by omega⟩, ?_⟩
        try simp -dsimp only [↓RE,↓c_seq,RU,RL,forall_const,implies_true,Nat.reduceLeDiff,Nat.reduceLT,pureOp,binPure,intBin,strBin,eqPure,isConstO,lenPure,resK,endV,yieldE,↓reduceIte,Nat.reduceEqDiff,reduceCtorEq,Nat.reduceAdd,Nat.reduceMul,Int.reduceLT,Int.reduceLE,Int.reduceToNat,Int.reduceAdd,decide_true,decide_false,tf59, he0, he1, he6, he7, Int.toNat_natCast]
        refine ⟨(X.getD i w00).cells, rfl, cx, ?_⟩
        simp -dsimp only [↓RE,RU,RL,forall_const,implies_true,Nat.reduceLeDiff,Nat.reduceLT,pureOp,binPure,intBin,strBin,eqPure,isConstO,lenPure,resK,endV,yieldE,↓reduceIte,Nat.reduceEqDiff,reduceCtorEq,Nat.reduceAdd,Nat.reduceMul,Int.reduceLT,Int.reduceLE,Int.reduceToNat,Int.reduceAdd,decide_true,decide_false,tf59, he0, he1, he6, he7, Int.toNat_natCast]
        refine ⟨⟨by omega, by omega⟩, ?_⟩
        try simp -dsimp only [↓RE,↓c_seq,RU,RL,forall_const,implies_true,Nat.reduceLeDiff,Nat.reduceLT,pureOp,binPure,intBin,strBin,eqPure,isConstO,lenPure,resK,endV,yieldE,↓reduceIte,Nat.reduceEqDiff,reduceCtorEq,Nat.reduceAdd,Nat.reduceMul,Int.reduceLT,Int.reduceLE,Int.reduceToNat,Int.reduceAdd,decide_true,decide_false,tf59, he0, he1, he6, he7, Int.toNat_natCast]
        refine ⟨(Y.getD k w00).cells, rfl, cy, ?_⟩
        simp -dsimp only [↓RE,RU,RL,forall_const,implies_true,Nat.reduceLeDiff,Nat.reduceLT,pureOp,binPure,intBin,strBin,eqPure,isConstO,lenPure,resK,endV,yieldE,↓reduceIte,Nat.reduceEqDiff,reduceCtorEq,Nat.reduceAdd,Nat.reduceMul,Int.reduceLT,Int.reduceLE,Int.reduceToNat,Int.reduceAdd,decide_true,decide_false,tf59, he0, he1, he6, he7]
        refine rwcmp_ok (ox.grow (Grow.drew w2)) (oy.grow (Grow.drew w2)) (fun w3 g3 => ?_)
        have g23 := (Grow.drew w2).trans g3
        refine ⟨g23, ?_⟩
        try simp -dsimp only [↓RE,↓c_seq,RU,RL,forall_const,implies_true,Nat.reduceLeDiff,Nat.reduceLT,pureOp,binPure,intBin,strBin,eqPure,isConstO,lenPure,resK,endV,yieldE,↓reduceIte,Nat.reduceEqDiff,reduceCtorEq,Nat.reduceAdd,Nat.reduceMul,Int.reduceLT,Int.reduceLE,Int.reduceToNat,Int.reduceAdd,decide_true,decide_false,tf59, he0, he1, he6, he7]
        refine hold_intro ⟨g23, ⟨?_, ?_⟩, ?_, ?_, ?_, ?_⟩
        · simp -dsimp only [↓RE,RU,RL,↓reduceIte,Nat.reduceEqDiff,reduceCtorEq,decide_true,decide_false, he0]
        · simp -dsimp only [↓RE,RU,RL,↓reduceIte,Nat.reduceEqDiff,reduceCtorEq,decide_true,decide_false, he1]
        · simp -dsimp only [↓RE,RU,RL,↓reduceIte,Nat.reduceEqDiff,reduceCtorEq,decide_true,decide_false, he5]
        · simp -dsimp only [↓RE,RU,RL,↓reduceIte,Nat.reduceEqDiff,reduceCtorEq,decide_true,decide_false, he6]
        · simp -dsimp only [↓RE,RU,RL,↓reduceIte,Nat.reduceEqDiff,reduceCtorEq,decide_true,decide_false, he7]
        · simp -dsimp only [↓RE,RU,RL,↓reduceIte,Nat.reduceEqDiff,reduceCtorEq,decide_true,decide_false, he7]
  clear he0 he1 he5 he6 he7
  rintro e2 w3 ⟨g3, ⟨he0, he1⟩, he5, he6, he7, he8⟩
  have g13 := g1.trans g3
  have hv3 := hv.grow g3
  generalize hsg : mSign X Y i k = sg at he8
  rcases Int.lt_trichotomy sg 0 with hneg | hz | hpos
  · obtain ⟨hin, hst⟩ := m_lt (X := X) (Y := Y) (i := i) (k := k) (by omega) (by omega) (by omega)
    have hXg := hX.grow g13
    obtain ⟨ad, rfl⟩ : ∃ ad, A = some ad := by
      obtain ⟨ad, e, _⟩ := hXg.2 (by omega)
      exact ⟨ad, e⟩
    have cx := hXg.wrc (k := i) (by omega)
    rw [hst] at hout
    generalize X.getD i w00 = x at cx hout
    have hd : decide (sg < 0) = true := decide_eq_true hneg
    repeat (first | rw [c_seq] | simp -dsimp only [↓RE,RU,RL,forall_const,implies_true,Nat.reduceLeDiff,Nat.reduceLT,pureOp,binPure,intBin,strBin,eqPure,isConstO,lenPure,resK,endV,yieldE,↓reduceIte,Nat.reduceEqDiff,reduceCtorEq,Nat.reduceAdd,Nat.reduceMul,Int.reduceLT,Int.reduceLE,Int.reduceToNat,Int.reduceAdd,decide_true,decide_false,tf59, he0, he5, he6, he8, hd, Int.toNat_natCast])
    refine ⟨⟨by omega, by omega⟩, x.cells, rfl, cx, ?_⟩
    simp -dsimp only [↓RE,RU,RL,forall_const,implies_true,Nat.reduceLeDiff,Nat.reduceLT,pureOp,binPure,intBin,strBin,eqPure,isConstO,lenPure,resK,endV,yieldE,↓reduceIte,Nat.reduceEqDiff,reduceCtorEq,Nat.reduceAdd,Nat.reduceMul,Int.reduceLT,Int.reduceLE,Int.reduceToNat,Int.reduceAdd,decide_true,decide_false,tf59, he0, he5, he6, hxl6, hfill, hc66, and_self, Nat.le_refl]
    have ga := Grow.alloc w3 (.cells x.cells.toArray 60)
    refine app_w (hv3.grow ga) (one_row w3 x) (by omega) (fun A' c' w7 hL7 k7 f7 => ?_)
    have gG := g13.trans ga
    have g7 : Grow w w7 := gG.above k7 (fun q hq e => by have := hF q e; omega)
    have hs7 := g13.size
    have hsa := ga.size
    have hw1 := hw6 (by omega)
    simp -dsimp only [↓RE,RU,RL,forall_const,implies_true,Nat.reduceLeDiff,Nat.reduceLT,pureOp,binPure,intBin,strBin,eqPure,isConstO,lenPure,resK,endV,yieldE,↓reduceIte,Nat.reduceEqDiff,reduceCtorEq,Nat.reduceAdd,Nat.reduceMul,Int.reduceLT,Int.reduceLE,Int.reduceToNat,Int.reduceAdd,decide_true,decide_false,tf59, he6, hw1]
    refine hold_intro ⟨⟨g7, ⟨?_, ?_⟩, i + 1, k, Out ++ [x], .slice A' (Out.length + 1) c', by omega, hk, ?_, ?_, ?_, hL7, fun q hq => ?_, by simp; omega, by rw [← hout]; simp⟩, ?_⟩
    · simp -dsimp only [↓RE,RU,RL,↓reduceIte,Nat.reduceEqDiff,reduceCtorEq,decide_true,decide_false, he0]
    · simp -dsimp only [↓RE,RU,RL,↓reduceIte,Nat.reduceEqDiff,reduceCtorEq,decide_true,decide_false, he1]
    · simp -dsimp only [↓RE,RU,RL,↓reduceIte,Nat.reduceEqDiff,reduceCtorEq,decide_true,decide_false, hw1]
    · simp -dsimp only [↓RE,RU,RL,↓reduceIte,Nat.reduceEqDiff,reduceCtorEq,decide_true,decide_false, he7]
    · simp -dsimp only [↓RE,RU,RL,↓reduceIte,Nat.reduceEqDiff,reduceCtorEq,decide_true,decide_false, he5]
    · rcases f7 q hq with e | e
      · exact hF q e
      · omega
    · rw [hmu6, hmu7]
      simp -dsimp only [↓RE,↓c_seq,RU,RL,forall_const,implies_true,Nat.reduceLeDiff,Nat.reduceLT,pureOp,binPure,intBin,strBin,eqPure,isConstO,lenPure,resK,endV,yieldE,↓reduceIte,Nat.reduceEqDiff,reduceCtorEq,Nat.reduceAdd,Nat.reduceMul,Int.reduceLT,Int.reduceLE,Int.reduceToNat,Int.reduceAdd,decide_true,decide_false,tf59, hw1, he7]
      simp only [envInt_int]; omega
  · subst hz
    obtain ⟨hin, hst⟩ := m_eq (X := X) (Y := Y) (i := i) (k := k) (by omega) (by omega) (by omega)
    rw [hst] at hout
    have hw1 := hw6 (by omega)
    have hd : decide ((0 : Int) < 0) = false := rfl
    repeat (first | rw [c_seq] | simp -dsimp only [↓RE,RU,RL,forall_const,implies_true,Nat.reduceLeDiff,Nat.reduceLT,pureOp,binPure,intBin,strBin,eqPure,isConstO,lenPure,resK,endV,yieldE,↓reduceIte,Nat.reduceEqDiff,reduceCtorEq,Nat.reduceAdd,Nat.reduceMul,Int.reduceLT,Int.reduceLE,Int.reduceToNat,Int.reduceAdd,decide_true,decide_false,tf59, he8, hd])
    simp -dsimp only [↓RE,RU,RL,forall_const,implies_true,Nat.reduceLeDiff,Nat.reduceLT,pureOp,binPure,intBin,strBin,eqPure,isConstO,lenPure,resK,endV,yieldE,↓reduceIte,Nat.reduceEqDiff,reduceCtorEq,Nat.reduceAdd,Nat.reduceMul,Int.reduceLT,Int.reduceLE,Int.reduceToNat,Int.reduceAdd,decide_true,decide_false,tf59, he6, hw1]
    refine hold_intro ⟨⟨g13, ⟨?_, ?_⟩, i + 1, k, Out, v, by omega, hk, ?_, ?_, ?_, hv3, hF, by omega, hout⟩, ?_⟩
    · simp -dsimp only [↓RE,RU,RL,↓reduceIte,Nat.reduceEqDiff,reduceCtorEq,decide_true,decide_false, he0]
    · simp -dsimp only [↓RE,RU,RL,↓reduceIte,Nat.reduceEqDiff,reduceCtorEq,decide_true,decide_false, he1]
    · simp -dsimp only [↓RE,RU,RL,↓reduceIte,Nat.reduceEqDiff,reduceCtorEq,decide_true,decide_false, hw1]
    · simp -dsimp only [↓RE,RU,RL,↓reduceIte,Nat.reduceEqDiff,reduceCtorEq,decide_true,decide_false, he7]
    · simp -dsimp only [↓RE,RU,RL,↓reduceIte,Nat.reduceEqDiff,reduceCtorEq,decide_true,decide_false, he5]
    · rw [hmu6, hmu7]
      simp -dsimp only [↓RE,↓c_seq,RU,RL,forall_const,implies_true,Nat.reduceLeDiff,Nat.reduceLT,pureOp,binPure,intBin,strBin,eqPure,isConstO,lenPure,resK,endV,yieldE,↓reduceIte,Nat.reduceEqDiff,reduceCtorEq,Nat.reduceAdd,Nat.reduceMul,Int.reduceLT,Int.reduceLE,Int.reduceToNat,Int.reduceAdd,decide_true,decide_false,tf59, hw1, he7]
      simp only [envInt_int]; omega
  · obtain ⟨hkn, hst⟩ := m_gt (X := X) (Y := Y) (i := i) (k := k) (by omega) (by omega) (by omega) (by omega)
    have hYg := hY.grow g13
    obtain ⟨bd, rfl⟩ : ∃ ad, B = some ad := by
      obtain ⟨ad, e, _⟩ := hYg.2 (by omega)
      exact ⟨ad, e⟩
    have cx := hYg.wrc (k := k) (by omega)
    rw [hst] at hout
    generalize Y.getD k w00 = x at cx hout
    have hd : decide (sg < 0) = false := decide_eq_false (by omega)
    have hd2 : decide (0 < sg) = true := decide_eq_true hpos
    repeat (first | rw [c_seq] | simp -dsimp only [↓RE,RU,RL,forall_const,implies_true,Nat.reduceLeDiff,Nat.reduceLT,pureOp,binPure,intBin,strBin,eqPure,isConstO,lenPure,resK,endV,yieldE,↓reduceIte,Nat.reduceEqDiff,reduceCtorEq,Nat.reduceAdd,Nat.reduceMul,Int.reduceLT,Int.reduceLE,Int.reduceToNat,Int.reduceAdd,decide_true,decide_false,tf59, he1, he5, he7, he8, hd, hd2, Int.toNat_natCast])
    refine ⟨⟨by omega, by omega⟩, x.cells, rfl, cx, ?_⟩
    simp -dsimp only [↓RE,RU,RL,forall_const,implies_true,Nat.reduceLeDiff,Nat.reduceLT,pureOp,binPure,intBin,strBin,eqPure,isConstO,lenPure,resK,endV,yieldE,↓reduceIte,Nat.reduceEqDiff,reduceCtorEq,Nat.reduceAdd,Nat.reduceMul,Int.reduceLT,Int.reduceLE,Int.reduceToNat,Int.reduceAdd,decide_true,decide_false,tf59, he0, he5, he7, hxl6, hfill, hc66, and_self, Nat.le_refl]
    have ga := Grow.alloc w3 (.cells x.cells.toArray 60)
    refine app_w (hv3.grow ga) (one_row w3 x) (by omega) (fun A' c' w7 hL7 k7 f7 => ?_)
    have gG := g13.trans ga
    have g7 : Grow w w7 := gG.above k7 (fun q hq e => by have := hF q e; omega)
    have hs7 := g13.size
    have hsa := ga.size
    have hw1 := hw7 (by omega)
    simp -dsimp only [↓RE,RU,RL,forall_const,implies_true,Nat.reduceLeDiff,Nat.reduceLT,pureOp,binPure,intBin,strBin,eqPure,isConstO,lenPure,resK,endV,yieldE,↓reduceIte,Nat.reduceEqDiff,reduceCtorEq,Nat.reduceAdd,Nat.reduceMul,Int.reduceLT,Int.reduceLE,Int.reduceToNat,Int.reduceAdd,decide_true,decide_false,tf59, he7, hw1]
    refine hold_intro ⟨⟨g7, ⟨?_, ?_⟩, i, k + 1, Out ++ [x], .slice A' (Out.length + 1) c', hi, by omega, ?_, ?_, ?_, hL7, fun q hq => ?_, by simp; omega, by rw [← hout]; simp⟩, ?_⟩
    · simp -dsimp only [↓RE,RU,RL,↓reduceIte,Nat.reduceEqDiff,reduceCtorEq,decide_true,decide_false, he0]
    · simp -dsimp only [↓RE,RU,RL,↓reduceIte,Nat.reduceEqDiff,reduceCtorEq,decide_true,decide_false, he1]
    · simp -dsimp only [↓RE,RU,RL,↓reduceIte,Nat.reduceEqDiff,reduceCtorEq,decide_true,decide_false, he6]
    · simp -dsimp only [↓RE,RU,RL,↓reduceIte,Nat.reduceEqDiff,reduceCtorEq,decide_true,decide_false, hw1]
    · simp -dsimp only [↓RE,RU,RL,↓reduceIte,Nat.reduceEqDiff,reduceCtorEq,decide_true,decide_false, he5]
    · rcases f7 q hq with e | e
      · exact hF q e
      · omega
    · rw [hmu6, hmu7]
      simp -dsimp only [↓RE,↓c_seq,RU,RL,forall_const,implies_true,Nat.reduceLeDiff,Nat.reduceLT,pureOp,binPure,intBin,strBin,eqPure,isConstO,lenPure,resK,endV,yieldE,↓reduceIte,Nat.reduceEqDiff,reduceCtorEq,Nat.reduceAdd,Nat.reduceMul,Int.reduceLT,Int.reduceLE,Int.reduceToNat,Int.reduceAdd,decide_true,decide_false,tf59, hw1, he6]
      simp only [envInt_int]; omega

end Go.Proofs.YtljgnocpijniiaaGreatDoor
