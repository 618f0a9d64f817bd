/- Tags in order: rows of tags compared, by the program and by the document. -/
import Derived.Test.YtljgnocpijniiaaGreatDoorStrL
set_option linter.unusedVariables false
set_option linter.unusedSimpArgs false
set_option maxRecDepth 100000
namespace Go.Proofs.YtljgnocpijniiaaGreatDoor
open Go

abbrev Tg := ByteArray × ByteArray
instance : Inhabited Tg := ⟨(.empty, .empty)⟩
def t00 : Tg := (.empty, .empty)
def tcells (t : Tg) : List Value := [.string t.1, .string t.2]
def cmpT (a b : Tg) : Int := if cmpS a.1 b.1 = 0 then cmpS a.2 b.2 else cmpS a.1 b.1
theorem cmpT_cmp : Cmp cmpT := (cmpS_cmp.pull Prod.fst).or (cmpS_cmp.pull Prod.snd)
theorem cmpT_eq (a b : Tg) : cmpT a b = 0 ↔ a = b := by
  unfold cmpT
  obtain ⟨a1, a2⟩ := a
  obtain ⟨b1, b2⟩ := b
  by_cases h : cmpS a1 b1 = 0
  · have := (cmpS_eq a1 b1).1 h
    subst this
    simp only [h, if_true]
    rw [cmpS_eq]
    simp
  · have hne : a1 ≠ b1 := fun e => h ((cmpS_eq a1 b1).2 e)
    simp only [if_neg h]
    simp [h, hne]
def cmpTs : List Tg → List Tg → Int := lexL cmpT
theorem cmpTs_cmp : Cmp cmpTs := cmpT_cmp.lex
theorem cmpTs_eq (x y : List Tg) : cmpTs x y = 0 ↔ x = y := lex_eq cmpT_eq x y
theorem lex_drop {x y : List Tg} : ∀ {k : Nat}, (∀ i, i < k → cmpT (x.getD i t00) (y.getD i t00) = 0) → k ≤ x.length → k ≤ y.length → cmpTs x y = cmpTs (x.drop k) (y.drop k) := by
  intro k
  induction k generalizing x y with
  | zero => intro _ _ _; rw [List.drop_zero, List.drop_zero]
  | succ k ih =>
    intro h hx hy
    cases x with
    | nil => simp at hx
    | cons a x =>
      cases y with
      | nil => simp at hy
      | cons b y =>
        have h0 := h 0 (by omega)
        have h0 : cmpT a b = 0 := h0
        show lexL cmpT (a :: x) (b :: y) = _
        rw [lexL, if_pos h0]
        exact ih (fun i hi => h (i + 1) (by omega)) (by simp at hx; omega) (by simp at hy; omega)
theorem lex_at {x y : List Tg} {k : Nat} (h : ∀ i, i < k → cmpT (x.getD i t00) (y.getD i t00) = 0) (hx : k < x.length) (hy : k < y.length) (hn : cmpT (x.getD k t00) (y.getD k t00) ≠ 0) : cmpTs x y = cmpT (x.getD k t00) (y.getD k t00) := by
  rw [lex_drop h (by omega) (by omega), List.drop_eq_getElem_cons hx, List.drop_eq_getElem_cons hy]
  have e1 : x.getD k t00 = x[k] := by rw [List.getD_eq_getElem?_getD, List.getElem?_eq_getElem hx]; rfl
  have e2 : y.getD k t00 = y[k] := by rw [List.getD_eq_getElem?_getD, List.getElem?_eq_getElem hy]; rfl
  rw [e1, e2] at hn ⊢
  show lexL cmpT _ _ = _
  rw [lexL, if_neg hn]
theorem lex_lo {x y : List Tg} (h : ∀ i, i < x.length → cmpT (x.getD i t00) (y.getD i t00) = 0) (hl : x.length < y.length) : cmpTs x y = -1 := by
  rw [lex_drop h (Nat.le_refl _) (by omega), List.drop_eq_nil_of_le (Nat.le_refl _), List.drop_eq_getElem_cons hl]; rfl
theorem lex_hi {x y : List Tg} (h : ∀ i, i < y.length → cmpT (x.getD i t00) (y.getD i t00) = 0) (hl : y.length < x.length) : cmpTs x y = 1 := by
  rw [lex_drop h (by omega) (Nat.le_refl _), List.drop_eq_nil_of_le (Nat.le_refl y.length), List.drop_eq_getElem_cons hl]; rfl
theorem lex_0 {x y : List Tg} (h : ∀ i, i < x.length → cmpT (x.getD i t00) (y.getD i t00) = 0) (hl : x.length = y.length) : cmpTs x y = 0 := by
  rw [lex_drop h (Nat.le_refl _) (by omega), List.drop_eq_nil_of_le (Nat.le_refl _), List.drop_eq_nil_of_le (by omega)]; rfl
/-- a row of tags that can be read. -/
abbrev RdT (w : World) (A : Option Addr) (n : Nat) (l : List Tg) : Prop := Rd w A n 2 (l.flatMap tcells)
theorem Rd.tlen {w : World} {A : Option Addr} {n : Nat} {l : List Tg} (h : RdT w A n l) : l.length = n := by
  have h1 := h.1
  rw [flat_len tcells (size := 2) l (fun _ _ => rfl)] at h1
  omega
theorem Rd.tag {w : World} {A : Option Addr} {n : Nat} {l : List Tg} (h : RdT w A n l) {k : Nat} (hk : k < n) :
    ∃ ad, A = some ad ∧ w.cell? (ad.add (k * 2)) = some (.string (l.getD k t00).1) ∧ w.cell? ((ad.add (k * 2)).add 1) = some (.string (l.getD k t00).2) ∧
      (∀ {K : VK} {tk : Tok K}, K (.agg #[.string (l.getD k t00).1, .string (l.getD k t00).2]) → aggK w (ad.add (k * 2)) (some 2) K tk) := by
  have hl := h.tlen
  have hg : l[k]? = some (l.getD k t00) := by rw [List.getD_eq_getElem?_getD, List.getElem?_eq_getElem (by omega)]; rfl
  obtain ⟨_, ad, hA, hc⟩ := h.flat (size := 2) (fun _ _ => rfl) hg (by omega)
  refine ⟨ad, hA, ?_, hc 1 _ rfl, fun hK => ⟨tcells (l.getD k t00), rfl, fun j v hv => hc j v hv, hK⟩⟩
  have := hc 0 _ rfl
  rwa [add_zero'] at this
theorem Rd.tag' {w : World} {ad : Addr} {n : Nat} {l : List Tg} (h : RdT w (some ad) n l) {k : Nat} (hk : k < n) :
    w.cell? (ad.add (k * 2)) = some (.string (l.getD k t00).1) ∧ w.cell? ((ad.add (k * 2)).add 1) = some (.string (l.getD k t00).2) ∧
      (∀ {K : VK} {tk : Tok K}, K (.agg #[.string (l.getD k t00).1, .string (l.getD k t00).2]) → aggK w (ad.add (k * 2)) (some 2) K tk) := by
  obtain ⟨ad', h1, h2⟩ := h.tag hk
  injection h1 with h1
  subst h1
  exact h2

theorem orI2 (a b : Int) : orI [a, b] = if a = 0 then b else a := by
  simp only [orI]
  split
  · split <;> simp [*]
  · rfl
theorem orI3 (a b c : Int) : orI [a, b, c] = if (if a = 0 then b else a) = 0 then c else (if a = 0 then b else a) := by
  simp only [orI]
  by_cases ha : a = 0
  · simp only [if_pos ha]
    split
    · split <;> simp [*]
    · rfl
  · simp only [if_neg ha]
/-- the order of two tags, as key.Compare has it. -/
theorem ctag_ok {w : World} {a b : Tg} {R : VWK} (h : ∀ w', Grow w w' → R (.int .i64 (cmpT a b)) w') : CallsV Tryz.prog 112 [.agg #[.string a.1, .string a.2], .agg #[.string b.1, .string b.2]] w R := by
  refine calls_of_wpC mixed Tryz.func112 rfl (by kernel_rfl) ?_
  intro e he
  have he0 := he 0
  have he1 := he 1
  simp only [List.getD_cons_zero, List.getD_cons_succ] at he0 he1
  clear he
  rw [c_seq]
  simp -dsimp only [↓RE,RU,RL,Nat.reduceLeDiff,Nat.reduceLT,pureOp,resK,endV,↓reduceIte,Nat.reduceEqDiff,reduceCtorEq,Nat.reduceAdd,Nat.reduceMul,Int.reduceLT,Int.reduceLE,Int.reduceToNat,decide_true,decide_false,tf112, he0, he1]
  refine c_gen2 (fun e' w' => ∃ p q, e' 2 = .pointer (some ⟨p, 0, none⟩) ∧ e' 3 = .pointer (some ⟨q, 0, none⟩) ∧ Blk w' p 115 [.string a.1, .string a.2] ∧ Blk w' q 115 [.string b.1, .string b.2] ∧ Grow w w') ⟨_, _, ?_, ?_, two_new w _ _ #[.string a.1, .string a.2] #[.string b.1, .string b.2]⟩ ?_
  · simp -dsimp only [↓RE,RU,RL,↓reduceIte,Nat.reduceEqDiff,reduceCtorEq,decide_true,decide_false, he0]
  · simp -dsimp only [↓RE,RU,RL,↓reduceIte,Nat.reduceEqDiff,reduceCtorEq,decide_true,decide_false, he0]
  clear he0 he1 e
  rintro e w1 ⟨p, q, he2, he3, hb1, hb2, g1⟩
  have x0 : ∀ w', Grow w1 w' → w'.cell? ⟨p, 0, none⟩ = some (.string a.1) := fun w' g => ((hb1.grow g).cell 0).trans rfl
  have x1 : ∀ w', Grow w1 w' → w'.cell? ⟨p, 1, none⟩ = some (.string a.2) := fun w' g => ((hb1.grow g).cell 1).trans rfl
  have y0 : ∀ w', Grow w1 w' → w'.cell? ⟨q, 0, none⟩ = some (.string b.1) := fun w' g => ((hb2.grow g).cell 0).trans rfl
  have y1 : ∀ w', Grow w1 w' → w'.cell? ⟨q, 1, none⟩ = some (.string b.2) := fun w' g => ((hb2.grow g).cell 1).trans rfl
  rw [c_seq]
  simp -dsimp only [↓RE,RU,RL,Nat.reduceLeDiff,Nat.reduceLT,pureOp,resK,endV,↓reduceIte,Nat.reduceEqDiff,reduceCtorEq,Nat.reduceAdd,Nat.reduceMul,Int.reduceLT,Int.reduceLE,Int.reduceToNat,decide_true,decide_false,tf112, he2]
  refine wpDraw_by (Grow w1 ·) [(0, true), (1, true), (2, true), (3, true), (5, true), (6, true), (7, true), (8, true), (4, false), (9, false), (10, false), (11, false), (12, true)] (by kernel_rfl) (Grow.drew w1) ?_
  simp only [planL, List.getElem?_toArray, List.getElem?_cons_zero, List.getElem?_cons_succ, Option.toList_some, List.map_cons, List.map_nil, List.cons_append, List.nil_append]
  simp -dsimp only [↓RE,RU,RL,Nat.reduceLeDiff,Nat.reduceLT,pureOp,resK,endV,↓reduceIte,Nat.reduceEqDiff,reduceCtorEq,Nat.reduceAdd,Nat.reduceMul,Int.reduceLT,Int.reduceLE,Int.reduceToNat,decide_true,decide_false,tf112, he2, he3, add_lit', Nat.zero_add]
  refine ⟨_, x0, ?_⟩
  simp -dsimp only [↓RE,RU,RL,Nat.reduceLeDiff,Nat.reduceLT,pureOp,resK,endV,↓reduceIte,Nat.reduceEqDiff,reduceCtorEq,Nat.reduceAdd,Nat.reduceMul,Int.reduceLT,Int.reduceLE,Int.reduceToNat,decide_true,decide_false,tf112, he2, he3, add_lit', Nat.zero_add]
  refine ⟨_, y0, ?_⟩
  simp -dsimp only [↓RE,RU,RL,Nat.reduceLeDiff,Nat.reduceLT,pureOp,resK,endV,↓reduceIte,Nat.reduceEqDiff,reduceCtorEq,Nat.reduceAdd,Nat.reduceMul,Int.reduceLT,Int.reduceLE,Int.reduceToNat,decide_true,decide_false,tf112, he2, he3, add_lit', Nat.zero_add]
  refine ⟨_, x1, ?_⟩
  simp -dsimp only [↓RE,RU,RL,Nat.reduceLeDiff,Nat.reduceLT,pureOp,resK,endV,↓reduceIte,Nat.reduceEqDiff,reduceCtorEq,Nat.reduceAdd,Nat.reduceMul,Int.reduceLT,Int.reduceLE,Int.reduceToNat,decide_true,decide_false,tf112, he2, he3, add_lit', Nat.zero_add]
  refine ⟨_, y1, ?_⟩
  simp -dsimp only [↓RE,RU,RL,Nat.reduceLeDiff,Nat.reduceLT,pureOp,resK,endV,↓reduceIte,Nat.reduceEqDiff,reduceCtorEq,Nat.reduceAdd,Nat.reduceMul,Int.reduceLT,Int.reduceLE,Int.reduceToNat,decide_true,decide_false,tf112, he2, he3, add_lit', Nat.zero_add]
  refine compareS_ok ?_
  refine ⟨Grow.drew w1, ?_⟩
  simp -dsimp only [↓RE,RU,RL,Nat.reduceLeDiff,Nat.reduceLT,pureOp,resK,endV,↓reduceIte,Nat.reduceEqDiff,reduceCtorEq,Nat.reduceAdd,Nat.reduceMul,Int.reduceLT,Int.reduceLE,Int.reduceToNat,decide_true,decide_false,tf112, he2]
  refine compareS_ok ?_
  refine ⟨Grow.drew w1, ?_⟩
  simp -dsimp only [↓RE,RU,RL,Nat.reduceLeDiff,Nat.reduceLT,pureOp,resK,endV,↓reduceIte,Nat.reduceEqDiff,reduceCtorEq,Nat.reduceAdd,Nat.reduceMul,Int.reduceLT,Int.reduceLE,Int.reduceToNat,decide_true,decide_false,tf112, he2]
  have g2 := (Grow.drew w1).trans (Grow.alloc w1.drew (.cells #[.int .i64 (cmpS a.1 b.1), .int .i64 (cmpS a.2 b.2)] 3))
  refine ⟨g2, ?_⟩
  have hrow : Rd (w1.drew.alloc (.cells #[.int .i64 (cmpS a.1 b.1), .int .i64 (cmpS a.2 b.2)] 3)) (some ⟨w1.drew.heap.size, 0, none⟩) 2 1 ([cmpS a.1 b.1, cmpS a.2 b.2].map (Value.int .i64)) := Rd.of_own (own_new w1.drew 3 1 2 #[.int .i64 (cmpS a.1 b.1), .int .i64 (cmpS a.2 b.2)] rfl (by simp [maxLen]))
  try simp -dsimp only [↓RE,↓c_seq,RU,RL,Nat.reduceLeDiff,Nat.reduceLT,pureOp,resK,endV,↓reduceIte,Nat.reduceEqDiff,reduceCtorEq,Nat.reduceAdd,Nat.reduceMul,Int.reduceLT,Int.reduceLE,Int.reduceToNat,decide_true,decide_false,tf112, he2]
  refine or_ok hrow (by omega) ?_
  rw [orI2]
  try simp -dsimp only [↓RE,↓c_seq,RU,RL,Nat.reduceLeDiff,Nat.reduceLT,pureOp,resK,endV,↓reduceIte,Nat.reduceEqDiff,reduceCtorEq,Nat.reduceAdd,Nat.reduceMul,Int.reduceLT,Int.reduceLE,Int.reduceToNat,decide_true,decide_false,tf112, he2]
  refine ⟨g2, ?_⟩
  try simp -dsimp only [↓RE,↓c_seq,RU,RL,Nat.reduceLeDiff,Nat.reduceLT,pureOp,resK,endV,↓reduceIte,Nat.reduceEqDiff,reduceCtorEq,Nat.reduceAdd,Nat.reduceMul,Int.reduceLT,Int.reduceLE,Int.reduceToNat,decide_true,decide_false,tf112, he2]
  exact h _ (g1.trans g2)

/-- slices.CompareFunc of two rows of tags. -/
theorem cfunc_ok {w : World} {A B : Option Addr} {n m c d : Nat} {x y : List Tg} (hx : RdT w A n x) (hy : RdT w B m y) (hn : n ≤ 4611686018427387904) (hm : m ≤ 4611686018427387904) {R : VWK}
    (h : ∀ w', Grow w w' → R (.int .i64 (cmpTs x y)) w') : CallsV Tryz.prog 114 [.slice A n c, .slice B m d, .func (.func 112) #[] #[]] w R := by
  have hxl := hx.tlen
  have hyl := hy.tlen
  refine calls_of_wpC mixed Tryz.func114 rfl (by kernel_rfl) ?_
  intro e he
  have he0 := he 0
  have he1 := he 1
  have he2 := he 2
  simp only [List.getD_cons_zero, List.getD_cons_succ] at he0 he1 he2
  clear he
  rw [c_seq]
  simp -dsimp only [↓RE,RU,RL,Nat.reduceLeDiff,Nat.reduceLT,pureOp,binPure,intBin,strBin,eqPure,isConstO,lenPure,resK,endV,↓reduceIte,Nat.reduceEqDiff,reduceCtorEq,Nat.reduceAdd,Nat.reduceMul,Int.reduceLT,Int.reduceLE,Int.reduceToNat,Int.reduceAdd,ne_eq,decide_true,decide_false,tf114, he0]
  rw [c_seq, c_seq]
  simp -dsimp only [↓RE,RU,RL,Nat.reduceLeDiff,Nat.reduceLT,pureOp,binPure,intBin,strBin,eqPure,isConstO,lenPure,resK,endV,↓reduceIte,Nat.reduceEqDiff,reduceCtorEq,Nat.reduceAdd,Nat.reduceMul,Int.reduceLT,Int.reduceLE,Int.reduceToNat,Int.reduceAdd,ne_eq,decide_true,decide_false,tf114, he0]
  refine wpLoop_intro (fun e' w' => Grow w w' ∧ (e' 0 = .slice A n c ∧ e' 1 = .slice B m d ∧ e' 2 = .func (.func 112) #[] #[]) ∧ (e' 11 = .slice A n c ∧ e' 12 = .int .i64 (n : Nat)) ∧ ∃ k : Nat, k ≤ n ∧ k ≤ m ∧ e' 13 = .int .i64 (k : Int) ∧ ∀ i, i < k → cmpT (x.getD i t00) (y.getD i t00) = 0)
    (fun e' _ => n - (envInt (e' 13)).toNat) ⟨Keep.refl _ _, ⟨?_, ?_, ?_⟩, ⟨?_, ?_⟩, 0, Nat.zero_le _, Nat.zero_le _, ?_, fun i hi => absurd hi (by omega)⟩ ?_
  · simp -dsimp only [↓RE,RU,RL,↓reduceIte,Nat.reduceEqDiff,reduceCtorEq,decide_true,decide_false, he0]
  · simp -dsimp only [↓RE,RU,RL,↓reduceIte,Nat.reduceEqDiff,reduceCtorEq,decide_true,decide_false, he1]
  · simp -dsimp only [↓RE,RU,RL,↓reduceIte,Nat.reduceEqDiff,reduceCtorEq,decide_true,decide_false, he2]
  · simp -dsimp only [↓RE,RU,RL,↓reduceIte,Nat.reduceEqDiff,reduceCtorEq,decide_true,decide_false, he0]
  · simp -dsimp only [↓RE,RU,RL,↓reduceIte,Nat.reduceEqDiff,reduceCtorEq,decide_true,decide_false, he0]
  · simp -dsimp only [↓RE,RU,RL,↓reduceIte,Nat.reduceEqDiff,reduceCtorEq,decide_true,decide_false, Int.cast_ofNat_Int]
  clear he0 he1 he2 e
  rintro e wz ⟨gz, ⟨he0, he1, he2⟩, ⟨he11, he12⟩, k, hkn, hkm, he13, h0⟩
  have hx2 := hx.grow gz
  have hy2 := hy.grow gz
  have hw1 : IntKind.i64.wrap ((k : Int) + 1) = ((k + 1 : Nat) : Int) := by rw [wrap_i64_in (by omega) (by omega)]; omega
  rcases Nat.lt_or_ge k n with hkl | hkl
  · have hd : decide ((k : Int) < (n : Int)) = true := decide_eq_true (by omega)
    obtain ⟨ad, rfl, _, _, hca⟩ := hx2.tag hkl
    repeat (first | rw [c_seq] | simp -dsimp only [↓RE,RU,RL,Nat.reduceLeDiff,Nat.reduceLT,pureOp,binPure,intBin,strBin,eqPure,isConstO,lenPure,resK,endV,↓reduceIte,Nat.reduceEqDiff,reduceCtorEq,Nat.reduceAdd,Nat.reduceMul,Int.reduceLT,Int.reduceLE,Int.reduceToNat,Int.reduceAdd,ne_eq,decide_true,decide_false,tf114, he11, he12, he13, hd])
    refine ⟨⟨by omega, by omega⟩, hca ?_⟩
    try simp -dsimp only [↓RE,↓c_seq,RU,RL,Nat.reduceLeDiff,Nat.reduceLT,pureOp,binPure,intBin,strBin,eqPure,isConstO,lenPure,resK,endV,↓reduceIte,Nat.reduceEqDiff,reduceCtorEq,Nat.reduceAdd,Nat.reduceMul,Int.reduceLT,Int.reduceLE,Int.reduceToNat,Int.reduceAdd,ne_eq,decide_true,decide_false,tf114, he13]
    refine new2 (fun w2 hb2 g2 => ?_) rfl rfl
    generalize wz.heap.size = p at hb2
    have hmu : (envInt (e 13)).toNat = k := by rw [he13]; exact Int.toNat_natCast k
    refine os_gen (fun e' => (e' 0 = .slice (some ad) n c ∧ e' 1 = .slice B m d ∧ e' 2 = .func (.func 112) #[] #[]) ∧ (e' 11 = .slice (some ad) n c ∧ e' 12 = .int .i64 (n : Nat)) ∧ e' 13 = .int .i64 (k : Int) ∧ e' 7 = .int .i64 (k : Int) ∧ e' 8 = .pointer (some ⟨p, 0, none⟩)) ⟨⟨?_, ?_, ?_⟩, ⟨?_, ?_⟩, ?_, ?_, ?_⟩ ?_
    · simp -dsimp only [↓RE,RU,RL,↓reduceIte,Nat.reduceEqDiff,reduceCtorEq,decide_true,decide_false, he0]
    · simp -dsimp only [↓RE,RU,RL,↓reduceIte,Nat.reduceEqDiff,reduceCtorEq,decide_true,decide_false, he1]
    · simp -dsimp only [↓RE,RU,RL,↓reduceIte,Nat.reduceEqDiff,reduceCtorEq,decide_true,decide_false, he2]
    · simp -dsimp only [↓RE,RU,RL,↓reduceIte,Nat.reduceEqDiff,reduceCtorEq,decide_true,decide_false, he11]
    · simp -dsimp only [↓RE,RU,RL,↓reduceIte,Nat.reduceEqDiff,reduceCtorEq,decide_true,decide_false, he12]
    · simp -dsimp only [↓RE,RU,RL,↓reduceIte,Nat.reduceEqDiff,reduceCtorEq,decide_true,decide_false, he13]
    · simp -dsimp only [↓RE,RU,RL,↓reduceIte,Nat.reduceEqDiff,reduceCtorEq,decide_true,decide_false, he13]
    · simp -dsimp only [↓RE,RU,RL,↓reduceIte,Nat.reduceEqDiff,reduceCtorEq,decide_true,decide_false, he13]
    clear he0 he1 he2 he11 he12 he13
    rintro e1 ⟨⟨he0, he1, he2⟩, ⟨he11, he12⟩, he13, he7, he8⟩
    rcases Nat.lt_or_ge k m with hkm' | hkm'
    · have hd2 : decide ((m : Int) ≤ (k : Int)) = false := decide_eq_false (by omega)
      obtain ⟨bd, rfl, _, _, hcb⟩ := (hy2.grow g2).tag hkm'
      repeat (first | rw [c_seq] | simp -dsimp only [↓RE,RU,RL,Nat.reduceLeDiff,Nat.reduceLT,pureOp,binPure,intBin,strBin,eqPure,isConstO,lenPure,resK,endV,↓reduceIte,Nat.reduceEqDiff,reduceCtorEq,Nat.reduceAdd,Nat.reduceMul,Int.reduceLT,Int.reduceLE,Int.reduceToNat,Int.reduceAdd,ne_eq,decide_true,decide_false,tf114, he1, he7, hd2])
      refine ⟨⟨by omega, by omega⟩, hcb ?_⟩
      repeat (first | rw [c_seq] | simp -dsimp only [↓RE,RU,RL,Nat.reduceLeDiff,Nat.reduceLT,pureOp,binPure,intBin,strBin,eqPure,isConstO,lenPure,resK,endV,↓reduceIte,Nat.reduceEqDiff,reduceCtorEq,Nat.reduceAdd,Nat.reduceMul,Int.reduceLT,Int.reduceLE,Int.reduceToNat,Int.reduceAdd,ne_eq,decide_true,decide_false,tf114, he7])
      refine new2 (fun w3 hb3 g3 => ?_) rfl rfl
      have gn := (gz.trans g2).trans g3
      generalize w2.heap.size = q at hb3
      have e3 : ∀ {K : VK} {tk : Tok K}, K (.agg #[.string (x.getD k t00).1, .string (x.getD k t00).2]) → aggK w3 ⟨p, 0, none⟩ (some 2) K tk := fun hK => (hb2.grow g3).aggK (by simp) hK
      have e4 : ∀ {K : VK} {tk : Tok K}, K (.agg #[.string (y.getD k t00).1, .string (y.getD k t00).2]) → aggK w3 ⟨q, 0, none⟩ (some 2) K tk := fun hK => hb3.aggK (by simp) hK
      repeat (first | rw [c_seq] | simp -dsimp only [↓RE,RU,RL,Nat.reduceLeDiff,Nat.reduceLT,pureOp,binPure,intBin,strBin,eqPure,isConstO,lenPure,resK,endV,↓reduceIte,Nat.reduceEqDiff,reduceCtorEq,Nat.reduceAdd,Nat.reduceMul,Int.reduceLT,Int.reduceLE,Int.reduceToNat,Int.reduceAdd,ne_eq,decide_true,decide_false,tf114, he2, he8])
      refine e3 ?_
      repeat (first | rw [c_seq] | simp -dsimp only [↓RE,RU,RL,Nat.reduceLeDiff,Nat.reduceLT,pureOp,binPure,intBin,strBin,eqPure,isConstO,lenPure,resK,endV,↓reduceIte,Nat.reduceEqDiff,reduceCtorEq,Nat.reduceAdd,Nat.reduceMul,Int.reduceLT,Int.reduceLE,Int.reduceToNat,Int.reduceAdd,ne_eq,decide_true,decide_false,tf114, he2])
      refine e4 ?_
      repeat (first | rw [c_seq] | simp -dsimp only [↓RE,RU,RL,Nat.reduceLeDiff,Nat.reduceLT,pureOp,binPure,intBin,strBin,eqPure,isConstO,lenPure,resK,endV,↓reduceIte,Nat.reduceEqDiff,reduceCtorEq,Nat.reduceAdd,Nat.reduceMul,Int.reduceLT,Int.reduceLE,Int.reduceToNat,Int.reduceAdd,ne_eq,decide_true,decide_false,tf114, he2])
      refine ctag_ok (fun w5 g5 => ?_)
      by_cases hz : cmpT (x.getD k t00) (y.getD k t00) = 0
      · have hz' : decide (cmpT (x.getD k t00) (y.getD k t00) = 0) = true := decide_eq_true hz
        repeat (first | rw [c_seq] | simp -dsimp only [↓RE,RU,RL,Nat.reduceLeDiff,Nat.reduceLT,pureOp,binPure,intBin,strBin,eqPure,isConstO,lenPure,resK,endV,↓reduceIte,Nat.reduceEqDiff,reduceCtorEq,Nat.reduceAdd,Nat.reduceMul,Int.reduceLT,Int.reduceLE,Int.reduceToNat,Int.reduceAdd,ne_eq,decide_true,decide_false,tf114, hz', Bool.not_true, he13, hw1])
        refine hold_intro ⟨⟨gn.trans g5, ⟨?_, ?_, ?_⟩, ⟨?_, ?_⟩, k + 1, hkl, hkm', ?_, fun i hi => ?_⟩, ?_⟩
        · simp -dsimp only [↓RE,RU,RL,↓reduceIte,Nat.reduceEqDiff,reduceCtorEq,decide_true,decide_false, he0]
        · simp -dsimp only [↓RE,RU,RL,↓reduceIte,Nat.reduceEqDiff,reduceCtorEq,decide_true,decide_false, he1]
        · simp -dsimp only [↓RE,RU,RL,↓reduceIte,Nat.reduceEqDiff,reduceCtorEq,decide_true,decide_false, he2]
        · simp -dsimp only [↓RE,RU,RL,↓reduceIte,Nat.reduceEqDiff,reduceCtorEq,decide_true,decide_false, he11]
        · simp -dsimp only [↓RE,RU,RL,↓reduceIte,Nat.reduceEqDiff,reduceCtorEq,decide_true,decide_false, he12]
        · simp -dsimp only [↓RE,RU,RL,↓reduceIte,Nat.reduceEqDiff,reduceCtorEq,decide_true,decide_false, he13, hw1]
        · rcases Nat.lt_or_eq_of_le (Nat.lt_succ_iff.1 hi) with h1 | rfl
          · exact h0 i h1
          · exact hz
        · rw [hmu]
          simp -dsimp only [↓RE,↓c_seq,RU,RL,Nat.reduceLeDiff,Nat.reduceLT,pureOp,binPure,intBin,strBin,eqPure,isConstO,lenPure,resK,endV,↓reduceIte,Nat.reduceEqDiff,reduceCtorEq,Nat.reduceAdd,Nat.reduceMul,Int.reduceLT,Int.reduceLE,Int.reduceToNat,Int.reduceAdd,ne_eq,decide_true,decide_false,tf114, he13, hw1, envInt, Int.toNat_natCast]
          omega
      · have hz' : decide (cmpT (x.getD k t00) (y.getD k t00) = 0) = false := decide_eq_false hz
        rw [lex_at h0 (by omega) (by omega) hz] at h
        repeat (first | rw [c_seq] | simp -dsimp only [↓RE,RU,RL,Nat.reduceLeDiff,Nat.reduceLT,pureOp,binPure,intBin,strBin,eqPure,isConstO,lenPure,resK,endV,↓reduceIte,Nat.reduceEqDiff,reduceCtorEq,Nat.reduceAdd,Nat.reduceMul,Int.reduceLT,Int.reduceLE,Int.reduceToNat,Int.reduceAdd,ne_eq,decide_true,decide_false,tf114, hz', Bool.not_false])
        exact h w5 (gn.trans g5)
    · have hd2 : decide ((m : Int) ≤ (k : Int)) = true := decide_eq_true (by omega)
      have hkm'' : k = m := by omega
      rw [lex_hi (fun i hi => h0 i (by omega)) (by omega)] at h
      repeat (first | rw [c_seq] | simp -dsimp only [↓RE,RU,RL,Nat.reduceLeDiff,Nat.reduceLT,pureOp,binPure,intBin,strBin,eqPure,isConstO,lenPure,resK,endV,↓reduceIte,Nat.reduceEqDiff,reduceCtorEq,Nat.reduceAdd,Nat.reduceMul,Int.reduceLT,Int.reduceLE,Int.reduceToNat,Int.reduceAdd,ne_eq,decide_true,decide_false,tf114, he1, he7, hd2])
      exact h w2 (gz.trans g2)
  · have hd : decide ((k : Int) < (n : Int)) = false := decide_eq_false (by omega)
    have hk : k = n := by omega
    subst hk
    rcases Nat.lt_or_ge k m with hkm' | hkm'
    · have hd2 : decide ((k : Int) < (m : Int)) = true := decide_eq_true (by omega)
      rw [lex_lo (fun i hi => h0 i (by omega)) (by omega)] at h
      repeat (first | rw [c_seq] | simp -dsimp only [↓RE,RU,RL,Nat.reduceLeDiff,Nat.reduceLT,pureOp,binPure,intBin,strBin,eqPure,isConstO,lenPure,resK,endV,↓reduceIte,Nat.reduceEqDiff,reduceCtorEq,Nat.reduceAdd,Nat.reduceMul,Int.reduceLT,Int.reduceLE,Int.reduceToNat,Int.reduceAdd,ne_eq,decide_true,decide_false,tf114, he11, he12, he13, hd, he0, he1, hd2])
      exact h wz gz
    · have hd2 : decide ((k : Int) < (m : Int)) = false := decide_eq_false (by omega)
      rw [lex_0 (fun i hi => h0 i (by omega)) (by omega)] at h
      repeat (first | rw [c_seq] | simp -dsimp only [↓RE,RU,RL,Nat.reduceLeDiff,Nat.reduceLT,pureOp,binPure,intBin,strBin,eqPure,isConstO,lenPure,resK,endV,↓reduceIte,Nat.reduceEqDiff,reduceCtorEq,Nat.reduceAdd,Nat.reduceMul,Int.reduceLT,Int.reduceLE,Int.reduceToNat,Int.reduceAdd,ne_eq,decide_true,decide_false,tf114, he11, he12, he13, hd, he0, he1, hd2])
      exact h wz gz

/-- the document's. -/
theorem rctags_ok {w : World} {A B : Option Addr} {n m c d : Nat} {x y : List Tg} (hx : RdT w A n x) (hy : RdT w B m y) (hn : n ≤ 4611686018427387904) (hm : m ≤ 4611686018427387904) {R : VWK}
    (h : ∀ w', Grow w w' → R (.int .i64 (cmpTs x y)) w') : CallsV Tryz.prog 117 [.slice A n c, .slice B m d] w R := by
  have hxl := hx.tlen
  have hyl := hy.tlen
  refine calls_of_wpC mixed Tryz.func117 rfl (by kernel_rfl) ?_
  intro e he
  have he0 := he 0
  have he1 := he 1
  simp only [List.getD_cons_zero, List.getD_cons_succ] at he0 he1
  clear he
  repeat (first | rw [c_seq] | simp -dsimp only [↓RE,RU,RL,forall_const,implies_true,Nat.reduceLeDiff,Nat.reduceLT,pureOp,binPure,intBin,strBin,eqPure,isConstO,lenPure,resK,endV,yieldE,↓reduceIte,Nat.reduceEqDiff,reduceCtorEq,Nat.reduceAdd,Nat.reduceMul,Int.reduceLT,Int.reduceLE,Int.reduceToNat,Int.reduceAdd,ne_eq,decide_true,decide_false,tf117, he0])
  refine wpLoop_intro (fun e' w' => Grow w w' ∧ e' 0 = .slice A n c ∧ e' 1 = .slice B m d ∧ ∃ k : Nat, k ≤ n ∧ k ≤ m ∧ e' 5 = .int .i64 (k : Int) ∧ ∀ i, i < k → cmpT (x.getD i t00) (y.getD i t00) = 0)
    (fun e' _ => n - (envInt (e' 5)).toNat) ⟨Keep.refl _ _, ?_, ?_, 0, Nat.zero_le _, Nat.zero_le _, ?_, fun i hi => absurd hi (by omega)⟩ ?_
  · simp -dsimp only [↓RE,RU,RL,↓reduceIte,Nat.reduceEqDiff,reduceCtorEq,decide_true,decide_false, he0]
  · simp -dsimp only [↓RE,RU,RL,↓reduceIte,Nat.reduceEqDiff,reduceCtorEq,decide_true,decide_false, he1]
  · simp -dsimp only [↓RE,RU,RL,↓reduceIte,Nat.reduceEqDiff,reduceCtorEq,decide_true,decide_false, Int.cast_ofNat_Int]
  clear he0 he1 e
  rintro e wz ⟨gz, he0, he1, k, hkn, hkm, he5, h0⟩
  have hx2 := hx.grow gz
  have hy2 := hy.grow gz
  have hw1 : IntKind.i64.wrap ((k : Int) + 1) = ((k + 1 : Nat) : Int) := by rw [wrap_i64_in (by omega) (by omega)]; omega
  have hmu : (envInt (e 5)).toNat = k := by rw [he5]; exact Int.toNat_natCast k
  rcases Nat.lt_or_ge k n with hkl | hkl
  · have hd : decide ((k : Int) < (n : Int)) = true := decide_eq_true (by omega)
    rcases Nat.lt_or_ge k m with hkm' | hkm'
    · have hd2 : decide ((k : Int) < (m : Int)) = true := decide_eq_true (by omega)
      obtain ⟨ad, rfl, _, _, _⟩ := hx2.tag hkl
      obtain ⟨bd, rfl, _, _, _⟩ := hy2.tag hkm'
      repeat (first | rw [c_seq] | simp -dsimp only [↓RE,RU,RL,forall_const,implies_true,Nat.reduceLeDiff,Nat.reduceLT,pureOp,binPure,intBin,strBin,eqPure,isConstO,lenPure,resK,endV,yieldE,↓reduceIte,Nat.reduceEqDiff,reduceCtorEq,Nat.reduceAdd,Nat.reduceMul,Int.reduceLT,Int.reduceLE,Int.reduceToNat,Int.reduceAdd,ne_eq,decide_true,decide_false,tf117, he0, he1, he5, hd, hd2])
      have x0 := fun w' g => ((hx2.grow (w' := w') g).tag' hkl).1
      have x1 := fun w' g => ((hx2.grow (w' := w') g).tag' hkl).2.1
      have y0 := fun w' g => ((hy2.grow (w' := w') g).tag' hkm').1
      have y1 := fun w' g => ((hy2.grow (w' := w') g).tag' hkm').2.1
      refine wpDraw_by (Grow wz ·) [(0, true), (1, true), (2, true), (3, true), (4, true), (5, true), (6, true), (7, true), (8, true), (9, true), (10, false), (11, true)] (by kernel_rfl) (Grow.drew wz) ?_
      simp only [planL, List.getElem?_toArray, List.getElem?_cons_zero, List.getElem?_cons_succ, Option.toList_some, List.map_cons, List.map_nil, List.cons_append, List.nil_append]
      have cT : cmpT (x.getD k t00) (y.getD k t00) = if cmpS (x.getD k t00).1 (y.getD k t00).1 = 0 then cmpS (x.getD k t00).2 (y.getD k t00).2 else cmpS (x.getD k t00).1 (y.getD k t00).1 := rfl
      have gd := gz.trans (Grow.drew wz)
      repeat (first | rw [c_seq] | simp -dsimp only [↓RE,RU,RL,forall_const,implies_true,Nat.reduceLeDiff,Nat.reduceLT,pureOp,binPure,intBin,strBin,eqPure,isConstO,lenPure,resK,endV,yieldE,↓reduceIte,Nat.reduceEqDiff,reduceCtorEq,Nat.reduceAdd,Nat.reduceMul,Int.reduceLT,Int.reduceLE,Int.reduceToNat,Int.reduceAdd,ne_eq,decide_true,decide_false,tf117, he0, he1, he5, add_zero'])
      refine ⟨⟨by omega, by omega⟩, _, x0, ?_⟩
      repeat (first | rw [c_seq] | simp -dsimp only [↓RE,RU,RL,forall_const,implies_true,Nat.reduceLeDiff,Nat.reduceLT,pureOp,binPure,intBin,strBin,eqPure,isConstO,lenPure,resK,endV,yieldE,↓reduceIte,Nat.reduceEqDiff,reduceCtorEq,Nat.reduceAdd,Nat.reduceMul,Int.reduceLT,Int.reduceLE,Int.reduceToNat,Int.reduceAdd,ne_eq,decide_true,decide_false,tf117, he0, he1, he5, add_zero'])
      refine ⟨⟨by omega, by omega⟩, _, y0, ?_⟩
      repeat (first | rw [c_seq] | simp -dsimp only [↓RE,RU,RL,forall_const,implies_true,Nat.reduceLeDiff,Nat.reduceLT,pureOp,binPure,intBin,strBin,eqPure,isConstO,lenPure,resK,endV,yieldE,↓reduceIte,Nat.reduceEqDiff,reduceCtorEq,Nat.reduceAdd,Nat.reduceMul,Int.reduceLT,Int.reduceLE,Int.reduceToNat,Int.reduceAdd,ne_eq,decide_true,decide_false,tf117, he0, he1, he5])
      refine texts_ok ?_
      refine ⟨Grow.drew wz, ?_⟩
      by_cases z1 : cmpS (x.getD k t00).1 (y.getD k t00).1 = 0
      · have z1' : decide (cmpS (x.getD k t00).1 (y.getD k t00).1 = 0) = true := decide_eq_true z1
        rw [if_pos z1] at cT
        repeat (first | rw [c_seq] | simp -dsimp only [↓RE,RU,RL,forall_const,implies_true,Nat.reduceLeDiff,Nat.reduceLT,pureOp,binPure,intBin,strBin,eqPure,isConstO,lenPure,resK,endV,yieldE,↓reduceIte,Nat.reduceEqDiff,reduceCtorEq,Nat.reduceAdd,Nat.reduceMul,Int.reduceLT,Int.reduceLE,Int.reduceToNat,Int.reduceAdd,ne_eq,decide_true,decide_false,tf117, z1', Bool.not_true])
        have gd2 := gd.trans (Grow.drew wz.drew)
        refine wpDraw_by (Grow wz ·) [(0, true), (1, true), (2, true), (3, true), (4, true), (5, true), (6, true), (7, true), (8, true), (9, true), (10, false), (11, true)] (by kernel_rfl) ((Grow.drew wz).trans (Grow.drew wz.drew)) ?_
        simp only [planL, List.getElem?_toArray, List.getElem?_cons_zero, List.getElem?_cons_succ, Option.toList_some, List.map_cons, List.map_nil, List.cons_append, List.nil_append]
        repeat (first | rw [c_seq] | simp -dsimp only [↓RE,RU,RL,forall_const,implies_true,Nat.reduceLeDiff,Nat.reduceLT,pureOp,binPure,intBin,strBin,eqPure,isConstO,lenPure,resK,endV,yieldE,↓reduceIte,Nat.reduceEqDiff,reduceCtorEq,Nat.reduceAdd,Nat.reduceMul,Int.reduceLT,Int.reduceLE,Int.reduceToNat,Int.reduceAdd,ne_eq,decide_true,decide_false,tf117, he0, he1, he5])
        refine ⟨⟨by omega, by omega⟩, _, x1, ?_⟩
        repeat (first | rw [c_seq] | simp -dsimp only [↓RE,RU,RL,forall_const,implies_true,Nat.reduceLeDiff,Nat.reduceLT,pureOp,binPure,intBin,strBin,eqPure,isConstO,lenPure,resK,endV,yieldE,↓reduceIte,Nat.reduceEqDiff,reduceCtorEq,Nat.reduceAdd,Nat.reduceMul,Int.reduceLT,Int.reduceLE,Int.reduceToNat,Int.reduceAdd,ne_eq,decide_true,decide_false,tf117, he0, he1, he5])
        refine ⟨⟨by omega, by omega⟩, _, y1, ?_⟩
        repeat (first | rw [c_seq] | simp -dsimp only [↓RE,RU,RL,forall_const,implies_true,Nat.reduceLeDiff,Nat.reduceLT,pureOp,binPure,intBin,strBin,eqPure,isConstO,lenPure,resK,endV,yieldE,↓reduceIte,Nat.reduceEqDiff,reduceCtorEq,Nat.reduceAdd,Nat.reduceMul,Int.reduceLT,Int.reduceLE,Int.reduceToNat,Int.reduceAdd,ne_eq,decide_true,decide_false,tf117, he0, he1, he5])
        refine texts_ok ?_
        refine ⟨(Grow.drew wz).trans (Grow.drew wz.drew), ?_⟩
        by_cases z2 : cmpS (x.getD k t00).2 (y.getD k t00).2 = 0
        · have z2' : decide (cmpS (x.getD k t00).2 (y.getD k t00).2 = 0) = true := decide_eq_true z2
          repeat (first | rw [c_seq] | simp -dsimp only [↓RE,RU,RL,forall_const,implies_true,Nat.reduceLeDiff,Nat.reduceLT,pureOp,binPure,intBin,strBin,eqPure,isConstO,lenPure,resK,endV,yieldE,↓reduceIte,Nat.reduceEqDiff,reduceCtorEq,Nat.reduceAdd,Nat.reduceMul,Int.reduceLT,Int.reduceLE,Int.reduceToNat,Int.reduceAdd,ne_eq,decide_true,decide_false,tf117, z2', Bool.not_true, he5, hw1])
          refine hold_intro ⟨⟨gd2, ?_, ?_, k + 1, hkl, hkm', ?_, fun i hi => ?_⟩, ?_⟩
          · simp -dsimp only [↓RE,RU,RL,↓reduceIte,Nat.reduceEqDiff,reduceCtorEq,decide_true,decide_false, he0]
          · simp -dsimp only [↓RE,RU,RL,↓reduceIte,Nat.reduceEqDiff,reduceCtorEq,decide_true,decide_false, he1]
          · simp -dsimp only [↓RE,RU,RL,↓reduceIte,Nat.reduceEqDiff,reduceCtorEq,decide_true,decide_false, he5, hw1]
          · rcases Nat.lt_or_eq_of_le (Nat.lt_succ_iff.1 hi) with h1 | rfl
            · exact h0 i h1
            · rw [cT]; exact z2
          · rw [hmu]
            simp -dsimp only [↓RE,↓c_seq,RU,RL,forall_const,implies_true,Nat.reduceLeDiff,Nat.reduceLT,pureOp,binPure,intBin,strBin,eqPure,isConstO,lenPure,resK,endV,yieldE,↓reduceIte,Nat.reduceEqDiff,reduceCtorEq,Nat.reduceAdd,Nat.reduceMul,Int.reduceLT,Int.reduceLE,Int.reduceToNat,Int.reduceAdd,ne_eq,decide_true,decide_false,tf117, he5, hw1, envInt, Int.toNat_natCast]
            omega
        · have z2' : decide (cmpS (x.getD k t00).2 (y.getD k t00).2 = 0) = false := decide_eq_false z2
          rw [lex_at h0 (by omega) (by omega) (by rw [cT]; exact z2), cT] at h
          repeat (first | rw [c_seq] | simp -dsimp only [↓RE,RU,RL,forall_const,implies_true,Nat.reduceLeDiff,Nat.reduceLT,pureOp,binPure,intBin,strBin,eqPure,isConstO,lenPure,resK,endV,yieldE,↓reduceIte,Nat.reduceEqDiff,reduceCtorEq,Nat.reduceAdd,Nat.reduceMul,Int.reduceLT,Int.reduceLE,Int.reduceToNat,Int.reduceAdd,ne_eq,decide_true,decide_false,tf117, z2', Bool.not_false])
          exact h _ gd2
      · have z1' : decide (cmpS (x.getD k t00).1 (y.getD k t00).1 = 0) = false := decide_eq_false z1
        rw [if_neg z1] at cT
        rw [lex_at h0 (by omega) (by omega) (by rw [cT]; exact z1), cT] at h
        repeat (first | rw [c_seq] | simp -dsimp only [↓RE,RU,RL,forall_const,implies_true,Nat.reduceLeDiff,Nat.reduceLT,pureOp,binPure,intBin,strBin,eqPure,isConstO,lenPure,resK,endV,yieldE,↓reduceIte,Nat.reduceEqDiff,reduceCtorEq,Nat.reduceAdd,Nat.reduceMul,Int.reduceLT,Int.reduceLE,Int.reduceToNat,Int.reduceAdd,ne_eq,decide_true,decide_false,tf117, z1', Bool.not_false])
        exact h _ gd
    · have hd2 : decide ((k : Int) < (m : Int)) = false := decide_eq_false (by omega)
      have hd3 : decide ((n : Int) < (m : Int)) = false := decide_eq_false (by omega)
      have hd4 : decide ((m : Int) < (n : Int)) = true := decide_eq_true (by omega)
      rw [lex_hi (fun i hi => h0 i (by omega)) (by omega)] at h
      repeat (first | rw [c_seq] | simp -dsimp only [↓RE,RU,RL,forall_const,implies_true,Nat.reduceLeDiff,Nat.reduceLT,pureOp,binPure,intBin,strBin,eqPure,isConstO,lenPure,resK,endV,yieldE,↓reduceIte,Nat.reduceEqDiff,reduceCtorEq,Nat.reduceAdd,Nat.reduceMul,Int.reduceLT,Int.reduceLE,Int.reduceToNat,Int.reduceAdd,ne_eq,decide_true,decide_false,tf117, he0, he1, he5, hd, hd2, hd3, hd4])
      exact h wz gz
  · have hd : decide ((k : Int) < (n : Int)) = false := decide_eq_false (by omega)
    have hk : k = n := by omega
    subst hk
    rcases Nat.lt_or_ge k m with hkm' | hkm'
    · have hd2 : decide ((k : Int) < (m : Int)) = true := decide_eq_true (by omega)
      rw [lex_lo (fun i hi => h0 i (by omega)) (by omega)] at h
      repeat (first | rw [c_seq] | simp -dsimp only [↓RE,RU,RL,forall_const,implies_true,Nat.reduceLeDiff,Nat.reduceLT,pureOp,binPure,intBin,strBin,eqPure,isConstO,lenPure,resK,endV,yieldE,↓reduceIte,Nat.reduceEqDiff,reduceCtorEq,Nat.reduceAdd,Nat.reduceMul,Int.reduceLT,Int.reduceLE,Int.reduceToNat,Int.reduceAdd,ne_eq,decide_true,decide_false,tf117, he0, he1, he5, hd, hd2, undef])
      exact h wz gz
    · have hd2 : decide ((k : Int) < (m : Int)) = false := decide_eq_false (by omega)
      have hd3 : decide ((m : Int) < (k : Int)) = false := decide_eq_false (by omega)
      rw [lex_0 (fun i hi => h0 i (by omega)) (by omega)] at h
      repeat (first | rw [c_seq] | simp -dsimp only [↓RE,RU,RL,forall_const,implies_true,Nat.reduceLeDiff,Nat.reduceLT,pureOp,binPure,intBin,strBin,eqPure,isConstO,lenPure,resK,endV,yieldE,↓reduceIte,Nat.reduceEqDiff,reduceCtorEq,Nat.reduceAdd,Nat.reduceMul,Int.reduceLT,Int.reduceLE,Int.reduceToNat,Int.reduceAdd,ne_eq,decide_true,decide_false,tf117, he0, he1, he5, hd, hd2, hd3, undef])
      exact h wz gz

end Go.Proofs.YtljgnocpijniiaaGreatDoor
