/- Orders that are told by -1, 0 and 1; rows in such an order, each key once. -/
/- Stable order in plain terms: sorted rows, rows that hold of each key the same in the same order; of each key the last one alone. -/
/- Rows of which each key stands once: laid into order they are the same things. -/
import Derived.Test.YtljgnocpijniiaaGreatDoorDen
import Derived.Sort.Walk0
set_option linter.unusedVariables false
set_option linter.unusedSimpArgs false
set_option maxRecDepth 100000
namespace Go.Proofs.YtljgnocpijniiaaGreatDoor
open Go

/-- an order told by -1, 0, 1. -/
structure Cmp {α : Type} (f : α → α → Int) : Prop where
  val : ∀ a b, f a b = -1 ∨ f a b = 0 ∨ f a b = 1
  neg : ∀ a b, f b a = -f a b
  tr : ∀ a b c, f a b ≤ 0 → f b c ≤ 0 → f a c ≤ 0
namespace Cmp
variable {α β : Type} {f g : α → α → Int}
theorem self (h : Cmp f) (a : α) : f a a = 0 := by have := h.neg a a; omega
theorem lt_le (h : Cmp f) {a b c : α} (h1 : f a b < 0) (h2 : f b c ≤ 0) : f a c < 0 := by
  by_cases hc : f a c < 0
  · exact hc
  have h3 : f c a ≤ 0 := by have := h.neg a c; omega
  have := h.tr b c a h2 h3
  have := h.neg a b
  omega
theorem le_lt (h : Cmp f) {a b c : α} (h1 : f a b ≤ 0) (h2 : f b c < 0) : f a c < 0 := by
  by_cases hc : f a c < 0
  · exact hc
  have h3 : f c a ≤ 0 := by have := h.neg a c; omega
  have := h.tr c a b h3 h1
  have := h.neg b c
  omega
theorem eq_l (h : Cmp f) {a b : α} (he : f a b = 0) (c : α) : f a c = f b c := by
  have hba : f b a = 0 := by have := h.neg a b; omega
  have t1 := fun x : α => h.val a x
  rcases h.val a c with h1 | h1 | h1 <;> rcases h.val b c with h2 | h2 | h2 <;> rw [h1, h2]
  · have := h.le_lt (a := b) (b := a) (c := c) (by omega) (by omega); omega
  · have := h.le_lt (a := b) (b := a) (c := c) (by omega) (by omega); omega
  · have := h.le_lt (a := a) (b := b) (c := c) (by omega) (by omega); omega
  · have := h.tr b a c (by omega) (by omega); omega
  · have := h.le_lt (a := a) (b := b) (c := c) (by omega) (by omega); omega
  · have := h.tr a b c (by omega) (by omega); omega
theorem eq_r (h : Cmp f) {a b : α} (he : f a b = 0) (c : α) : f c a = f c b := by
  have h1 := h.eq_l he c
  have h2 := h.neg a c
  have h3 := h.neg b c
  omega
theorem pull (h : Cmp f) (k : β → α) : Cmp (fun x y => f (k x) (k y)) :=
  ⟨fun a b => h.val _ _, fun a b => h.neg _ _, fun a b c => h.tr _ _ _⟩
theorem or (h : Cmp f) (k : Cmp g) : Cmp (fun a b => if f a b = 0 then g a b else f a b) := by
  refine ⟨fun a b => ?_, fun a b => ?_, fun a b c => ?_⟩
  · show (if f a b = 0 then g a b else f a b) = _ ∨ _
    split
    · exact k.val a b
    · exact h.val a b
  · show (if f b a = 0 then g b a else f b a) = -(if f a b = 0 then g a b else f a b)
    have h1 := h.neg a b
    have h2 := k.neg a b
    split <;> split <;> omega
  · show (if f a b = 0 then g a b else f a b) ≤ 0 → (if f b c = 0 then g b c else f b c) ≤ 0 → (if f a c = 0 then g a c else f a c) ≤ 0
    intro h1 h2
    by_cases e1 : f a b = 0
    · rw [if_pos e1] at h1
      rw [← h.eq_l e1 c] at h2
      by_cases e2 : f a c = 0
      · rw [if_pos e2] at h2 ⊢
        exact k.tr a b c h1 h2
      · rw [if_neg e2] at h2 ⊢
        exact h2
    · rw [if_neg e1] at h1
      by_cases e2 : f b c = 0
      · have := h.eq_r e2 a
        rw [if_neg (by omega)]
        omega
      · rw [if_neg e2] at h2
        have := h.lt_le (a := a) (b := b) (c := c) (by omega) h2
        rw [if_neg (by omega)]
        omega
end Cmp
/-- rows: the first place at which they are not alike; else the shorter one ahead. -/
def lexL {α : Type} (f : α → α → Int) : List α → List α → Int
  | [], [] => 0
  | [], _ :: _ => -1
  | _ :: _, [] => 1
  | a :: x, b :: y => if f a b = 0 then lexL f x y else f a b
theorem Cmp.lex {α : Type} {f : α → α → Int} (h : Cmp f) : Cmp (lexL f) := by
  refine ⟨fun x => ?_, fun x => ?_, fun x => ?_⟩
  · induction x with
    | nil => intro y; cases y <;> simp [lexL]
    | cons a x ih =>
      intro y
      cases y with
      | nil => simp [lexL]
      | cons b y =>
        simp only [lexL]
        split
        · exact ih y
        · exact h.val a b
  · induction x with
    | nil => intro y; cases y <;> simp [lexL]
    | cons a x ih =>
      intro y
      cases y with
      | nil => simp [lexL]
      | cons b y =>
        simp only [lexL]
        have h1 := h.neg a b
        have h2 := ih y
        split <;> split <;> omega
  · induction x with
    | nil => intro y z _ _; cases z <;> simp [lexL]
    | cons a x ih =>
      intro y z h1 h2
      cases y with
      | nil => simp [lexL] at h1
      | cons b y =>
        cases z with
        | nil => simp [lexL] at h2
        | cons c z =>
          simp only [lexL] at h1 h2 ⊢
          by_cases e1 : f a b = 0
          · rw [if_pos e1] at h1
            rw [← h.eq_l e1 c] at h2
            by_cases e2 : f a c = 0
            · rw [if_pos e2] at h2 ⊢
              exact ih y z h1 h2
            · rw [if_neg e2] at h2 ⊢
              exact h2
          · rw [if_neg e1] at h1
            by_cases e2 : f b c = 0
            · have := h.eq_r e2 a
              rw [if_neg (by omega)]
              omega
            · rw [if_neg e2] at h2
              have := h.lt_le (a := a) (b := b) (c := c) (by omega) h2
              rw [if_neg (by omega)]
              omega
theorem lex_eq {α : Type} {f : α → α → Int} (he : ∀ a b, f a b = 0 ↔ a = b) : ∀ x y, lexL f x y = 0 ↔ x = y
  | [], [] => by simp [lexL]
  | [], _ :: _ => by simp [lexL]
  | _ :: _, [] => by simp [lexL]
  | a :: x, b :: y => by
    simp only [lexL]
    by_cases e : f a b = 0
    · rw [if_pos e, lex_eq he x y, List.cons.injEq, ← he a b]
      exact ⟨fun h => ⟨e, h⟩, fun h => h.2⟩
    · rw [if_neg e, List.cons.injEq, ← he a b]
      exact ⟨fun h => absurd h e, fun h => h.1⟩

/-! ### texts -/

theorem toList_inj {a b : ByteArray} (h : a.toList = b.toList) : a = b := by
  rw [Lib.toList_data, Lib.toList_data] at h
  cases a; cases b
  simp only at h
  congr 1
  exact Array.toList_inj.1 h
/-- the order of two texts. -/
def cmpS (a b : ByteArray) : Int := if Op.bytesLess a.toList b.toList then -1 else if Op.bytesLess b.toList a.toList then 1 else 0
theorem bl_irrefl : ∀ x, Op.bytesLess x x = false
  | [] => rfl
  | a :: x => by simp [Op.bytesLess, bl_irrefl x]
theorem bl_trans : ∀ {x y z : List UInt8}, Op.bytesLess x y = true → Op.bytesLess y z = true → Op.bytesLess x z = true
  | [], [], _, h, _ => by simp [Op.bytesLess] at h
  | [], _ :: _, [], _, h => by simp [Op.bytesLess] at h
  | [], _ :: _, _ :: _, _, _ => by simp [Op.bytesLess]
  | _ :: _, [], _, h, _ => by simp [Op.bytesLess] at h
  | _ :: _, _ :: _, [], _, h => by simp [Op.bytesLess] at h
  | a :: x, b :: y, c :: z, h1, h2 => by
    simp only [Op.bytesLess, Bool.or_eq_true, Bool.and_eq_true, decide_eq_true_eq, beq_iff_eq, UInt8.lt_iff_toNat_lt] at h1 h2 ⊢
    rcases h1 with h1 | ⟨rfl, h1⟩
    · rcases h2 with h2 | ⟨rfl, h2⟩
      · exact .inl (by omega)
      · exact .inl h1
    · rcases h2 with h2 | ⟨rfl, h2⟩
      · exact .inl h2
      · exact .inr ⟨rfl, bl_trans h1 h2⟩
theorem bl_tri : ∀ (x y : List UInt8), Op.bytesLess x y = true ∨ x = y ∨ Op.bytesLess y x = true
  | [], [] => .inr (.inl rfl)
  | [], _ :: _ => .inl rfl
  | _ :: _, [] => .inr (.inr rfl)
  | a :: x, b :: y => by
    simp only [Op.bytesLess, Bool.or_eq_true, Bool.and_eq_true, decide_eq_true_eq, beq_iff_eq, UInt8.lt_iff_toNat_lt, List.cons.injEq]
    rcases Nat.lt_trichotomy a.toNat b.toNat with h | h | h
    · exact .inl (.inl h)
    · have h := UInt8.toNat_inj.1 h
      subst h
      rcases bl_tri x y with h | h | h
      · exact .inl (.inr ⟨rfl, h⟩)
      · exact .inr (.inl ⟨rfl, h⟩)
      · exact .inr (.inr (.inr ⟨rfl, h⟩))
    · exact .inr (.inr (.inl h))
theorem bl_asym {x y : List UInt8} (h : Op.bytesLess x y = true) : Op.bytesLess y x = false := by
  cases hq : Op.bytesLess y x with
  | false => rfl
  | true => have := bl_trans h hq; rw [bl_irrefl] at this; cases this
theorem cmpS_eq (a b : ByteArray) : cmpS a b = 0 ↔ a = b := by
  unfold cmpS
  constructor
  · intro h
    refine toList_inj ?_
    rcases bl_tri a.toList b.toList with h1 | h1 | h1
    · rw [if_pos h1] at h; omega
    · exact h1
    · rw [bl_asym h1, h1] at h; simp at h
  · rintro rfl
    simp [bl_irrefl]
theorem cmpS_lt {a b : ByteArray} : cmpS a b < 0 ↔ Op.bytesLess a.toList b.toList = true := by
  unfold cmpS
  split
  · simp [*]
  · split <;> simp [*]
theorem cmpS_cmp : Cmp cmpS := by
  refine ⟨fun a b => ?_, fun a b => ?_, fun a b c h1 h2 => ?_⟩
  · unfold cmpS; split
    · simp
    · split <;> simp
  · unfold cmpS
    cases h : Op.bytesLess a.toList b.toList with
    | true => simp [bl_asym h]
    | false => cases h2 : Op.bytesLess b.toList a.toList <;> simp
  · have hn : ∀ {x y : ByteArray}, cmpS x y ≤ 0 ↔ Op.bytesLess y.toList x.toList = false := by
      intro x y
      unfold cmpS
      cases h : Op.bytesLess x.toList y.toList with
      | true => simp [bl_asym h]
      | false => cases h2 : Op.bytesLess y.toList x.toList <;> simp
    rw [hn] at h1 h2 ⊢
    cases h3 : Op.bytesLess c.toList a.toList with
    | false => rfl
    | true =>
      rcases bl_tri b.toList c.toList with h4 | h4 | h4
      · rw [bl_trans h4 h3] at h1; cases h1
      · rw [← h4, h1] at h3; cases h3
      · rw [h4] at h2; cases h2

end Go.Proofs.YtljgnocpijniiaaGreatDoor

namespace Go.Proofs.YtljgnocpijniiaaGreatDoor
open Go

section
variable {α β : Type} {cf : α → α → Int} {cg : β → β → Int}
def likeK (cf : α → α → Int) (k x : α) : Bool := decide (cf x k = 0)
def SortedC (cf : α → α → Int) (l : List α) : Prop := l.Pairwise (fun a b => cf a b ≤ 0)
def StrictC (cf : α → α → Int) (l : List α) : Prop := l.Pairwise (fun a b => cf a b < 0)
/-- of each key both rows hold the same, in the same order. -/
def SameK (cf : α → α → Int) (l m : List α) : Prop := l.length = m.length ∧ ∀ k, l.filter (likeK cf k) = m.filter (likeK cf k)
theorem SameK.refl (l : List α) : SameK cf l l := ⟨rfl, fun _ => rfl⟩
theorem SameK.symm {l m : List α} (h : SameK cf l m) : SameK cf m l := ⟨h.1.symm, fun k => (h.2 k).symm⟩
theorem SameK.trans {l m n : List α} (h : SameK cf l m) (h2 : SameK cf m n) : SameK cf l n := ⟨h.1.trans h2.1, fun k => (h.2 k).trans (h2.2 k)⟩
theorem SameK.app {l m l' m' : List α} (h : SameK cf l m) (h2 : SameK cf l' m') : SameK cf (l ++ l') (m ++ m') :=
  ⟨by simp [h.1, h2.1], fun k => by rw [List.filter_append, List.filter_append, h.2 k, h2.2 k]⟩
theorem SameK.mid {l m : List α} (h : SameK cf l m) (P S : List α) : SameK cf (P ++ (l ++ S)) (P ++ (m ++ S)) := (SameK.refl P).app (h.app (SameK.refl S))
theorem SameK.swap (hc : Cmp cf) {X Y : List α} (h : ∀ x ∈ X, ∀ y ∈ Y, cf x y ≠ 0) : SameK cf (X ++ Y) (Y ++ X) := by
  refine ⟨by simp [Nat.add_comm], fun k => ?_⟩
  rw [List.filter_append, List.filter_append]
  by_cases hx : ∃ x ∈ X, cf x k = 0
  · obtain ⟨x, hx, he⟩ := hx
    have : Y.filter (likeK cf k) = [] := by
      rw [List.filter_eq_nil_iff]
      intro y hy hq
      have hq : cf y k = 0 := of_decide_eq_true hq
      have h1 := h x hx y hy
      have h2 := hc.eq_r hq x
      omega
    rw [this, List.append_nil, List.nil_append]
  · have : X.filter (likeK cf k) = [] := by
      rw [List.filter_eq_nil_iff]
      intro x hx' hq
      exact hx ⟨x, hx', of_decide_eq_true hq⟩
    rw [this, List.append_nil, List.nil_append]
theorem SameK.mem (hc : Cmp cf) {l m : List α} (h : SameK cf l m) {x : α} (hx : x ∈ l) : x ∈ m := by
  have : x ∈ l.filter (likeK cf x) := List.mem_filter.2 ⟨hx, by simp [likeK, hc.self]⟩
  rw [h.2 x] at this
  exact (List.mem_filter.1 this).1
theorem StrictC.sorted {l : List α} (h : StrictC cf l) : SortedC cf l := h.imp (fun h => by omega)

/-- of each key the last one alone, of a sorted row. -/
def lastK (cf : α → α → Int) : List α → List α
  | [] => []
  | [x] => [x]
  | x :: y :: r => if cf x y = 0 then lastK cf (y :: r) else x :: lastK cf (y :: r)
/-- laid into a row in order: in a like one's place. -/
def gPut (cf : α → α → Int) : List α → α → List α
  | [], x => [x]
  | y :: r, x => if cf x y < 0 then x :: y :: r else if cf x y = 0 then x :: r else y :: gPut cf r x
def gLoad (cf : α → α → Int) (L xs : List α) : List α := xs.foldl (gPut cf) L
def gFind (cf : α → α → Int) (k : α) (l : List α) : Option α := l.find? (likeK cf k)
theorem gPut_mem {L : List α} {x y : α} (h : y ∈ gPut cf L x) : y = x ∨ y ∈ L := by
  induction L with
  | nil => simpa [gPut] using h
  | cons z r ih =>
    simp only [gPut] at h
    split at h
    · simpa using h
    · split at h
      · rcases List.mem_cons.1 h with h | h
        · exact .inl h
        · exact .inr (List.mem_cons_of_mem _ h)
      · rcases List.mem_cons.1 h with h | h
        · exact .inr (h ▸ List.mem_cons_self)
        · exact (ih h).imp id (List.mem_cons_of_mem _)
theorem gLoad_mem : ∀ {xs L : List α} {y : α}, y ∈ gLoad cf L xs → y ∈ xs ∨ y ∈ L
  | [], L, y, h => .inr h
  | x :: xs, L, y, h => by
    rcases gLoad_mem (xs := xs) (L := gPut cf L x) h with h | h
    · exact .inl (List.mem_cons_of_mem _ h)
    · rcases gPut_mem h with h | h
      · exact .inl (h ▸ List.mem_cons_self)
      · exact .inr h
theorem gPut_len (L : List α) (x : α) : (gPut cf L x).length ≤ L.length + 1 := by
  induction L with
  | nil => simp [gPut]
  | cons z r ih =>
    simp only [gPut]
    split
    · simp
    · split
      · simp
      · simp only [List.length_cons]; omega
theorem gLoad_len : ∀ (xs L : List α), (gLoad cf L xs).length ≤ L.length + xs.length
  | [], L => by simp [gLoad]
  | x :: xs, L => by
    have := gLoad_len xs (gPut cf L x)
    have := gPut_len (cf := cf) L x
    show (gLoad cf (gPut cf L x) xs).length ≤ _
    simp only [List.length_cons]
    omega
theorem StrictC.put (hc : Cmp cf) {L : List α} (h : StrictC cf L) (x : α) : StrictC cf (gPut cf L x) := by
  induction L with
  | nil => simp [gPut, StrictC]
  | cons z r ih =>
    have hz := List.pairwise_cons.1 h
    simp only [gPut]
    split
    · rename_i h1
      refine List.pairwise_cons.2 ⟨fun y hy => ?_, h⟩
      rcases List.mem_cons.1 hy with rfl | hy
      · exact h1
      · have := hz.1 y hy
        exact hc.lt_le h1 (by omega)
    · split
      · rename_i h1 h2
        refine List.pairwise_cons.2 ⟨fun y hy => ?_, hz.2⟩
        rw [hc.eq_l h2]
        exact hz.1 y hy
      · rename_i h1 h2
        refine List.pairwise_cons.2 ⟨fun y hy => ?_, ih hz.2⟩
        rcases gPut_mem hy with rfl | hy
        · have := hc.neg z y; omega
        · exact hz.1 y hy
theorem StrictC.load (hc : Cmp cf) : ∀ {xs L : List α}, StrictC cf L → StrictC cf (gLoad cf L xs)
  | [], _, h => h
  | x :: xs, _, h => StrictC.load hc (xs := xs) (h.put hc x)
theorem find_gPut (hc : Cmp cf) (L : List α) (x k : α) : gFind cf k (gPut cf L x) = if cf x k = 0 then some x else gFind cf k L := by
  induction L with
  | nil =>
    simp only [gPut, gFind, List.find?_cons, List.find?_nil, likeK]
    by_cases h : cf x k = 0 <;> simp [h]
  | cons z r ih =>
    simp only [gPut]
    split
    · simp only [gFind, List.find?_cons, likeK]; split <;> simp_all
    · split
      · rename_i h1 h2
        have h3 := hc.eq_l h2 k
        simp only [gFind, List.find?_cons, likeK]
        by_cases h4 : cf x k = 0
        · simp [h4]
        · simp [h4, ← h3]
      · rename_i h1 h2
        simp only [gFind, List.find?_cons, likeK] at ih ⊢
        by_cases h4 : cf z k = 0
        · have : cf x k ≠ 0 := fun h5 => by have := hc.eq_r h4 x; omega
          simp [h4, this]
        · simp [h4, ih]
theorem find_gLoad (hc : Cmp cf) : ∀ (xs L : List α) (k : α), gFind cf k (gLoad cf L xs) = ((xs.filter (likeK cf k)).getLast?).or (gFind cf k L)
  | [], L, k => by simp [gLoad]
  | x :: xs, L, k => by
    have h := find_gLoad hc xs (gPut cf L x) k
    show gFind cf k (gLoad cf (gPut cf L x) xs) = _
    rw [h, find_gPut hc, List.filter_cons]
    by_cases hx : cf x k = 0
    · rw [if_pos hx, if_pos (by simp [likeK, hx])]
      cases hl : xs.filter (likeK cf k) with
      | nil => simp
      | cons a l => rw [List.getLast?_cons_cons, List.getLast?_cons]; rfl
    · rw [if_neg hx, if_neg (by simp [likeK, hx])]
theorem StrictC.find (hc : Cmp cf) {L : List α} (h : StrictC cf L) {x : α} : gFind cf x L = some x ↔ x ∈ L := by
  constructor
  · exact List.mem_of_find?_eq_some
  · induction L with
    | nil => intro hx; cases hx
    | cons z r ih =>
      have hz := List.pairwise_cons.1 h
      intro hx
      simp only [gFind, List.find?_cons, likeK] at ih ⊢
      rcases List.mem_cons.1 hx with rfl | hx
      · simp [hc.self]
      · have := hz.1 x hx
        rw [decide_eq_false (by omega)]
        exact ih hz.2 hx
theorem strict_ext (hc : Cmp cf) : ∀ {l m : List α}, StrictC cf l → StrictC cf m → (∀ x, x ∈ l ↔ x ∈ m) → l = m
  | [], [], _, _, _ => rfl
  | [], b :: m, _, _, h => by have := (h b).2 List.mem_cons_self; cases this
  | a :: l, [], _, _, h => by have := (h a).1 List.mem_cons_self; cases this
  | a :: l, b :: m, hl, hm, h => by
    have hl1 := List.pairwise_cons.1 hl
    have hm1 := List.pairwise_cons.1 hm
    have hab : a = b := by
      rcases List.mem_cons.1 ((h a).1 List.mem_cons_self) with e | e
      · exact e
      rcases List.mem_cons.1 ((h b).2 List.mem_cons_self) with e2 | e2
      · exact e2.symm
      have h1 := hm1.1 a e
      have h2 := hl1.1 b e2
      have := hc.neg a b
      omega
    subst hab
    have hn : ∀ {l : List α}, (∀ x ∈ l, cf a x < 0) → a ∉ l := fun hq hx => by have := hq a hx; have := hc.self a; omega
    rw [strict_ext hc hl1.2 hm1.2 (fun x => ?_)]
    constructor
    · intro hx
      rcases List.mem_cons.1 ((h x).1 (List.mem_cons_of_mem _ hx)) with e | e
      · exact absurd (e ▸ hx) (hn hl1.1)
      · exact e
    · intro hx
      rcases List.mem_cons.1 ((h x).2 (List.mem_cons_of_mem _ hx)) with e | e
      · exact absurd (e ▸ hx) (hn hm1.1)
      · exact e
theorem find_ext (hc : Cmp cf) {l m : List α} (hl : StrictC cf l) (hm : StrictC cf m) (h : ∀ k, gFind cf k l = gFind cf k m) : l = m :=
  strict_ext hc hl hm (fun x => by rw [← hl.find hc, ← hm.find hc, h x])
theorem lastK_mem : ∀ {S : List α} {x : α}, x ∈ lastK cf S → x ∈ S
  | [], _, h => h
  | [_], _, h => h
  | a :: b :: r, x, h => by
    simp only [lastK] at h
    split at h
    · exact List.mem_cons_of_mem _ (lastK_mem h)
    · rcases List.mem_cons.1 h with h | h
      · exact h ▸ List.mem_cons_self
      · exact List.mem_cons_of_mem _ (lastK_mem h)
theorem SortedC.lastK (hc : Cmp cf) : ∀ {S : List α}, SortedC cf S → StrictC cf (lastK cf S)
  | [], _ => List.Pairwise.nil
  | [_], _ => List.pairwise_singleton _ _
  | a :: b :: r, h => by
    have h1 := List.pairwise_cons.1 h
    have ih := SortedC.lastK hc h1.2
    simp only [Proofs.YtljgnocpijniiaaGreatDoor.lastK]
    split
    · exact ih
    · rename_i hne
      refine List.pairwise_cons.2 ⟨fun x hx => ?_, ih⟩
      have hb := h1.1 b List.mem_cons_self
      rcases List.mem_cons.1 (lastK_mem hx) with rfl | hx
      · omega
      · have := (List.pairwise_cons.1 h1.2).1 x hx
        exact hc.lt_le (b := b) (by omega) this
theorem find_lastK (hc : Cmp cf) : ∀ {S : List α}, SortedC cf S → ∀ k, gFind cf k (lastK cf S) = (S.filter (likeK cf k)).getLast?
  | [], _, k => rfl
  | [x], _, k => by
    simp only [lastK, gFind, List.find?_cons, List.find?_nil, List.filter_cons, List.filter_nil]
    cases likeK cf k x <;> rfl
  | a :: b :: r, h, k => by
    have h1 := List.pairwise_cons.1 h
    have ih := find_lastK hc h1.2 k
    simp only [lastK]
    split
    · rename_i he
      rw [ih, List.filter_cons (x := a)]
      have : likeK cf k a = likeK cf k b := by unfold likeK; rw [hc.eq_l he]
      rw [this]
      cases hb : likeK cf k b with
      | false => rfl
      | true =>
        rw [List.filter_cons_of_pos hb, if_pos rfl, List.getLast?_cons_cons]
    · rename_i hne
      rw [List.filter_cons (x := a)]
      cases ha : likeK cf k a with
      | false =>
        have : gFind cf k (a :: lastK cf (b :: r)) = gFind cf k (lastK cf (b :: r)) := by simp [gFind, ha]
        rw [this, ih]
        rfl
      | true =>
        have ha' : cf a k = 0 := of_decide_eq_true ha
        have hn : (b :: r).filter (likeK cf k) = [] := by
          rw [List.filter_eq_nil_iff]
          intro y hy hq
          have hq : cf y k = 0 := of_decide_eq_true hq
          have hb := h1.1 b List.mem_cons_self
          have : cf a y < 0 := by
            rcases List.mem_cons.1 hy with rfl | hy
            · omega
            · exact hc.lt_le (b := b) (by omega) ((List.pairwise_cons.1 h1.2).1 y hy)
          have := hc.eq_r hq a
          omega
        rw [hn]
        simp [gFind, ha]
/-- a sorted row that holds of each key the same: of each key the last. -/
theorem lastK_load (hc : Cmp cf) {S l : List α} (h : SortedC cf S) (hs : SameK cf S l) : lastK cf S = gLoad cf [] l :=
  find_ext hc (h.lastK hc) (StrictC.load hc List.Pairwise.nil) (fun k => by rw [find_lastK hc h, find_gLoad hc, hs.2 k]; simp [gFind])
/-- two rows in order as one. -/
def gMerge (cf : α → α → Int) : List α → List α → List α
  | [], b => b
  | x :: a, [] => x :: a
  | x :: a, y :: b => if cf x y < 0 then x :: gMerge cf a (y :: b) else if 0 < cf x y then y :: gMerge cf (x :: a) b else gMerge cf a (y :: b)
termination_by a b => a.length + b.length
theorem gMerge_nil (a : List α) : gMerge cf a [] = a := by cases a <;> simp [gMerge]
theorem gMerge_mem : ∀ {a b : List α} {z : α}, z ∈ gMerge cf a b → z ∈ a ∨ z ∈ b
  | [], b, z, h => by rw [gMerge] at h; exact .inr h
  | x :: a, [], z, h => by rw [gMerge] at h; exact .inl h
  | x :: a, y :: b, z, h => by
    rw [gMerge] at h
    split at h
    · rcases List.mem_cons.1 h with h | h
      · exact .inl (h ▸ List.mem_cons_self)
      · exact (gMerge_mem h).imp (List.mem_cons_of_mem _) id
    · split at h
      · rcases List.mem_cons.1 h with h | h
        · exact .inr (h ▸ List.mem_cons_self)
        · exact (gMerge_mem h).imp id (List.mem_cons_of_mem _)
      · exact (gMerge_mem h).imp (List.mem_cons_of_mem _) id
termination_by a b => a.length + b.length
theorem StrictC.merge (hc : Cmp cf) : ∀ {a b : List α}, StrictC cf a → StrictC cf b → StrictC cf (gMerge cf a b)
  | [], b, _, hb => by rw [gMerge]; exact hb
  | x :: a, [], ha, _ => by rw [gMerge]; exact ha
  | x :: a, y :: b, ha, hb => by
    have h1 := List.pairwise_cons.1 ha
    have h2 := List.pairwise_cons.1 hb
    rw [gMerge]
    split
    · rename_i hlt
      refine List.pairwise_cons.2 ⟨fun z hz => ?_, StrictC.merge hc h1.2 hb⟩
      rcases gMerge_mem hz with hz | hz
      · exact h1.1 z hz
      · rcases List.mem_cons.1 hz with rfl | hz
        · exact hlt
        · have := h2.1 z hz
          exact hc.lt_le hlt (by omega)
    · split
      · rename_i hlt
        have hlt : cf y x < 0 := by have := hc.neg x y; omega
        refine List.pairwise_cons.2 ⟨fun z hz => ?_, StrictC.merge hc ha h2.2⟩
        rcases gMerge_mem hz with hz | hz
        · rcases List.mem_cons.1 hz with rfl | hz
          · exact hlt
          · have := h1.1 z hz
            exact hc.lt_le hlt (by omega)
        · exact h2.1 z hz
      · exact StrictC.merge hc h1.2 hb
termination_by a b => a.length + b.length
theorem find_gMerge (hc : Cmp cf) (k : α) : ∀ {a b : List α}, StrictC cf a → StrictC cf b → gFind cf k (gMerge cf a b) = (gFind cf k b).or (gFind cf k a)
  | [], b, _, hb => by rw [gMerge]; simp [gFind]
  | x :: a, [], ha, _ => by rw [gMerge]; simp [gFind]
  | x :: a, y :: b, ha, hb => by
    have h1 := List.pairwise_cons.1 ha
    have h2 := List.pairwise_cons.1 hb
    rw [gMerge]
    split
    · rename_i hlt
      have ih := find_gMerge hc k (a := a) (b := y :: b) h1.2 hb
      have e : ∀ l, gFind cf k (x :: l) = if cf x k = 0 then some x else gFind cf k l := fun l => by simp only [gFind, List.find?_cons, likeK]; split <;> simp_all
      rw [e, e, ih]
      by_cases hx : cf x k = 0
      · rw [if_pos hx, if_pos hx]
        have : gFind cf k (y :: b) = none := by
          unfold gFind
          rw [List.find?_eq_none]
          intro z hz hq
          have hq : cf z k = 0 := of_decide_eq_true hq
          have : cf x z < 0 := by
            rcases List.mem_cons.1 hz with rfl | hz
            · exact hlt
            · have := h2.1 z hz
              exact hc.lt_le hlt (by omega)
          have := hc.eq_r hq x
          omega
        rw [this]
        rfl
      · rw [if_neg hx, if_neg hx]
    · split
      · have ih := find_gMerge hc k (a := x :: a) (b := b) ha h2.2
        have e : ∀ l, gFind cf k (y :: l) = if cf y k = 0 then some y else gFind cf k l := fun l => by simp only [gFind, List.find?_cons, likeK]; split <;> simp_all
        rw [e, e, ih]
        by_cases hy : cf y k = 0
        · rw [if_pos hy, if_pos hy]; rfl
        · rw [if_neg hy, if_neg hy]
      · rename_i n1 n2
        have hxy : cf x y = 0 := by omega
        have ih := find_gMerge hc k (a := a) (b := y :: b) h1.2 hb
        have e : gFind cf k (x :: a) = if cf x k = 0 then some x else gFind cf k a := by simp only [gFind, List.find?_cons, likeK]; split <;> simp_all
        rw [ih, e]
        by_cases hx : cf x k = 0
        · have hy : cf y k = 0 := by rw [← hc.eq_l hxy]; exact hx
          have : gFind cf k (y :: b) = some y := by simp [gFind, likeK, hy]
          rw [this]
          rfl
        · rw [if_neg hx]
termination_by a b => a.length + b.length
theorem merge_load (hc : Cmp cf) (l m : List α) : gMerge cf (gLoad cf [] l) (gLoad cf [] m) = gLoad cf [] (l ++ m) := by
  have sl : StrictC cf (gLoad cf [] l) := StrictC.load hc List.Pairwise.nil
  have sm : StrictC cf (gLoad cf [] m) := StrictC.load hc List.Pairwise.nil
  refine find_ext hc (sl.merge hc sm) (StrictC.load hc List.Pairwise.nil) (fun k => ?_)
  rw [find_gMerge hc k sl sm, find_gLoad hc, find_gLoad hc, find_gLoad hc, List.filter_append, List.getLast?_append]
  simp [gFind]
theorem gPut_map (f : α → β) (hf : ∀ x y, cf x y = cg (f x) (f y)) (L : List α) (x : α) : (gPut cf L x).map f = gPut cg (L.map f) (f x) := by
  induction L with
  | nil => rfl
  | cons z r ih =>
    simp only [gPut, List.map_cons, ← hf]
    split
    · rfl
    · split
      · rfl
      · simp [ih]
theorem gLoad_map (f : α → β) (hf : ∀ x y, cf x y = cg (f x) (f y)) : ∀ (xs L : List α), (gLoad cf L xs).map f = gLoad cg (L.map f) (xs.map f)
  | [], L => rfl
  | x :: xs, L => by
    have := gLoad_map f hf xs (gPut cf L x)
    rw [gPut_map f hf] at this
    exact this
/-- what is in order already stays. -/
theorem load_strict (hc : Cmp cf) {L : List α} (h : StrictC cf L) : gLoad cf [] L = L := by
  refine find_ext hc (StrictC.load hc List.Pairwise.nil) h (fun k => ?_)
  rw [find_gLoad hc]
  have hl : lastK cf L = L := by
    clear k
    induction L with
    | nil => rfl
    | cons a r ih =>
      cases r with
      | nil => rfl
      | cons b r =>
        have h1 := List.pairwise_cons.1 h
        have := h1.1 b List.mem_cons_self
        rw [lastK, if_neg (by omega), ih h1.2]
  have := find_lastK hc h.sorted k
  rw [hl] at this
  rw [this]
  simp [gFind]

/-! ### what a stable sort goes by -/

theorem sorted_app {X Y : List α} : SortedC cf (X ++ Y) ↔ SortedC cf X ∧ SortedC cf Y ∧ ∀ x ∈ X, ∀ y ∈ Y, cf x y ≤ 0 := List.pairwise_append
/-- one more, put where it belongs. -/
theorem ins_done (hc : Cmp cf) {X1 X2 : List α} {x : α} (h : SortedC cf (X1 ++ X2)) (h2 : ∀ y ∈ X2, cf x y < 0) (h1 : ∀ y ∈ X1, cf y x ≤ 0) :
    SortedC cf (X1 ++ x :: X2) ∧ SameK cf ((X1 ++ X2) ++ [x]) (X1 ++ x :: X2) := by
  obtain ⟨a1, a2, a3⟩ := sorted_app.1 h
  refine ⟨sorted_app.2 ⟨a1, List.pairwise_cons.2 ⟨fun y hy => by have := h2 y hy; omega, a2⟩, fun y hy z hz => ?_⟩, ?_⟩
  · rcases List.mem_cons.1 hz with rfl | hz
    · exact h1 y hy
    · exact a3 y hy z hz
  · rw [List.append_assoc]
    exact (SameK.refl X1).app (SameK.swap hc (X := X2) (Y := [x]) (fun y hy z hz => by rw [List.mem_singleton.1 hz]; have := h2 y hy; have := hc.neg x y; omega))
/-- one ahead of a row, put where it belongs. -/
theorem ins_front (hc : Cmp cf) {Y1 Y2 : List α} {x : α} (h : SortedC cf (Y1 ++ Y2)) (h1 : ∀ y ∈ Y1, cf y x < 0) (h2 : ∀ y ∈ Y2, cf x y ≤ 0) :
    SortedC cf (Y1 ++ x :: Y2) ∧ SameK cf (x :: (Y1 ++ Y2)) (Y1 ++ x :: Y2) := by
  obtain ⟨a1, a2, a3⟩ := sorted_app.1 h
  refine ⟨sorted_app.2 ⟨a1, List.pairwise_cons.2 ⟨h2, a2⟩, fun y hy z hz => ?_⟩, ?_⟩
  · rcases List.mem_cons.1 hz with rfl | hz
    · have := h1 y hy; omega
    · exact a3 y hy z hz
  · have := (SameK.swap hc (X := [x]) (Y := Y1) (fun y hy z hz => by rw [List.mem_singleton.1 hy]; have := h1 z hz; have := hc.neg z x; omega)).app (SameK.refl Y2)
    simpa using this
/-- two rows, parted and merged by their parts. -/
theorem sm_split (hc : Cmp cf) {X1 X2 Y1 Y2 Z1 Z2 : List α} (hX : SortedC cf (X1 ++ X2)) (hY : SortedC cf (Y1 ++ Y2)) (h12 : ∀ x ∈ X1, ∀ y ∈ Y2, cf x y ≤ 0) (h21 : ∀ y ∈ Y1, ∀ x ∈ X2, cf y x < 0)
    (s1 : SortedC cf Z1) (k1 : SameK cf (X1 ++ Y1) Z1) (s2 : SortedC cf Z2) (k2 : SameK cf (X2 ++ Y2) Z2) :
    SortedC cf (Z1 ++ Z2) ∧ SameK cf ((X1 ++ X2) ++ (Y1 ++ Y2)) (Z1 ++ Z2) := by
  obtain ⟨_, _, a⟩ := sorted_app.1 hX
  obtain ⟨_, _, b⟩ := sorted_app.1 hY
  refine ⟨sorted_app.2 ⟨s1, s2, fun x hx y hy => ?_⟩, ?_⟩
  · have hx := k1.symm.mem hc hx
    have hy := k2.symm.mem hc hy
    rcases List.mem_append.1 hx with hx | hx <;> rcases List.mem_append.1 hy with hy | hy
    · exact a x hx y hy
    · exact h12 x hx y hy
    · have := h21 x hx y hy; omega
    · exact b x hx y hy
  · have h1 : SameK cf ((X1 ++ X2) ++ (Y1 ++ Y2)) ((X1 ++ Y1) ++ (X2 ++ Y2)) := by
      have := (SameK.swap hc (X := X2) (Y := Y1) (fun x hx y hy => by have := h21 y hy x hx; have := hc.neg y x; omega)).mid X1 Y2
      simpa [List.append_assoc] using this
    exact h1.trans (k1.app k2)
theorem SortedC.at {l : List α} (h : SortedC cf l) {i j : Nat} {d : α} (hij : i < j) (hj : j < l.length) : cf (l.getD i d) (l.getD j d) ≤ 0 := by
  rw [List.getD_eq_getElem?_getD, List.getD_eq_getElem?_getD, List.getElem?_eq_getElem hj, List.getElem?_eq_getElem (by omega)]
  exact List.pairwise_iff_getElem.1 h i j (by omega) hj hij
end

end Go.Proofs.YtljgnocpijniiaaGreatDoor

namespace Go.Proofs.YtljgnocpijniiaaGreatDoor
open Go

section
variable {α : Type} {cf : α → α → Int}
def Uniq (cf : α → α → Int) (l : List α) : Prop := l.Pairwise (fun a b => cf a b ≠ 0)
theorem gPut_perm {L : List α} {x : α} (h : ∀ y ∈ L, cf x y ≠ 0) : (gPut cf L x).Perm (x :: L) := by
  induction L with
  | nil => exact List.Perm.refl _
  | cons z r ih =>
    have hz := h z List.mem_cons_self
    rw [gPut]
    split
    · exact List.Perm.refl _
    · first | rw [if_neg hz] | skip
      exact ((ih (fun y hy => h y (List.mem_cons_of_mem _ hy))).cons z).trans (List.Perm.swap x z r)
theorem gPut_like (hc : Cmp cf) {L : List α} {x y : α} (hs : StrictC cf L) (hy : y ∈ L) (hxy : cf x y = 0) : (gPut cf L x).length = L.length := by
  induction L with
  | nil => cases hy
  | cons z r ih =>
    have hz := List.pairwise_cons.1 hs
    rw [gPut]
    have hneg := hc.neg x z
    rcases List.mem_cons.1 hy with rfl | hy'
    · rw [if_neg (by omega), if_pos hxy]; rfl
    · have h1 := hz.1 y hy'
      have h2 : cf z x < 0 := by rw [← hc.eq_r hxy z] at h1; exact h1
      rw [if_neg (by omega), if_neg (by omega)]
      simp [ih hz.2 hy']
theorem gLoad_snoc (L xs : List α) (x : α) : gLoad cf L (xs ++ [x]) = gPut cf (gLoad cf L xs) x := by rw [gLoad, List.foldl_append]; rfl
theorem snoc_rec {p : List α → Prop} (h0 : p []) (h1 : ∀ l x, p l → p (l ++ [x])) (l : List α) : p l := by
  have : ∀ n (l : List α), l.length = n → p l := by
    intro n
    induction n with
    | zero => intro l h; rw [List.eq_nil_of_length_eq_zero h]; exact h0
    | succ n ih =>
      intro l h
      have hne : l ≠ [] := by intro e; rw [e] at h; cases h
      rw [← List.dropLast_concat_getLast hne]
      exact h1 _ _ (ih _ (by rw [List.length_dropLast]; omega))
  exact this _ l rfl
theorem uniq_snoc {l : List α} {x : α} : Uniq cf (l ++ [x]) ↔ Uniq cf l ∧ ∀ y ∈ l, cf y x ≠ 0 := by
  unfold Uniq
  rw [List.pairwise_append]
  exact ⟨fun h => ⟨h.1, fun y hy => h.2.2 y hy x (List.mem_singleton.2 rfl)⟩, fun h => ⟨h.1, List.pairwise_singleton _ _, fun y hy z hz => by rw [List.mem_singleton.1 hz]; exact h.2 y hy⟩⟩
theorem load_perm (hc : Cmp cf) (l : List α) : Uniq cf l → (gLoad cf [] l).Perm l := by
  refine snoc_rec (p := fun l => Uniq cf l → (gLoad cf [] l).Perm l) (fun _ => List.Perm.refl _) (fun l x ih h => ?_) l
  obtain ⟨h1, h2⟩ := uniq_snoc.1 h
  have ih := ih h1
  rw [gLoad_snoc]
  refine (gPut_perm (fun y hy => ?_)).trans ?_
  · have := h2 y (ih.mem_iff.1 hy)
    have := hc.neg y x
    omega
  · exact (ih.cons x).trans (List.perm_append_comm (l₁ := [x]) (l₂ := l))
theorem load_full (hc : Cmp cf) (l : List α) : (gLoad cf [] l).length = l.length ↔ Uniq cf l := by
  refine ⟨?_, fun h => (load_perm hc l h).length_eq⟩
  refine snoc_rec (p := fun l => (gLoad cf [] l).length = l.length → Uniq cf l) (fun _ => List.Pairwise.nil) (fun l x ih h => ?_) l
  rw [gLoad_snoc, List.length_append, List.length_singleton] at h
  have h1 := gPut_len (cf := cf) (gLoad cf [] l) x
  have h2 := gLoad_len (cf := cf) l []
  rw [List.length_nil, Nat.zero_add] at h2
  have hu := ih (by omega)
  have hp := load_perm hc l hu
  refine uniq_snoc.2 ⟨hu, fun y hy e => ?_⟩
  have := gPut_like hc (StrictC.load hc List.Pairwise.nil) (hp.mem_iff.2 hy) (x := x) (by have := hc.neg y x; omega)
  omega
theorem Uniq.perm (hc : Cmp cf) {l m : List α} (h : Uniq cf l) (p : l.Perm m) : Uniq cf m :=
  (List.Perm.pairwise_iff (fun {a b} q e => q (by have := hc.neg a b; omega)) p).1 h
/-- in any order the same. -/
theorem load_turn (hc : Cmp cf) {l m : List α} (h : Uniq cf l) (p : l.Perm m) : gLoad cf [] l = gLoad cf [] m :=
  strict_ext hc (StrictC.load hc List.Pairwise.nil) (StrictC.load hc List.Pairwise.nil) (fun x => by
    rw [(load_perm hc l h).mem_iff, (load_perm hc m (h.perm hc p)).mem_iff, p.mem_iff])
end

end Go.Proofs.YtljgnocpijniiaaGreatDoor
