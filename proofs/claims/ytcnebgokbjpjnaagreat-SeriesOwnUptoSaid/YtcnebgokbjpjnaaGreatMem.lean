/- Memory for walks: slices that read as lists, blocks known whole, what a call keeps, append onto a row of one's own, new blocks. -/
import Derived.Test.YtcnebgokbjpjnaaGreatDen
import Derived.Maps.AppendAt
import Derived.Deep.AppendLies
import Derived.OwnWalk
import Derived.Below
set_option linter.unusedVariables false
set_option linter.unusedSimpArgs false
namespace Go.Proofs.YtcnebgokbjpjnaaGreat
open Go

theorem block_add (a : Addr) (n : Nat) : (a.add n).block = a.block := by unfold Addr.add; split <;> rfl
theorem add_lit' (b o n : Nat) : (⟨b, o, none⟩ : Addr).add n = ⟨b, o + n, none⟩ := by unfold Addr.add; split <;> simp_all
theorem add_zero' (a : Addr) : a.add 0 = a := by simp [Addr.add]
theorem add_add' (a : Addr) (i j : Nat) : (a.add i).add j = a.add (i + j) := by
  unfold Addr.add
  by_cases hi : i = 0 <;> by_cases hj : j = 0 <;> simp [hi, hj, Nat.add_assoc]

/-! ### what a call keeps -/

/-- all that was there is as it was, but for the blocks F; nothing has gone. -/
structure Keep (F : Nat → Prop) (w w' : World) : Prop where
  os : w'.os = w.os
  tape : w'.tape = w.tape
  output : w'.output = w.output
  size : w.heap.size ≤ w'.heap.size
  block : ∀ k, k < w.heap.size → ¬ F k → w'.heap[k]? = w.heap[k]?
/-- nothing that was there has turned. -/
abbrev Grow (w w' : World) : Prop := Keep (fun _ => False) w w'

theorem Keep.refl (F : Nat → Prop) (w : World) : Keep F w w := ⟨rfl, rfl, rfl, Nat.le_refl _, fun _ _ _ => rfl⟩
theorem Keep.trans {F G H : Nat → Prop} {a b c : World} (h : Keep F a b) (k : Keep G b c) (hF : ∀ i, i < a.heap.size → F i → H i) (hG : ∀ i, i < a.heap.size → G i → H i) : Keep H a c :=
  ⟨k.os.trans h.os, k.tape.trans h.tape, k.output.trans h.output, Nat.le_trans h.size k.size, fun i hi hn =>
    (k.block i (Nat.lt_of_lt_of_le hi h.size) (fun hg => hn (hG i hi hg))).trans (h.block i hi (fun hf => hn (hF i hi hf)))⟩
theorem Keep.mono {F G : Nat → Prop} {a b : World} (h : Keep F a b) (hF : ∀ i, i < a.heap.size → F i → G i) : Keep G a b := h.trans (Keep.refl G b) hF (fun _ _ h => h)
theorem Grow.trans {a b c : World} (h : Grow a b) (k : Grow b c) : Grow a c := Keep.trans h k (fun _ _ h => h) (fun _ _ h => h)
theorem Keep.then_grow {F : Nat → Prop} {a b c : World} (h : Keep F a b) (k : Grow b c) : Keep F a c := h.trans k (fun _ _ h => h) (fun _ _ h => h.elim)
theorem Grow.then {F : Nat → Prop} {a b c : World} (h : Grow a b) (k : Keep F b c) : Keep F a c := Keep.trans h k (fun _ _ h => h.elim) (fun _ _ h => h)
theorem Keep.above {F G : Nat → Prop} {a b c : World} (h : Keep G a b) (k : Keep F b c) (hF : ∀ i, i < a.heap.size → F i → G i) : Keep G a c := h.trans k (fun _ _ h => h) hF
theorem Grow.above' {F G : Nat → Prop} {a b c : World} (h : Grow a b) (k : Keep F b c) (hF : ∀ i, i < a.heap.size → F i → G i) : Keep G a c := Keep.trans h k (fun _ _ h => h.elim) hF
theorem Grow.drew (w : World) : Grow w w.drew := ⟨rfl, rfl, rfl, Nat.le_refl _, fun _ _ _ => rfl⟩
theorem Grow.alloc (w : World) (o : Obj) : Grow w (w.alloc o) := ⟨rfl, rfl, rfl, by simp, fun k hk _ => RowKit.Below.heap_alloc w o k hk⟩
theorem Keep.setCell (w : World) (a : Addr) (v : Value) : Keep (fun k => k = a.block) w (w.setCell a v) := ⟨rfl, rfl, rfl, by simp, fun k _ hn => heap_setCell_other w a k v hn⟩
theorem Keep.set1 (w : World) (g i : Nat) (v : Value) : Keep (fun k => k = g) w (w.setCell ⟨g, i, none⟩ v) := Keep.setCell w ⟨g, i, none⟩ v
theorem Keep.grownBy {w w' : World} {row : Option Nat} (h : w.grownBy w' row) : Keep (fun k => row = some k) w w' := ⟨h.os, h.tape, h.output, h.size, fun k hk hn => h.block k hk (fun e => hn e.symm)⟩
theorem Grow.below {w w' : World} (h : Grow w w') : RowKit.Below w.heap.size w w' := ⟨h.os, h.tape, h.output, h.size, fun k hk => h.block k hk (fun h => h)⟩
theorem Keep.heap {F : Nat → Prop} {w w' : World} (h : Keep F w w') {k : Nat} {o : Obj} (hk : w.heap[k]? = some o) (hF : ¬ F k) : w'.heap[k]? = some o :=
  (h.block k (Array.getElem?_eq_some_iff.1 hk).1 hF).trans hk
theorem Keep.cell {F : Nat → Prop} {w w' : World} (h : Keep F w w') {a : Addr} {v : Value} (hc : w.cell? a = some v) (hF : ¬ F a.block) : w'.cell? a = some v :=
  (World.cell?_of_block (h.block a.block (World.block_lt_of_cell? w a hc) hF)).trans hc

/-! ### blocks -/

/-- block g is just these cells, none frozen. -/
def Blk (w : World) (g : Nat) (t : TypeId) (cs : List Value) : Prop := w.heap[g]? = some (.cells cs.toArray t (0, 0))

section
variable {w w' : World} {g : Nat} {t : TypeId} {cs : List Value}
theorem Blk.lt (h : Blk w g t cs) : g < w.heap.size := (Array.getElem?_eq_some_iff.1 h).1
theorem Blk.cell (h : Blk w g t cs) (i : Nat) : w.cell? ⟨g, i, none⟩ = cs[i]? := by rw [cell_of_row w g i cs.toArray t (0, 0) h]; simp
theorem Blk.frozen (h : Blk w g t cs) (i : Nat) : w.frozen? ⟨g, i, none⟩ = false := frozen_of_row w g i cs.toArray t h
theorem Blk.new (w : World) (t : TypeId) (cs : List Value) : Blk (w.alloc (.cells cs.toArray t)) w.heap.size t cs := heap_alloc_new w _
theorem Blk.new' (w : World) (t : TypeId) (cs : Array Value) : Blk (w.alloc (.cells cs t)) w.heap.size t cs.toList := by unfold Blk; rw [heap_alloc_new]
theorem Blk.drew (h : Blk w g t cs) : Blk w.drew g t cs := h
theorem Blk.keep {F : Nat → Prop} (h : Blk w g t cs) (hk : Keep F w w') (hF : ¬ F g) : Blk w' g t cs := hk.heap h hF
theorem Blk.grow (h : Blk w g t cs) (hk : Grow w w') : Blk w' g t cs := hk.heap h (fun h => h)
theorem Blk.alloc (h : Blk w g t cs) (o : Obj) : Blk (w.alloc o) g t cs := h.grow (Grow.alloc w o)
theorem Blk.set (h : Blk w g t cs) (i : Nat) (u : Value) : Blk (w.setCell ⟨g, i, none⟩ u) g t (cs.set i u) := by
  unfold Blk at h ⊢
  rw [heap_setCell_same w g i _ t u h]
  simp
theorem Blk.far (h : Blk w g t cs) {p : Addr} (hp : g ≠ p.block) (u : Value) : Blk (w.setCell p u) g t cs := (heap_setCell_other w p g u hp).trans h
theorem Blk.ne_ {g' : Nat} {t' : TypeId} {cs' : List Value} (h : Blk w g t cs) (h' : Blk w g' t' cs') (hne : t ≠ t') : g ≠ g' := by
  rintro rfl
  unfold Blk at h h'
  rw [h] at h'
  injection h' with h'
  injection h' with _ ht
  exact hne ht
theorem Blk.st (h : Blk w g t cs) {i : Nat} {u : Value} (hi : i < cs.length) {K : WK} {tk : Tok K} (hk : K (w.setCell ⟨g, i, none⟩ u)) : cellSt w ⟨g, i, none⟩ u K tk :=
  ⟨⟨cs[i], by rw [h.cell, List.getElem?_eq_getElem hi]⟩, h.frozen i, hk⟩
end

/-! ### slices -/

/-- the slice value '.slice A n _' reads as these cells (size of them an element). -/
def Rd (w : World) (A : Option Addr) (n size : Nat) (xs : List Value) : Prop :=
  xs.length = n * size ∧ (0 < n → ∃ ad, A = some ad ∧ ∀ j u, xs[j]? = some u → w.cell? (ad.add j) = some u)
/-- the block in which it lies. -/
def fpA (A : Option Addr) (k : Nat) : Prop := ∃ ad, A = some ad ∧ k = ad.block
def fpV (v : Value) (k : Nat) : Prop := v.ownBlock = some k

section
variable {w w' : World} {A : Option Addr} {n size : Nat} {xs : List Value}
theorem Rd.nil (w : World) (A : Option Addr) (size : Nat) : Rd w A 0 size [] := ⟨by simp, fun h => absurd h (by omega)⟩
theorem Rd.keep {F : Nat → Prop} (h : Rd w A n size xs) (hk : Keep F w w') (hF : ∀ k, fpA A k → ¬ F k) : Rd w' A n size xs :=
  ⟨h.1, fun hn => by
    obtain ⟨ad, e, hc⟩ := h.2 hn
    exact ⟨ad, e, fun j u hu => hk.cell (hc j u hu) (by rw [block_add]; exact hF _ ⟨ad, e, rfl⟩)⟩⟩
theorem Rd.grow (h : Rd w A n size xs) (hk : Grow w w') : Rd w' A n size xs := h.keep hk (fun _ _ h => h)
theorem Rd.keep0 {F : Nat → Prop} (h : Rd w A n size xs) (hk : Keep F w w') (hF : 0 < n → ∀ k, fpA A k → ¬ F k) : Rd w' A n size xs :=
  ⟨h.1, fun hn => by
    obtain ⟨ad, e, hc⟩ := h.2 hn
    exact ⟨ad, e, fun j u hu => hk.cell (hc j u hu) (by rw [block_add]; exact hF hn _ ⟨ad, e, rfl⟩)⟩⟩
theorem Rd.lt (h : Rd w A n size xs) (hn : 0 < n) (hs : 0 < size) : ∀ k, fpA A k → k < w.heap.size := by
  rintro k ⟨ad, rfl, rfl⟩
  obtain ⟨ad', e, hc⟩ := h.2 hn
  injection e with e
  subst e
  have hl : 0 < xs.length := by rw [h.1]; exact Nat.mul_pos hn hs
  have := World.block_lt_of_cell? w _ (hc 0 xs[0] (List.getElem?_eq_getElem hl))
  rwa [block_add] at this
theorem Rd.drew (h : Rd w A n size xs) : Rd w.drew A n size xs := h
theorem Rd.cell1 {k : Nat} (h : Rd w A n 1 xs) (hk : k < n) : ∃ ad u, A = some ad ∧ xs[k]? = some u ∧ w.cell? (ad.add k) = some u := by
  obtain ⟨ad, e, hc⟩ := h.2 (by omega)
  have hl : k < xs.length := by have := h.1; omega
  exact ⟨ad, xs[k], e, List.getElem?_eq_getElem hl, hc k _ (List.getElem?_eq_getElem hl)⟩
theorem Rd.of_cells (w : World) (g n : Nat) (t : TypeId) (cs : List Value) (h : Blk w g t cs) (hl : cs.length = n) : Rd w (some ⟨g, 0, none⟩) n 1 cs :=
  ⟨by omega, fun _ => ⟨_, rfl, fun j u hu => by rw [add_lit', Nat.zero_add, h.cell]; exact hu⟩⟩
theorem Rd.of_own {e : TypeId} {c : Nat} (h : w.ownsRow 0 e size (.slice A n c) n xs) : Rd w A n size xs := by
  refine ⟨h.1, fun hn => ?_⟩
  rcases h.2 with ⟨h1, h2⟩ | ⟨g, cap, cur, hv, _⟩
  · omega
  · injection hv with hA
    subst hA
    exact ⟨_, rfl, h.cells (g := g) rfl⟩
theorem Rd.cut (h : Rd w A n size xs) {k m cap : Nat} (hk : k ≤ m) (hm : m ≤ n) (hc : n ≤ cap) :
    Rd w (if cap = k then A else A.map (·.add (k * size))) (m - k) size ((xs.drop (k * size)).take ((m - k) * size)) := by
  refine ⟨?_, fun hn => ?_⟩
  · rw [List.length_take, List.length_drop, h.1, ← Nat.sub_mul]
    exact Nat.min_eq_left (Nat.mul_le_mul_right _ (by omega))
  · obtain ⟨ad, rfl, hcell⟩ := h.2 (by omega)
    rw [if_neg (by omega)]
    refine ⟨ad.add (k * size), rfl, fun j u hu => ?_⟩
    rw [add_add']
    refine hcell _ u ?_
    rw [List.getElem?_take] at hu
    split at hu
    · rw [← hu, List.getElem?_drop]
    · cases hu
theorem flat_get {α β : Type} (f : α → List β) {size : Nat} : ∀ (l : List α), (∀ a ∈ l, (f a).length = size) → ∀ {k j : Nat} {a : α}, l[k]? = some a → j < size → (l.flatMap f)[k * size + j]? = (f a)[j]?
  | [], _, k, j, a, h, _ => by simp at h
  | x :: l, hs, 0, j, a, h, hj => by
    obtain rfl : x = a := by simpa using h
    rw [List.flatMap_cons, Nat.zero_mul, Nat.zero_add, List.getElem?_append_left (by rw [hs x (by simp)]; exact hj)]
  | x :: l, hs, k + 1, j, a, h, hj => by
    have hx := hs x (by simp)
    rw [List.flatMap_cons, List.getElem?_append_right (by rw [hx, Nat.succ_mul]; omega), hx, show (k + 1) * size + j - size = k * size + j by rw [Nat.succ_mul]; omega]
    exact flat_get f l (fun a ha => hs a (List.mem_cons_of_mem _ ha)) (by simpa using h) hj
theorem flat_len {α β : Type} (f : α → List β) {size : Nat} : ∀ (l : List α), (∀ a ∈ l, (f a).length = size) → (l.flatMap f).length = l.length * size
  | [], _ => by simp
  | x :: l, hs => by rw [List.flatMap_cons, List.length_append, flat_len f l (fun a ha => hs a (List.mem_cons_of_mem _ ha)), hs x (by simp), List.length_cons, Nat.succ_mul]; omega
/-- one element, of more than one cell, of a slice that reads. -/
theorem Rd.flat {α : Type} {f : α → List Value} {l : List α} (h : Rd w A n size (l.flatMap f)) (hs : ∀ a ∈ l, (f a).length = size) {k : Nat} {a : α} (hk : l[k]? = some a) (h0 : 0 < size) :
    k < n ∧ ∃ ad, A = some ad ∧ ∀ j v, (f a)[j]? = some v → w.cell? ((ad.add (k * size)).add j) = some v := by
  have hl := flat_len f l hs
  have hkl : k < l.length := (List.getElem?_eq_some_iff.1 hk).1
  have hnl : n = l.length := by
    have := h.1.symm.trans hl
    exact Nat.eq_of_mul_eq_mul_right h0 this
  have hkn : k < n := by omega
  obtain ⟨ad, e, hc⟩ := h.2 (by omega)
  refine ⟨hkn, ad, e, fun j v hj => ?_⟩
  have hjs : j < size := by rw [← hs a (List.mem_of_getElem? hk)]; exact (List.getElem?_eq_some_iff.1 hj).1
  rw [add_add']
  exact hc _ _ ((flat_get f l hs hk hjs).trans hj)
theorem fpA_cut {k c : Nat} {A : Option Addr} {cap sz : Nat} (h : fpA (if cap = c then A else A.map (·.add sz)) k) : fpA A k := by
  split at h
  · exact h
  · obtain ⟨ad, e, rfl⟩ := h
    cases A with
    | none => cases e
    | some a => simp at e; subst e; exact ⟨a, rfl, by rw [block_add]⟩
end

section
variable {w w' : World} {e : TypeId} {size : Nat} {v : Value} {n : Nat} {xs : List Value}
theorem own_keep {F : Nat → Prop} (h : w.ownsRow 0 e size v n xs) (hk : Keep F w w') (hF : ∀ k, fpV v k → ¬ F k) : w'.ownsRow 0 e size v n xs := by
  refine ⟨h.1, ?_⟩
  rcases h.2 with hn | ⟨g, cap, cur, rfl, hb, hg, rest⟩
  · exact .inl hn
  · exact .inr ⟨g, cap, cur, rfl, hb, hk.heap hg (hF g rfl), rest⟩
theorem own_grow (h : w.ownsRow 0 e size v n xs) (hk : Grow w w') : w'.ownsRow 0 e size v n xs := own_keep h hk (fun _ _ h => h)
theorem own_lt (h : w.ownsRow 0 e size v n xs) : ∀ k, fpV v k → k < w.heap.size := fun k hk => (h.lt k hk).2
theorem own_form (h : w.ownsRow 0 e size v n xs) : ∃ A c, v = .slice A n c ∧ n ≤ c ∧ (A = none → n = 0) := by
  rcases h.2 with ⟨rfl, rfl⟩ | ⟨g, cap, cur, rfl, _, _, hc, _⟩
  · exact ⟨none, 0, rfl, Nat.le_refl _, fun _ => rfl⟩
  · exact ⟨_, cap, rfl, hc, fun h => by cases h⟩
theorem own_blk_ne {g : Nat} {t : TypeId} {cs : List Value} (h : w.ownsRow 0 e size v n xs) (hg : Blk w g t cs) (hne : e ≠ t) : ¬ fpV v g := by
  rcases h.2 with ⟨rfl, _⟩ | ⟨g', cap, cur, rfl, _, hh, _⟩
  · simp [fpV, Value.ownBlock]
  · intro he
    have : g' = g := by simpa [fpV, Value.ownBlock] using he
    subst this
    exact Blk.ne_ (w := w) (t := e) (cs := cur.toList) (by unfold Blk; simpa using hh) hg hne rfl
theorem own_ne {e' : TypeId} {size' n' : Nat} {v' : Value} {xs' : List Value} (h : w.ownsRow 0 e size v n xs) (h' : w.ownsRow 0 e' size' v' n' xs') (hne : e ≠ e') : ∀ k, fpV v k → ¬ fpV v' k := by
  intro k hk hk'
  rcases h.2 with ⟨rfl, _⟩ | ⟨g, cap, cur, rfl, _, hh, _⟩
  · simp [fpV, Value.ownBlock] at hk
  · have : g = k := by simpa [fpV, Value.ownBlock] using hk
    subst this
    exact own_blk_ne h' (g := g) (t := e) (cs := cur.toList) (by unfold Blk; simpa using hh) (Ne.symm hne) hk'
/-- an element written in place. -/
theorem own_set {g cap : Nat} (h : w.ownsRow 0 e size (.slice (some ⟨g, 0, none⟩) n cap) n xs) (j : Nat) (hj : j < n * size) (u : Value) :
    (w.setCell ⟨g, j, none⟩ u).ownsRow 0 e size (.slice (some ⟨g, 0, none⟩) n cap) n (xs.set j u) := (h.stored j u).1
theorem own_st {g cap : Nat} (h : w.ownsRow 0 e size (.slice (some ⟨g, 0, none⟩) n cap) n xs) {j : Nat} (hj : j < n * size) {u : Value} {K : WK} {tk : Tok K} (hk : K (w.setCell ⟨g, j, none⟩ u)) : cellSt w ⟨g, j, none⟩ u K tk :=
  ⟨⟨xs[j]'(by rw [h.1]; exact hj), by rw [h.cellAt j hj, List.getElem?_eq_getElem (by rw [h.1]; exact hj)]⟩, h.frozenAt j, hk⟩
end

/-! ### append -/

section
variable {P : Program}
theorem run_append_nothing {t ty e : TypeId} {i : TypeInfo} {size : Nat} (ht : P.underlying t = some (.slice e)) (hi : P.info? e = some i)
    {w : World} {v : Value} {n : Nat} {xs : List Value} (hown : w.ownsRow 0 e size v n xs) (c : Nat) : (Builtin.append_ #[t, t] ty #[v, .slice none 0 c]).run P w = .ok v w := by
  rcases hown.2 with ⟨rfl, rfl⟩ | ⟨g, cap, cur, rfl, _, _, hnc, _⟩
  · simp [Builtin.append_, run_underlying ht, sizeOf, typeInfo, hi, Builtin.lenOf, Builtin.firstCells]
  · simp [Builtin.append_, run_underlying ht, sizeOf, typeInfo, hi, Builtin.lenOf, Builtin.firstCells, hnc, storeCells]

/-- the element's row of the table. -/
def elemFacts (P : Program) (t e : TypeId) (size bytes : Nat) (z : Value) : Prop :=
  P.underlying t = some (.slice e) ∧ (∃ i, P.info? e = some i ∧ i.zero = some z ∧ i.size = size ∧ i.bytes = bytes) ∧ z.cells.size = size ∧ 0 < size

def elemFactsB (P : Program) (t e : TypeId) (size bytes : Nat) : Bool :=
  (match P.underlying t with | some (.slice e') => e' == e | _ => false) &&
  (match P.info? e with | some i => (match i.zero with | some z => z.cells.size == size | none => false) && i.size == size && i.bytes == bytes | none => false) && decide (0 < size)
theorem elemFacts_of {P : Program} {t e : TypeId} {size bytes : Nat} (h : elemFactsB P t e size bytes = true) : ∃ z, elemFacts P t e size bytes z := by
  simp only [elemFactsB, Bool.and_eq_true, decide_eq_true_eq] at h
  obtain ⟨⟨h1, h2⟩, h3⟩ := h
  split at h1
  · rename_i e' hu
    obtain rfl : e' = e := by simpa using h1
    split at h2
    · rename_i i hi
      simp only [Bool.and_eq_true, beq_iff_eq] at h2
      split at h2
      · rename_i z hz
        exact ⟨z, hu, ⟨i, hi, hz, h2.1.2, h2.2⟩, by simpa using h2.1.1, h3⟩
      · simp at h2
    · cases h2
  · cases h1

theorem appK_own {t ty e : TypeId} {size bytes : Nat} (hf : elemFactsB P t e size bytes = true) {w : World} {v : Value} {n : Nat} {xs : List Value} (hown : w.ownsRow 0 e size v n xs)
    {A : Option Addr} {m c : Nat} {news : List Value} (hr : Rd w A m size news) (h1 : ∀ u ∈ news, u.oneCell' = true) (h63 : n + m ≤ maxLen) (hb : (n + m) * bytes ≤ 140737488355328)
    {K : VWK} {tk : Tok K} (h : ∀ A' c' w', w'.ownsRow 0 e size (.slice A' (n + m) c') (n + m) (xs ++ news) → Keep (fpV v) w w' → (∀ k, fpV (.slice A' (n + m) c') k → fpV v k ∨ k = w.heap.size) →
      K (.slice A' (n + m) c') w') : appK P [t, t] ty [v, .slice A m c] w K tk := by
  obtain ⟨z, ht, ⟨i, hi, hz, hs, hby⟩, hzs, hsz⟩ := elemFacts_of hf
  unfold appK
  rcases A with _ | ad
  · have hm : m = 0 := by
      rcases Nat.eq_zero_or_pos m with h0 | h0
      · exact h0
      · obtain ⟨ad, h, _⟩ := hr.2 h0; cases h
    subst hm
    have hn : news = [] := List.eq_nil_of_length_eq_zero (by simpa using hr.1)
    subst hn
    obtain ⟨A', c', rfl, _, _⟩ := own_form hown
    exact ⟨_, w, run_append_nothing ht hi hown c, h A' c' w (by simpa using hown) (Keep.refl _ _) (fun k hk => .inl hk)⟩
  · have hcells : ∀ j u, news[j]? = some u → w.cell? (ad.add j) = some u := by
      intro j u hu
      rcases Nat.eq_zero_or_pos m with h0 | h0
      · subst h0
        have hn : news = [] := List.eq_nil_of_length_eq_zero (by simpa using hr.1)
        subst hn
        simp at hu
      · obtain ⟨ad', h, hc⟩ := hr.2 h0
        injection h with h
        subst h
        exact hc j u hu
    obtain ⟨v', w', hrun, h2, h3, _, h5⟩ := run_append_own_at (P := P) w 0 t ty e i z size bytes ht hi hz hs hby hzs hsz v n xs hown ad m c news hr.1 hcells h1 h63 hb (Nat.zero_le _)
    obtain ⟨A', c', rfl, _, _⟩ := own_form h2
    refine ⟨_, w', hrun, h A' c' w' h2 (Keep.grownBy h3) (fun k hk => ?_)⟩
    rcases h5 with h5 | h5
    · exact .inl (by unfold fpV at hk ⊢; rw [← h5]; exact hk)
    · right
      unfold fpV at hk
      rw [h5] at hk
      injection hk with hk
      exact hk.symm
end

theorem own_new (w : World) (e : TypeId) (size n : Nat) (cs : Array Value) (hs : cs.size = n * size) (hm : n ≤ maxLen) : (w.alloc (.cells cs e)).ownsRow 0 e size (.slice (some ⟨w.heap.size, 0, none⟩) n n) n cs.toList :=
  World.ownsRow_lit w cs n (Nat.zero_le _) hm hs
theorem fpV_none (k : Nat) : ¬ fpV (.slice none 0 0) k := by simp [fpV, Value.ownBlock]
theorem fpV_some (a : Addr) (n c k : Nat) : fpV (.slice (some a) n c) k ↔ k = a.block := by simp [fpV, Value.ownBlock, eq_comm]
theorem fpV_fpA (A : Option Addr) (n c k : Nat) : fpV (.slice A n c) k ↔ fpA A k := by
  cases A <;> simp [fpV, fpA, Value.ownBlock, eq_comm]
theorem own_nil (w : World) (e : TypeId) (size : Nat) : w.ownsRow 0 e size (.slice none 0 0) 0 [] := World.ownsRow_nil w 0 e size

/-! ### literals -/

def putAt (cs : Array Value) (off : Nat) : List Value → Array Value
  | [] => cs
  | x :: xs => putAt (cs.setIfInBounds off x) (off + 1) xs
theorem putAt_nil (cs : Array Value) (off : Nat) : putAt cs off [] = cs := rfl
theorem putAt_cons (cs : Array Value) (off : Nat) (x : Value) (xs : List Value) : putAt cs off (x :: xs) = putAt (cs.setIfInBounds off x) (off + 1) xs := rfl
theorem foldl_putAt : ∀ (xs : List Value) (k off : Nat) (cs : Array Value), (xs.zipIdx k).foldl (fun cs (c, j) => cs.setIfInBounds (off + j) c) cs = putAt cs (off + k) xs
  | [], _, _, _ => rfl
  | x :: xs, k, off, cs => by
    rw [List.zipIdx_cons, List.foldl_cons, foldl_putAt xs (k + 1) off, putAt_cons]
    rfl
theorem fill_nil (p : Nat → Option (Nat × Nat)) (cs : Array Value) : Instr.fill p cs [] = some cs := rfl
theorem fill_cons (p : Nat → Option (Nat × Nat)) (cs : Array Value) (i : Nat) (v : Value) (r : List (Nat × Value)) :
    Instr.fill p cs ((i, v) :: r) = match p i with
      | none => none
      | some x => if v.cells.size = x.2 ∧ x.1 + v.cells.size ≤ cs.size then Instr.fill p (putAt cs x.1 v.cells.toList) r else none := by
  rw [Instr.fill]
  cases p i with
  | none => rfl
  | some x =>
    obtain ⟨off, size⟩ := x
    simp only []
    have e : v.cells.zipIdx.foldl (fun cs (c, j) => cs.setIfInBounds (off + j) c) cs = putAt cs off v.cells.toList := by
      rw [← Array.foldl_toList, Array.toList_zipIdx]
      exact foldl_putAt v.cells.toList 0 off cs
    rw [e]
    by_cases h1 : v.cells.size = size
    · subst h1
      by_cases h2 : off + v.cells.size ≤ cs.size
      · have h2' : ¬ (off + v.cells.size > cs.size) := by omega
        simp [h2, h2']
      · have h2' : off + v.cells.size > cs.size := by omega
        simp [h2, h2']
    · simp [h1]
theorem cells_int (k : IntKind) (n : Int) : (Value.int k n).cells = #[.int k n] := rfl
theorem cells_bool (b : Bool) : (Value.bool b).cells = #[.bool b] := rfl
theorem cells_string (s : ByteArray) : (Value.string s).cells = #[.string s] := rfl
theorem cells_pointer (a : Option Addr) : (Value.pointer a).cells = #[.pointer a] := rfl
theorem cells_slice (a : Option Addr) (n c : Nat) : (Value.slice a n c).cells = #[.slice a n c] := rfl
theorem cells_map (a : Option Nat) : (Value.map a).cells = #[.map a] := rfl
theorem cells_iface (t : TypeId) (v : Value) : (Value.iface t v).cells = #[.iface t v] := rfl
theorem cells_nilIface : Value.nilIface.cells = #[.nilIface] := rfl
theorem cells_agg (cs : Array Value) : (Value.agg cs).cells = cs := rfl

/-- a struct or an array written into a block that is known whole. -/
theorem Blk.stAgg {P : Program} {w : World} {g : Nat} {t : TypeId} {old : List Value} (h : Blk w g t old) {o : Nat} {cs : List Value} (hl : o + cs.length ≤ old.length) (h1 : ∀ v ∈ cs, v.oneCell' = true)
    {K : WK} {tk : Tok K} (hk : ∀ w', Blk w' g t (old.take o ++ cs ++ old.drop (o + cs.length)) → Keep (fun k => k = g) w w' → K w') : aggSt P w ⟨g, o, none⟩ cs K tk := by
  have hr := run_storeCells_at P g o t cs 0 old.toArray w h (by simpa using hl) h1
  refine ⟨_, hr, hk _ ?_ ?_⟩
  · unfold Blk
    rw [setRow_heap w g old.toArray _ t _ h]
    simp
  · exact ⟨rfl, rfl, rfl, by simp, fun k _ hn => setRow_other w g k _ hn⟩
theorem blk_st2 {P : Program} {w : World} {g : Nat} {t : TypeId} {a b c d : Value} (h : Blk w g t [a, b]) (h1 : c.oneCell' = true) (h2 : d.oneCell' = true) {K : WK} {tk : Tok K} (hk : ∀ w', Blk w' g t [c, d] → Keep (fun k => k = g) w w' → K w') : aggSt P w ⟨g, 0, none⟩ [c, d] K tk :=
  h.stAgg (by simp) (by intro v hv; simp only [List.mem_cons, List.not_mem_nil, or_false] at hv; rcases hv with rfl | rfl <;> assumption) (fun w' hB hk' => hk w' hB hk')
theorem blk_st3 {P : Program} {w : World} {g : Nat} {t : TypeId} {a b c d e f : Value} (h : Blk w g t [a, b, c]) (h1 : d.oneCell' = true) (h2 : e.oneCell' = true) (h3 : f.oneCell' = true) {K : WK} {tk : Tok K} (hk : ∀ w', Blk w' g t [d, e, f] → Keep (fun k => k = g) w w' → K w') : aggSt P w ⟨g, 0, none⟩ [d, e, f] K tk :=
  h.stAgg (by simp) (by intro v hv; simp only [List.mem_cons, List.not_mem_nil, or_false] at hv; rcases hv with rfl | rfl | rfl <;> assumption) (fun w' hB hk' => hk w' hB hk')
theorem new2 {P : Program} {w : World} {t : TypeId} {a b : Value} {K : WK} {tk : Tok K} (h : ∀ w', Blk w' w.heap.size t [a, b] → Grow w w' → K w') (ha : a.oneCell' = true) (hb : b.oneCell' = true) {x y : Value} :
    aggSt P (w.alloc (.cells #[x, y] t)) ⟨w.heap.size, 0, none⟩ [a, b] K tk :=
  blk_st2 (Blk.new' w t #[x, y]) ha hb (fun w' hB k => h w' hB ((Grow.alloc w _).above k (fun q hq e => by omega)))
theorem new3 {P : Program} {w : World} {t : TypeId} {a b d : Value} {K : WK} {tk : Tok K} (h : ∀ w', Blk w' w.heap.size t [a, b, d] → Grow w w' → K w') (ha : a.oneCell' = true) (hb : b.oneCell' = true) (hd : d.oneCell' = true) {x y z : Value} :
    aggSt P (w.alloc (.cells #[x, y, z] t)) ⟨w.heap.size, 0, none⟩ [a, b, d] K tk :=
  blk_st3 (Blk.new' w t #[x, y, z]) ha hb hd (fun w' hB k => h w' hB ((Grow.alloc w _).above k (fun q hq e => by omega)))
/-- a new block, then filled. -/
theorem newN {P : Program} {w : World} {t : TypeId} {cs olds : List Value} {K : WK} {tk : Tok K} (hl : olds.length = cs.length) (h1 : ∀ v ∈ cs, v.oneCell' = true) (h : ∀ w', Blk w' w.heap.size t cs → Grow w w' → K w') :
    aggSt P (w.alloc (.cells olds.toArray t)) ⟨w.heap.size, 0, none⟩ cs K tk :=
  (Blk.new' w t olds.toArray).stAgg (by simp; omega) h1 (fun w' hB k => h w' (by simpa [hl, List.drop_eq_nil_of_le (Nat.le_of_eq hl)] using hB) ((Grow.alloc w _).above k (fun q hq e => by omega)))
theorem Blk.aggK {w : World} {g : Nat} {t : TypeId} {cs : List Value} (h : Blk w g t cs) {o n : Nat} (hl : o + n ≤ cs.length) {K : VK} {tk : Tok K} (hk : K (.agg ((cs.drop o).take n).toArray)) : aggK w ⟨g, o, none⟩ (some n) K tk :=
  ⟨(cs.drop o).take n, by simp; omega, (fun j v hv => by
    rw [add_lit', h.cell]
    rw [List.getElem?_take] at hv
    split at hv
    · rw [← hv, List.getElem?_drop]
    · cases hv), hk⟩

theorem Rd.len1 {w : World} {A : Option Addr} {n : Nat} {kd : IntKind} {xs : List Int} (h : Rd w A n 1 (xs.map (Value.int kd))) : xs.length = n := by have := h.1; simp at this; omega
theorem Rd.int {w : World} {A : Option Addr} {n : Nat} {kd : IntKind} {xs : List Int} (h : Rd w A n 1 (xs.map (Value.int kd))) {k : Nat} (hk : k < n) : ∃ ad, A = some ad ∧ w.cell? (ad.add k) = some (.int kd (xs.getD k 0)) := by
  obtain ⟨ad, u, e, hu, hc⟩ := h.cell1 hk
  have hl := h.len1
  refine ⟨ad, e, hc.trans ?_⟩
  rw [List.getElem?_map, List.getElem?_eq_getElem (by omega)] at hu
  rw [← hu, List.getD_eq_getElem?_getD, List.getElem?_eq_getElem (by omega)]
  rfl
theorem take_succ_of {α : Type} {xs ys : List α} {d : α} {k : Nat} (h : xs.take k = ys.take k) (hx : k < xs.length) (hy : k < ys.length) (he : xs.getD k d = ys.getD k d) : xs.take (k + 1) = ys.take (k + 1) := by
  rw [List.take_succ_eq_append_getElem hx, List.take_succ_eq_append_getElem hy, h]
  rw [List.getD_eq_getElem?_getD, List.getD_eq_getElem?_getD, List.getElem?_eq_getElem hx, List.getElem?_eq_getElem hy] at he
  simp only [Option.getD_some] at he
  rw [he]

/-! ### a region that draws its order, by a plan: the operations in the plan's order -/

def planL (ops : Array Oper) : List (Nat × Bool) → List (Oper × Bool)
  | [] => []
  | (i, b) :: r => (ops[i]?).toList.map (·, b) ++ planL ops r
def yOK (P : Program) (S : World → Prop) (o : Oper) (ρ : Operand → Value) (K : VK) (_ : Tok (S, K)) : Prop := yO P S o ρ K
def wpL (P : Program) (ops : Array Oper) (S : World → Prop) (Q : Env → World → Prop) : List (Oper × Bool) → Env → World → Prop
  | [], e, w => Q e w
  | (o, true) :: r, e, w => match o.guard with
    | none => yOK P S o (ev e) (fun v => wpL P ops S Q r (put e o.dst v) w) .mk
    | some (j, want) => guardK (yieldE ops e j) want (yOK P S o (ev e) (fun v => wpL P ops S Q r (put e o.dst v) w) .mk) (wpL P ops S Q r (put e o.dst undef) w) .mk .mk
  | (o, false) :: r, e, w => wpOs P ops (fun e' w' => S w' ∧ wpL P ops S Q r e' w') [o] e w
theorem guardK_mono' {g : Option Bool} {want : Bool} {X X' Y Y' : Prop} {a : Tok X} {b : Tok Y} {a' : Tok X'} {b' : Tok Y'} (hx : X → X') (hy : Y → Y') (h : guardK g want X Y a b) : guardK g want X' Y' a' b' := by
  unfold guardK at h ⊢
  exact ⟨fun e => hx (h.1 e), fun e => hy (h.2 e)⟩
theorem yO_mono' {P : Program} {S : World → Prop} {o : Oper} {ρ : Operand → Value} {K K' : VK} (hk : ∀ v, K v → K' v) (h : yO P S o ρ K) : yO P S o ρ K' := by
  unfold yO at h ⊢
  split at h
  · rename_i t x hop
    obtain ⟨a, ha, hl⟩ := h
    refine ⟨a, ha, ?_⟩
    unfold ldY at hl ⊢
    split at hl
    · obtain ⟨v, h1, h2⟩ := hl; exact ⟨v, h1, hk v h2⟩
    · obtain ⟨v, h1, h2, h3⟩ := hl; exact ⟨v, h1, h2, hk _ h3⟩
    · cases hl
  · unfold convK at h ⊢
    split at h <;> exact h.imp fun v hv => ⟨hv.1, hk v hv.2⟩
  · rename_i hne
    obtain ⟨v, h1, h2⟩ := h
    exact ⟨v, h1, hk v h2⟩
theorem wpL_plan {P : Program} {ops : Array Oper} {S : World → Prop} {Q : Env → World → Prop} : ∀ (plan : List (Nat × Bool)) (e : Env) (w : World), (plan.all fun x => decide (x.1 < ops.size)) = true → wpL P ops S Q (planL ops plan) e w → wpPlan P ops S Q plan e w
  | [], e, w, _, h => h
  | (i, b) :: r, e, w, hp, h => by
    simp only [List.all_cons, Bool.and_eq_true, decide_eq_true_eq] at hp
    obtain ⟨hi, hr⟩ := hp
    have ih := fun e w => wpL_plan (P := P) (S := S) (Q := Q) r e w hr
    have ho : ops[i]? = some ops[i] := Array.getElem?_eq_getElem hi
    simp only [planL, ho, Option.toList_some, List.map_cons, List.map_nil, List.cons_append, List.nil_append] at h
    cases b
    · simp only [wpL, wpOs] at h
      simp only [wpPlan, ho]
      split
      · rename_i hg
        simp only [hg] at h
        exact wpO_mono (fun v w' h' => ⟨h'.1, ih _ _ h'.2⟩) h
      · rename_i j want hg
        simp only [hg] at h
        exact guardK_mono' (wpO_mono fun v w' h' => ⟨h'.1, ih _ _ h'.2⟩) (fun h' => ih _ _ h'.2) h
    · simp only [wpL] at h
      simp only [wpPlan, ho]
      split
      · rename_i hg
        simp only [hg] at h
        exact yO_mono' (fun v h' => ih _ _ h') h
      · rename_i j want hg
        simp only [hg] at h
        exact guardK_mono' (yO_mono' fun v h' => ih _ _ h') (ih _ _) h
theorem wpDraw_by {P : Program} {ops : Array Oper} {Q : Env → World → Prop} {e : Env} {w : World} (S : World → Prop) (plan : List (Nat × Bool))
    (hok : (Region.noSelect ops && planOk ops plan (Array.replicate ops.size false) && (plan.length == ops.size) && plan.all fun x => decide (x.1 < ops.size)) = true) (hS : S w.drew)
    (h : wpL P ops S Q (planL ops plan) e w.drew) {tk : Tok (Q, e, w)} : wpDraw P ops Q e w tk := by
  rw [Bool.and_eq_true] at hok
  exact wpDraw_plan S plan hok.1 hS (wpL_plan plan e _ hok.2 h)
section planrules
variable {P : Program} {ops : Array Oper} {S : World → Prop} {Q : Env → World → Prop} {r : List (Oper × Bool)} {e : Env} {w : World} {d : Option Tmp} {ty : TypeId} {pos : String} {af : Array Edge} {ρ : Operand → Value} {K : VK} {tk : Tok (S, K)}
theorem l_nil : wpL P ops S Q [] e w = Q e w := rfl
theorem l_guard {op : Go.Op} {j : Nat} {want : Bool} : wpL P ops S Q ((⟨d, op, ty, pos, af, some (j, want)⟩, true) :: r) e w = guardK (yieldE ops e j) want (wpL P ops S Q ((⟨d, op, ty, pos, af, none⟩, true) :: r) e w) (wpL P ops S Q r (put e d undef) w) .mk .mk := rfl
theorem l_true {op : Go.Op} : wpL P ops S Q ((⟨d, op, ty, pos, af, none⟩, true) :: r) e w = yOK P S ⟨d, op, ty, pos, af, none⟩ (ev e) (fun v => wpL P ops S Q r (put e d v) w) .mk := rfl
theorem l_false {op : Go.Op} {g : Option (Nat × Bool)} : wpL P ops S Q ((⟨d, op, ty, pos, af, g⟩, false) :: r) e w = wpOs P ops (fun e' w' => S w' ∧ wpL P ops S Q r e' w') [⟨d, op, ty, pos, af, g⟩] e w := rfl
theorem y_load {t : TypeId} {x : Operand} : yOK P S ⟨d, .load t x, ty, pos, af, none⟩ ρ K tk = ptrK (ρ x) (fun a => ldY P t S a K .mk) .mk := rfl
theorem y_move {x : Operand} : yOK P S ⟨d, .move x, ty, pos, af, none⟩ ρ K tk = K (ρ x) := by simp [yOK, yO, pureOp, pureK]
theorem y_assign {x : Operand} : yOK P S ⟨d, .assign x, ty, pos, af, none⟩ ρ K tk = K (ρ x) := by simp [yOK, yO, pureOp, pureK]
theorem y_pick {a b c : Operand} : yOK P S ⟨d, .pick c a b, ty, pos, af, none⟩ ρ K tk = boolK (ρ c) (K (ρ a)) (K (ρ b)) .mk .mk := by
  simp only [yOK, yO, pureOp, pureK, boolK]
  cases ρ c <;> simp
  rename_i b
  cases b <;> simp
theorem y_nilCheck {x : Operand} : yOK P S ⟨d, .nilCheck x, ty, pos, af, none⟩ ρ K tk = pureK (pureOp P (.nilCheck x) ρ) K .mk := rfl
theorem y_binOp {op : BinOp} {t u : TypeId} {x y : Operand} : yOK P S ⟨d, .binOp op t x y u, ty, pos, af, none⟩ ρ K tk = pureK (binPure P op t x y (ρ x) (ρ y)) K .mk := rfl
theorem y_unOp {op : UnOp} {t : TypeId} {x : Operand} : yOK P S ⟨d, .unOp op t x, ty, pos, af, none⟩ ρ K tk = pureK (unPure op (ρ x)) K .mk := rfl
theorem y_len {x : Operand} {t : TypeId} : yOK P S ⟨d, .call ⟨.builtin .len, #[x], #[t]⟩, ty, pos, af, none⟩ ρ K tk = pureK (lenPure P t (ρ x)) K .mk := rfl
theorem y_fieldAddr {t : TypeId} {x : Operand} {i : Nat} : yOK P S ⟨d, .fieldAddr t x i, ty, pos, af, none⟩ ρ K tk = pureK (pureOp P (.fieldAddr t x i) ρ) K .mk := rfl
theorem y_field {t : TypeId} {x : Operand} {i : Nat} : yOK P S ⟨d, .field t x i, ty, pos, af, none⟩ ρ K tk = pureK (pureOp P (.field t x i) ρ) K .mk := rfl
theorem y_indexAddr {t : TypeId} {x y : Operand} : yOK P S ⟨d, .indexAddr t x y, ty, pos, af, none⟩ ρ K tk = pureK (pureOp P (.indexAddr t x y) ρ) K .mk := rfl
theorem y_index {t : TypeId} {x y : Operand} : yOK P S ⟨d, .index t x y, ty, pos, af, none⟩ ρ K tk = pureK (pureOp P (.index t x y) ρ) K .mk := rfl
theorem y_extract {x : Operand} {i : Nat} : yOK P S ⟨d, .extract x i, ty, pos, af, none⟩ ρ K tk = pureK (pureOp P (.extract x i) ρ) K .mk := rfl
theorem y_convert {s t : TypeId} {x : Operand} : yOK P S ⟨d, .convert s t x, ty, pos, af, none⟩ ρ K tk = convK (convT P s t) (ρ x) (genY P S ⟨d, .convert s t x, ty, pos, af, none⟩ ρ K .mk) (pureK (pureOp P (.convert s t x) ρ) K .mk) .mk .mk := rfl
theorem y_build {t : TypeId} {ps : Array (Nat × Operand)} : yOK P S ⟨d, .build t ps, ty, pos, af, none⟩ ρ K tk = pureK (buildP P t (ps.toList.map fun p => (p.1, ρ p.2))) K .mk := rfl
theorem y_slice {t : TypeId} {x : Operand} {lo hi : Option Operand} : yOK P S ⟨d, .slice t x lo hi none, ty, pos, af, none⟩ ρ K tk = pureK (slicePure P t (ρ x) (lo.map ρ) (hi.map ρ)) K .mk := rfl
theorem y_slice3 {t : TypeId} {x h m : Operand} {lo : Option Operand} : yOK P S ⟨d, .slice t x lo (some h) (some m), ty, pos, af, none⟩ ρ K tk = pureK (slice3Pure P t (ρ x) (lo.map ρ) (ρ h) (ρ m)) K .mk := rfl
theorem y_makeInterface {t : TypeId} {x : Operand} : yOK P S ⟨d, .makeInterface t x, ty, pos, af, none⟩ ρ K tk = pureK (pureOp P (.makeInterface t x) ρ) K .mk := rfl
theorem y_makeFunc {fn : Fn} {a b : Array Operand} : yOK P S ⟨d, .makeFunc fn a b, ty, pos, af, none⟩ ρ K tk = pureK (pureOp P (.makeFunc fn a b) ρ) K .mk := rfl
theorem y_typeAssert {x : Operand} {a b : TypeId} {ok : Bool} : yOK P S ⟨d, .typeAssert x a b ok, ty, pos, af, none⟩ ρ K tk = pureK (pureOp P (.typeAssert x a b ok) ρ) K .mk := rfl
theorem y_min {as : Array Operand} {ats : Array TypeId} : yOK P S ⟨d, .call ⟨.builtin .min, as, ats⟩, ty, pos, af, none⟩ ρ K tk = pureK (minPure (as.toList.map ρ)) K .mk := rfl
theorem y_max {as : Array Operand} {ats : Array TypeId} : yOK P S ⟨d, .call ⟨.builtin .max, as, ats⟩, ty, pos, af, none⟩ ρ K tk = pureK (maxPure (as.toList.map ρ)) K .mk := rfl
end planrules

theorem c_assoc {P : Program} {a b c : Code} {Q : Ex → Env → World → Prop} {e : Env} {w : World} : wpC P (.seq a (.seq b c)) Q e w = wpC P (.seq (.seq a b) c) Q e w := by
  rw [c_seq, c_seq (a := .seq a b), c_seq (a := a) (b := b)]
  congr 1

/-- the environment forgotten but for some facts. -/
theorem os_gen {P : Program} {ops : Array Oper} {Q : Env → World → Prop} {r : List Oper} {e : Env} {w : World} (J : Env → Prop) (hJ : J e) (h : ∀ e, J e → wpOs P ops Q r e w) : wpOs P ops Q r e w := h e hJ
theorem c_gen {P : Program} {c : Code} {Q : Ex → Env → World → Prop} {e : Env} {w : World} (J : Env → Prop) (hJ : J e) (h : ∀ e, J e → wpC P c Q e w) : wpC P c Q e w := h e hJ
theorem c_gen2 {P : Program} {c : Code} {Q : Ex → Env → World → Prop} {e : Env} {w : World} (J : Env → World → Prop) (hJ : J e w) (h : ∀ e w, J e w → wpC P c Q e w) : wpC P c Q e w := h e w hJ
theorem os_gen2 {P : Program} {ops : Array Oper} {Q : Env → World → Prop} {r : List Oper} {e : Env} {w : World} (J : Env → World → Prop) (hJ : J e w) (h : ∀ e w, J e w → wpOs P ops Q r e w) : wpOs P ops Q r e w := h e w hJ
/-- two blocks, laid one behind the other. -/
theorem two_new (w : World) (t u : TypeId) (cs ds : Array Value) :
    Blk ((w.alloc (.cells cs t)).alloc (.cells ds u)) w.heap.size t cs.toList ∧ Blk ((w.alloc (.cells cs t)).alloc (.cells ds u)) (w.alloc (.cells cs t)).heap.size u ds.toList ∧ Grow w ((w.alloc (.cells cs t)).alloc (.cells ds u)) :=
  ⟨(Blk.new' w t cs).grow (Grow.alloc _ _), Blk.new' _ u ds, (Grow.alloc w _).trans (Grow.alloc _ _)⟩
theorem c_cut {P : Program} {a : Code} {Q : Ex → Env → World → Prop} {e : Env} {w : World} (J : Env → World → Prop)
    (h1 : wpC P a (fun ex e w => match ex with | .normal => hold (J e w) .mk | .exit i => Q (.exit i) e w | .ret => Q .ret e w) e w)
    (h2 : ∀ e w, J e w → Q .normal e w) : wpC P a Q e w := by
  refine wpC_mono ?_ a e w h1
  intro ex e w hq
  cases ex
  · exact h2 e w hq
  · exact hq
  · exact hq
theorem c_regionL {P : Program} {id : Nat} {l : List Oper} {Q : Ex → Env → World → Prop} {e : Env} {w : World} : wpC P (.region id l.toArray false) Q e w = wpOs P l.toArray (Q .normal) l e w := rfl
/-- the walk's rules, bundled. -/
abbrev RD := And.intro @y_slice3 <| And.intro @s_cap (And.intro (And.intro (And.intro (And.intro (And.intro @c_skip (And.intro @c_region @c_draw)) (And.intro (And.intro @c_cond @c_block) (And.intro @c_loop @c_exit))) (And.intro (And.intro (And.intro @c_ret @s_nil) (And.intro @s_guard @s_move)) (And.intro (And.intro @s_assign @s_pick) (And.intro @s_alloc @s_box)))) (And.intro (And.intro (And.intro (And.intro @s_build @s_buildSlice) (And.intro @s_load @s_store)) (And.intro (And.intro @s_nilCheck @s_binOp) (And.intro @s_unOp @s_convert))) (And.intro (And.intro (And.intro @s_makeInterface @s_makeFunc) (And.intro @s_slice @s_fieldAddr)) (And.intro (And.intro @s_field @s_indexAddr) (And.intro @s_index (And.intro (And.intro @s_typeAssert (And.intro @s_invoke @s_slice3)) (And.intro (And.intro (And.intro @s_makeSlice @s_makeMap) (And.intro @s_lookup @s_mapUpdate)) (And.intro (And.intro (And.intro @s_insert @s_range) (And.intro @s_next @s_entry)) (And.intro (And.intro @s_mapEntry @s_entryStore) (And.intro @s_copy (And.intro @s_delete @s_clear))))))))))) (And.intro (And.intro (And.intro (And.intro @s_extract (And.intro @s_call @s_append)) (And.intro (And.intro @s_len @s_min) (And.intro @s_max @l_nil))) (And.intro (And.intro (And.intro @l_guard @l_true) (And.intro @l_false @y_load)) (And.intro (And.intro @y_move @y_assign) (And.intro @y_pick @y_nilCheck)))) (And.intro (And.intro (And.intro (And.intro @y_binOp @y_unOp) (And.intro @y_len @y_fieldAddr)) (And.intro (And.intro @y_field @y_indexAddr) (And.intro @y_index @y_extract))) (And.intro (And.intro (And.intro @y_convert @y_build) (And.intro @y_slice @y_makeInterface)) (And.intro (And.intro @y_makeFunc @y_typeAssert) (And.intro @y_min @y_max))))))
abbrev RE := And.intro @y_slice3 <| And.intro @s_cap (And.intro (And.intro (And.intro (And.intro (And.intro @c_skip (And.intro @c_regionL @c_draw)) (And.intro (And.intro @c_cond @c_block) (And.intro @c_loop @c_exit))) (And.intro (And.intro (And.intro @c_ret @s_nil) (And.intro @s_guard @s_move)) (And.intro (And.intro @s_assign @s_pick) (And.intro @s_alloc @s_box)))) (And.intro (And.intro (And.intro (And.intro @s_build @s_buildSlice) (And.intro @s_load @s_store)) (And.intro (And.intro @s_nilCheck @s_binOp) (And.intro @s_unOp @s_convert))) (And.intro (And.intro (And.intro @s_makeInterface @s_makeFunc) (And.intro @s_slice @s_fieldAddr)) (And.intro (And.intro @s_field @s_indexAddr) (And.intro @s_index (And.intro (And.intro @s_typeAssert (And.intro @s_invoke @s_slice3)) (And.intro (And.intro (And.intro @s_makeSlice @s_makeMap) (And.intro @s_lookup @s_mapUpdate)) (And.intro (And.intro (And.intro @s_insert @s_range) (And.intro @s_next @s_entry)) (And.intro (And.intro @s_mapEntry @s_entryStore) (And.intro @s_copy (And.intro @s_delete @s_clear))))))))))) (And.intro (And.intro (And.intro (And.intro @s_extract (And.intro @s_call @s_append)) (And.intro (And.intro @s_len @s_min) (And.intro @s_max @l_nil))) (And.intro (And.intro (And.intro @l_guard @l_true) (And.intro @l_false @y_load)) (And.intro (And.intro @y_move @y_assign) (And.intro @y_pick @y_nilCheck)))) (And.intro (And.intro (And.intro (And.intro @y_binOp @y_unOp) (And.intro @y_len @y_fieldAddr)) (And.intro (And.intro @y_field @y_indexAddr) (And.intro @y_index @y_extract))) (And.intro (And.intro (And.intro @y_convert @y_build) (And.intro @y_slice @y_makeInterface)) (And.intro (And.intro @y_makeFunc @y_typeAssert) (And.intro @y_min @y_max))))))
abbrev RU := (And.intro (And.intro (And.intro (And.intro (And.intro @pureK_some (And.intro @pureK_none @pureK_ite)) (And.intro (And.intro @pureK_ite' @ptrK_some) (And.intro @ptrK_none @boolK_true))) (And.intro (And.intro (And.intro @boolK_false @boolK_decide) (And.intro @boolK_ndecide @guardK_tt)) (And.intro (And.intro @guardK_ff @guardK_tf) (And.intro @guardK_ft @guardK_none)))) (And.intro (And.intro (And.intro (And.intro @guardK_decide @guardK_decide') (And.intro @guardK_ndecide @guardK_ndecide')) (And.intro (And.intro @cells_int @cells_bool) (And.intro @cells_string @cells_pointer))) (And.intro (And.intro (And.intro @cells_slice @cells_map) (And.intro @cells_iface @cells_nilIface)) (And.intro (And.intro @cells_agg @fill_nil) (And.intro @fill_cons @putAt_nil))))) (And.intro (And.intro (And.intro (And.intro (And.intro @putAt_cons @add_lit') (And.intro @newK_some @bslK_some)) (And.intro (And.intro @fillK_some @ldK_cell) (And.intro @ldK_agg @stK_int))) (And.intro (And.intro (And.intro @stK_bool @stK_string) (And.intro @stK_pointer @stK_slice)) (And.intro (And.intro @stK_map @stK_iface) (And.intro @stK_nilIface @stK_func)))) (And.intro (And.intro (And.intro (And.intro @stK_agg @callK_func) (And.intro (And.intro @callK_clos @callK_ext) (And.intro (And.intro @tasK_true @tasK_false) @convK_int))) (And.intro (And.intro @convK_str @convK_bytes) (And.intro @convK_other @ldY_cell))) (And.intro (And.intro (And.intro @ldY_agg @put_some) (And.intro @put_none @ev_tmp)) (And.intro (And.intro @ev_const @ev_func) (And.intro @ev_global @upd_at))))))
abbrev RL := (And.intro (And.intro (And.intro (And.intro (And.intro @List.setIfInBounds_toArray.{0} @List.set_cons_zero.{0}) (And.intro @List.set_cons_succ.{0} (And.intro @List.size_toArray.{0} @List.length_cons.{0}))) (And.intro (And.intro @List.length_nil.{0} (And.intro @List.map_cons.{0, 0} @List.map_nil.{0, 0})) (And.intro @List.toList_toArray.{0} (And.intro @Option.map_some.{0, 0} @Option.map_none.{0, 0})))) (And.intro (And.intro (And.intro @Option.some.injEq.{0} (And.intro @Option.isNone_none.{0} @Option.isNone_some.{0})) (And.intro @Option.bind_some.{0, 0} (And.intro @Option.bind_none.{0, 0} @List.getElem?_toArray.{0}))) (And.intro (And.intro @List.getElem?_cons_zero.{0} (And.intro @List.getElem?_cons_succ.{0} @List.nil_append.{0})) (And.intro @List.append_nil.{0} (And.intro @List.cons_append.{0} @true_and))))) (And.intro (And.intro (And.intro (And.intro @and_true (And.intro @not_true_eq_false @not_false_eq_true)) (And.intro @true_implies (And.intro @false_implies @Bool.not_true))) (And.intro (And.intro @Bool.not_false (And.intro @Nat.le_refl @Nat.zero_add)) (And.intro @Nat.add_zero (And.intro @Nat.mul_one @Nat.one_mul)))) (And.intro (And.intro (And.intro @Nat.zero_mul (And.intro @Nat.mul_zero @Int.toNat_natCast)) (And.intro @Int.toNat_zero (And.intro @Bool.or_true @Bool.or_false))) (And.intro (And.intro @Bool.true_or (And.intro @Bool.false_or @Bool.and_true)) (And.intro @Bool.and_false (And.intro @Bool.true_and @Bool.false_and))))))

end Go.Proofs.YtcnebgokbjpjnaaGreat
