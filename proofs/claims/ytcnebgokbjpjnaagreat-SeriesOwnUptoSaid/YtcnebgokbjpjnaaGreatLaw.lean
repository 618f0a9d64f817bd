/- How a law that says 'true' and leaves its arguments as they read is closed: once for all. -/
import Derived.Test.YtcnebgokbjpjnaaGreatRows
import Derived.Test.YtcnebgokbjpjnaaGreatMem
import Derived.ProofKit
import Derived.OpenShut
import Derived.SizedLaws
import Derived.JoinedCond
import Derived.Deep.CondSized
import Derived.Deep.Slices
set_option linter.unusedVariables false
set_option linter.unusedSimpArgs false
set_option maxRecDepth 100000
namespace Go.Proofs.YtcnebgokbjpjnaaGreat
open Go Go.ChangeShapes Go.WideShapes Go.ChangeAt Go.RowKit

theorem laws_own : ownKnob Tryz.prog.godebug = none := by kernel_rfl
theorem laws_laid : laidOutB Tryz.prog = true := by kernel_rfl

section
variable {H : Type} {enc : TypeId × Value → H}

/-- every argument reads as it did: nothing of what was there is turned. -/
theorem trodAll_grow {W W' : World} (g : Grow W W') : ∀ {ts : List TypeId} {vs : List Value} {ds : List (DataW H)} {ps : List MemPlace}, (∀ t ∈ ts, Tryz.prog.readableRec t = true ∧ t < Tryz.prog.types.size) →
    DataW.TrodAll enc Tryz.prog W 0 (fun _ => true) true ts vs ds ps → (∀ p ∈ ps, p.block < W.heap.size) → DataW.TrodAll enc Tryz.prog W' 0 (fun b => decide (b < W.heap.size)) true ts vs ds ps
  | [], _, _, _, _, h, _ => by
    obtain ⟨rfl, rfl, rfl⟩ := trodAll_nil h
    exact trodAll_mk0
  | t :: ts, _, _, _, hp, h, hlt => by
    obtain ⟨v, vs, d, ds, p, q, rfl, rfl, rfl, h0, hr⟩ := trodAll_cons h
    obtain ⟨h1, h2⟩ := hp t (by simp)
    exact trodAll_cons_mk (Below.trod laws_laid h1 h2 h0 g.below (fun x hx => hlt x (List.mem_append_left _ hx)))
      (trodAll_grow g (fun t ht => hp t (List.mem_cons_of_mem _ ht)) hr (fun x hx => hlt x (List.mem_append_right _ hx)))

theorem post_true {f : Func} {s : ChangeSpec} {W W' : World} {args : Array Value} {ds gs : List (DataW H)} {before : List MemPlace} {apart : Bool}
    (hW : DataW.Whole enc Tryz.prog f.params.toList s.vars apart W args.toList ds gs before) (hv : s.vars = [])
    (hf : s.fn H ds = { results := [.lit (.bool true)], args := ds }) (hrt : f.resultTypes = #[4])
    (hp : ∀ t ∈ f.params.toList, Tryz.prog.readableRec t = true ∧ t < Tryz.prog.types.size) (g : Grow W W') :
    s.post enc Tryz.prog f apart true false false W args (.bool true) W' := by
  have hlt := hW.lt
  have hW' := hW
  obtain ⟨p, q, hA, hV, rfl, hz, hn⟩ := hW
  rw [hv] at hV
  obtain ⟨rfl, rfl⟩ := trodVars_none hV
  simp only [List.append_nil] at hlt hf hW' ⊢
  refine ⟨ds, [], p, [], p, [], hW', ?_, ?_, ?_, ?_, fun h => nomatch h⟩
  · rw [List.append_nil, hf, hrt]
    exact trodAll_cons_mk (shut_bool Tryz.underlying4 _) trodAll_mk0
  · rw [List.append_nil, hf]
    exact trodAll_grow g hp hA hlt
  · rw [List.append_nil, hf, hv]
    rfl
  · exact g.below.frame _

/-- how many elements a reading's slice holds. -/
def lenD : DataW H → Nat
  | .slice es _ => es.length
  | _ => 0

theorem list_of_each {α : Type} (p : Nat → α → Prop) : ∀ n, (∀ i, i < n → ∃ a, p i a) → ∃ l : List α, l.length = n ∧ ∀ i a, l[i]? = some a → p i a
  | 0, _ => ⟨[], rfl, fun i a h => by simp at h⟩
  | n + 1, h => by
    obtain ⟨l, hl, hp⟩ := list_of_each p n (fun i hi => h i (by omega))
    obtain ⟨a, ha⟩ := h n (by omega)
    refine ⟨l ++ [a], by simp [hl], fun i b hb => ?_⟩
    rcases Nat.lt_or_ge i n with hi | hi
    · rw [List.getElem?_append_left (by omega)] at hb
      exact hp i b hb
    · rw [List.getElem?_append_right (by omega), hl] at hb
      have : i - n = 0 := by
        rcases Nat.eq_zero_or_pos (i - n) with h0 | h0
        · exact h0
        · rw [List.getElem?_eq_none (by simp; omega)] at hb; cases hb
      rw [this] at hb
      obtain rfl : i = n := by omega
      obtain rfl : a = b := by simpa using hb
      exact ha

/-- a slice that is read, element by element: what each cell's row is, and what is known of it. -/
theorem open_list {α : Type} {W : World} {t e : TypeId} {size : Nat} (f : α → List Value) (Q : α → DataW H → Prop) (ht : Tryz.prog.underlying t = some (.slice e)) (hc : Tryz.prog.cellsOf e = size)
    (hE : ∀ fuel cs x, DataW.trod enc Tryz.prog W 0 (fun _ => true) true fuel e cs = some x → ∃ a, cs = f a ∧ Q a x.1) {fuel : Nat} {cs : List Value} {x : DataW H × List MemPlace}
    (h : DataW.trod enc Tryz.prog W 0 (fun _ => true) true fuel t cs = some x) :
    ∃ (A : Option Addr) (n c : Nat) (l : List α), cs = [.slice A n c] ∧ Rd W A n size (l.flatMap f) ∧ (∀ a ∈ l, (f a).length = size) ∧ l.length = n ∧ n ≤ c ∧
      ∃ (ds sp : List (DataW H)), (x.1 = .slice ds sp ∨ (x.1 = .nil ∧ ds = [] ∧ sp = [])) ∧ ds.length = n ∧ sp.length = c - n ∧ ∀ (i : Nat) a d, l[i]? = some a → ds[i]? = some d → Q a d := by
  rcases Deep.open_slice ht h with ⟨hcs, hx⟩ | ⟨a, len, cap, m, n, D, Pl, hcs, _, hl, hm, hme, hx, hel⟩
  · subst hcs; subst hx
    exact ⟨none, 0, 0, [], rfl, Rd.nil _ _ _, by simp, rfl, Nat.le_refl _, [], [], .inr ⟨rfl, rfl, rfl⟩, rfl, rfl, fun i a d h => by simp at h⟩
  · subst hx
    simp only [if_true] at hme
    subst hme
    rw [hc] at hel
    obtain ⟨l, hll, hp⟩ := list_of_each (fun i b => W.cells? 0 (a.add (i * size)) size = some (f b) ∧ Q b (D i)) len (fun i hi => by
      obtain ⟨cs', h1, h2⟩ := hel i (by omega)
      obtain ⟨b, rfl, hq⟩ := hE n cs' _ h2
      exact ⟨b, h1, hq⟩)
    have hsz : ∀ b ∈ l, (f b).length = size := fun b hb => by
      obtain ⟨i, hi⟩ := List.mem_iff_getElem?.1 hb
      exact (World.cells?_some (hp i b hi).1).2.1
    have hfl := flat_len f l hsz
    refine ⟨some a, len, m, l, hcs, ⟨by rw [hfl, hll], fun _ => ⟨a, rfl, fun j u hu => ?_⟩⟩, hsz, hll, hl, (List.range len).map D, _, .inl rfl, by simp, by simp, fun i b d hb hd => ?_⟩
    · have hj : j < l.length * size := by rw [← hfl]; exact (List.getElem?_eq_some_iff.1 hu).1
      have h0 : 0 < size := by
        rcases Nat.eq_zero_or_pos size with h0 | h0
        · rw [h0] at hj; omega
        · exact h0
      have hk : j / size < l.length := (Nat.div_lt_iff_lt_mul h0).2 hj
      have hjm := Nat.div_add_mod j size
      have hlt := Nat.mod_lt j h0
      have hb : l[j / size]? = some l[j / size] := List.getElem?_eq_getElem hk
      have e1 := flat_get f l hsz hb hlt
      rw [show j / size * size + j % size = j by rw [Nat.mul_comm]; exact hjm] at e1
      have h2 := (World.cells?_some (hp _ _ hb).1).2.2 (j % size) hlt
      rw [add_add', show j / size * size + j % size = j by rw [Nat.mul_comm]; exact hjm] at h2
      rw [h2, ← e1]
      exact hu
    · have hi : i < len := by rw [← hll]; exact (List.getElem?_eq_some_iff.1 hb).1
      have : d = D i := by
        rw [List.getElem?_map, List.getElem?_range hi] at hd
        simpa using hd.symm
      subst this
      exact (hp i b hb).2

theorem flat_one {α β : Type} (f : α → β) : ∀ l : List α, l.flatMap (fun z => [f z]) = l.map f
  | [] => rfl
  | a :: l => by rw [List.flatMap_cons, flat_one f l]; rfl
theorem open_bytesC {W : World} {fuel : Nat} {cs : List Value} {x : DataW H × List MemPlace} (h : DataW.trod enc Tryz.prog W 0 (fun _ => true) true fuel 112 cs = some x) :
    ∃ (A : Option Addr) (n c : Nat) (xs : List Int), cs = [.slice A n c] ∧ Rd W A n 1 (xs.map (Value.int .u8)) ∧ (∀ x ∈ xs, 0 ≤ x ∧ x < 256) ∧ n = lenD x.1 ∧ n ≤ c := by
  obtain ⟨A, n, c, l, hcs, hR, hsz, hl, hnc, ds, sp, hx, hds, _, hq⟩ := open_list (fun z : Int => [Value.int .u8 z]) (fun z _ => 0 ≤ z ∧ z < 256) Tryz.underlying112 (size := 1) (by kernel_rfl) (fun fuel cs x h => by
    obtain ⟨z, rfl, _, hwf⟩ := DataW.trod_int Tryz.underlying5 h
    have h2 : 0 ≤ z ∧ z ≤ 255 := by simpa [Lit.wf, IntKind.min, IntKind.max, IntKind.signed, IntKind.bits] using hwf
    exact ⟨z, rfl, h2.1, by omega⟩) h
  refine ⟨A, n, c, l, hcs, ?_, fun z hz => ?_, ?_, hnc⟩
  · rw [← flat_one]; exact hR
  · obtain ⟨i, hi⟩ := List.mem_iff_getElem?.1 hz
    have : i < ds.length := by rw [hds, ← hl]; exact (List.getElem?_eq_some_iff.1 hi).1
    exact hq i z ds[i] hi (List.getElem?_eq_getElem this)
  · rcases hx with hx | ⟨hx, rfl, _⟩
    · rw [hx, lenD, hds]
    · rw [hx]; exact hds.symm

theorem open_bytes {W : World} {base : Nat} {v : Value} {d : DataW H} {ps : List MemPlace} (h : DataW.Trod enc Tryz.prog W 0 (fun _ => true) true 112 v d ps)
    (hok : Value.okWide Tryz.prog W .any base 112 v) :
    ∃ (A : Option Addr) (n c : Nat) (xs : List Int), v = .slice A n c ∧ Rd W A n 1 (xs.map (Value.int .u8)) ∧ (∀ x ∈ xs, 0 ≤ x ∧ x < 256) ∧ n = lenD d := by
  obtain ⟨fuel, h⟩ := h
  obtain ⟨A, n, c, rfl⟩ := okWide_slice Tryz.underlying112 hok
  obtain ⟨A', n', c', xs, hcs, hR, hx, hn, _⟩ := open_bytesC h
  simp only [Value.cells, List.cons.injEq, Value.slice.injEq, and_true] at hcs
  obtain ⟨rfl, rfl, rfl⟩ := hcs
  exact ⟨A, n, c, xs, rfl, hR, hx, hn⟩
theorem open_bytesK {W : World} {base : Nat} {v : Value} {d : DataW H} {ps : List MemPlace} (h : DataW.Trod enc Tryz.prog W 0 (fun _ => true) true 112 v d ps)
    (hok : Value.okWide Tryz.prog W .any base 112 v) :
    ∃ (A : Option Addr) (n c : Nat) (xs : List Int), v = .slice A n c ∧ Rd W A n 1 (xs.map (Value.int .u8)) ∧ (∀ x ∈ xs, 0 ≤ x ∧ x < 256) ∧ n = lenD d ∧ n ≤ c := by
  obtain ⟨fuel, h⟩ := h
  obtain ⟨A, n, c, rfl⟩ := okWide_slice Tryz.underlying112 hok
  obtain ⟨A', n', c', xs, hcs, hR, hx, hn, hnc⟩ := open_bytesC h
  simp only [Value.cells, List.cons.injEq, Value.slice.injEq, and_true] at hcs
  obtain ⟨rfl, rfl, rfl⟩ := hcs
  exact ⟨A, n, c, xs, rfl, hR, hx, hn, hnc⟩

/-- what the form says of a reading's reach, of the argument of number j, a slice of bytes. -/
theorem sized_lenD {ts : List TypeId} {ds : List (DataW H)} (h : (DataW.weightsEach Tryz.prog ts ds).all (· ≤ reachBytes) = true) {j : Nat} {t e : TypeId} {d : DataW H} (ht : ts[j]? = some t) (hd : ds[j]? = some d)
    (hu : Tryz.prog.underlying t = some (.slice e)) (hb : 1 ≤ Tryz.prog.bytesOf e) : lenD d ≤ 140737488355327 := by
  cases d with
  | slice es sp =>
    have h1 := sized_slice h ht hd hu
    have h2 : (es.length + sp.length) * 1 ≤ (es.length + sp.length) * Tryz.prog.bytesOf e := Nat.mul_le_mul_left _ hb
    have h3 : reachBytes = 140737488351232 := rfl
    simp only [lenD]
    omega
  | _ => simp [lenD]
end

end Go.Proofs.YtcnebgokbjpjnaaGreat
