/- Series and writes, opened. -/
import Derived.Test.YtifaobnemnbfhaaOpenS
import Derived.Test.YtifaobnemnbfhaaMrgW
set_option linter.unusedVariables false
set_option linter.unusedSimpArgs false
set_option maxRecDepth 100000
namespace Go.Proofs.Ytifaobnemnbfhaa
open Go Go.ChangeShapes Go.WideShapes Go.ChangeAt Go.RowKit

section
variable {H : Type} {enc : TypeId × Value → H}
theorem open_tag {W : World} {fuel : Nat} {cs : List Value} {x : DataW H × List MemPlace} (h : DataW.trod enc Try.prog W 0 (fun _ => true) true fuel 83 cs = some x) :
    ∃ t : Tg, cs = tcells t := by
  obtain ⟨xs, n, _, rfl, hl, hlen, hf⟩ := DataW.trod_struct Try.underlying83 h
  obtain ⟨c0, c1, rfl⟩ := list2' (hl.trans (show Try.prog.cellsOf 83 = 2 by kernel_rfl))
  obtain ⟨x0, x1, rfl⟩ := list2' hlen
  have f0 := hf 0 _ rfl
  have f1 := hf 1 _ rfl
  simp only [show Try.prog.cellsOf 9 = 1 by kernel_rfl, List.drop_zero, List.drop_succ_cons, List.take_succ_cons, List.take_zero, List.getElem_toArray, List.getElem_cons_zero, List.getElem_cons_succ, List.getElem?_cons_zero, List.getElem?_cons_succ] at f0 f1
  obtain ⟨k, e0, _⟩ := DataW.trod_string Try.underlying9 f0
  obtain ⟨z, e1, _⟩ := DataW.trod_string Try.underlying9 f1
  simp only [List.cons.injEq, and_true] at e0 e1
  subst e0; subst e1
  exact ⟨(k, z), rfl⟩
theorem open_tagsC {W : World} {fuel : Nat} {cs : List Value} {x : DataW H × List MemPlace} (h : DataW.trod enc Try.prog W 0 (fun _ => true) true fuel 23 cs = some x) :
    ∃ (A : Option Addr) (n c : Nat) (l : List Tg), cs = [.slice A n c] ∧ RdT W A n l ∧ n + 1 ≤ Rows.uptoBulk x.1 := by
  obtain ⟨A, n, c, l, hcs, hR, _, hl, _, ds, sp, hx, hds, _, _⟩ := open_list tcells (fun _ _ => True) Try.underlying23 (size := 2) (by kernel_rfl) (fun fuel cs x h => by obtain ⟨t, ht⟩ := open_tag h; exact ⟨t, ht, trivial⟩) h
  refine ⟨A, n, c, l, hcs, hR, ?_⟩
  have hb := bulk_lenD x.1
  rcases hx with hx | ⟨hx, rfl, _⟩
  · rw [hx] at hb ⊢; rw [lenD, hds] at hb; exact hb
  · rw [hx]; simp only [List.length_nil] at hds; have := bulk_one (DataW.nil : DataW H); omega
/-- a series as it was handed in. -/
def SerV.Pre (W : World) (v : SerV) (b : Nat) : Prop := RdT W v.A v.n v.s.tags ∧ v.n ≤ b
theorem open_ser {W : World} {fuel : Nat} {cs : List Value} {x : DataW H × List MemPlace} (h : DataW.trod enc Try.prog W 0 (fun _ => true) true fuel 25 cs = some x) :
    ∃ v : SerV, cs = v.cells ∧ v.Pre W (Rows.uptoBulk x.1) := by
  obtain ⟨xs, n, _, rfl, hl, hlen, hf⟩ := DataW.trod_struct Try.underlying25 h
  obtain ⟨c0, c1, c2, rfl⟩ := list3 (hl.trans (show Try.prog.cellsOf 25 = 3 by kernel_rfl))
  obtain ⟨x0, x1, x2, rfl⟩ := list3 hlen
  have f0 := hf 0 _ rfl
  have f1 := hf 1 _ rfl
  have f2 := hf 2 _ rfl
  simp only [show Try.prog.cellsOf 9 = 1 by kernel_rfl, show Try.prog.cellsOf 23 = 1 by kernel_rfl, List.drop_zero, List.drop_succ_cons, List.take_succ_cons, List.take_zero, List.getElem_toArray, List.getElem_cons_zero, List.getElem_cons_succ, List.getElem?_cons_zero, List.getElem?_cons_succ] at f0 f1 f2
  obtain ⟨k, e0, _⟩ := DataW.trod_string Try.underlying9 f0
  obtain ⟨A, m, c, l, e1, hR, hb⟩ := open_tagsC f1
  obtain ⟨z, e2, _⟩ := DataW.trod_string Try.underlying9 f2
  simp only [List.cons.injEq, and_true] at e0 e1 e2
  subst e0; subst e1; subst e2
  refine ⟨⟨⟨k, l, z⟩, A, m, c⟩, rfl, hR, ?_⟩
  simp only [List.map_cons, List.map_nil, Rows.uptoBulk, Rows.uptoBulkAll]
  omega
/-- a write as it was handed in. -/
def WrV.Pre (W : World) (v : WrV) (b : Nat) : Prop := v.s.Pre W b ∧ SOk v.x
theorem WrV.Pre.ok {W : World} {v : WrV} {b : Nat} (h : v.Pre W b) (hb : b ≤ 1048576) : v.Ok W := ⟨⟨h.1.1, by have := h.1.2; omega⟩, h.2⟩
theorem WrV.Pre.mono {W : World} {v : WrV} {b b' : Nat} (h : v.Pre W b) (hb : b ≤ b') : v.Pre W b' := ⟨⟨h.1.1, Nat.le_trans h.1.2 hb⟩, h.2⟩
theorem open_wr {W : World} {fuel : Nat} {cs : List Value} {x : DataW H × List MemPlace} (h : DataW.trod enc Try.prog W 0 (fun _ => true) true fuel 37 cs = some x) :
    ∃ v : WrV, cs = v.cells ∧ v.Pre W (Rows.uptoBulk x.1) := by
  obtain ⟨xs, n, _, rfl, hl, hlen, hf⟩ := DataW.trod_struct Try.underlying37 h
  obtain ⟨c0, c1, c2, c3, c4, c5, rfl⟩ := list6 (hl.trans (show Try.prog.cellsOf 37 = 6 by kernel_rfl))
  obtain ⟨x0, x1, rfl⟩ := list2' hlen
  have f0 := hf 0 _ rfl
  have f1 := hf 1 _ rfl
  simp only [show Try.prog.cellsOf 25 = 3 by kernel_rfl, show Try.prog.cellsOf 35 = 3 by kernel_rfl, List.drop_zero, List.drop_succ_cons, List.take_succ_cons, List.take_zero, List.getElem_toArray, List.getElem_cons_zero, List.getElem_cons_succ, List.getElem?_cons_zero, List.getElem?_cons_succ] at f0 f1
  obtain ⟨v, e0, hv⟩ := open_ser f0
  obtain ⟨s, e1, hs⟩ := open_smp f1
  simp only [SerV.cells, scells, List.cons.injEq, and_true] at e0 e1
  obtain ⟨rfl, rfl, rfl⟩ := e0
  obtain ⟨rfl, rfl, rfl⟩ := e1
  refine ⟨⟨v, s⟩, rfl, ⟨hv.1, ?_⟩, hs⟩
  have := hv.2
  simp only [List.map_cons, List.map_nil, Rows.uptoBulk, Rows.uptoBulkAll]
  omega
theorem open_wrsC {W : World} {fuel : Nat} {cs : List Value} {x : DataW H × List MemPlace} (h : DataW.trod enc Try.prog W 0 (fun _ => true) true fuel 28 cs = some x) :
    ∃ s : WS, cs = [s.cell] ∧ s.Ok W ∧ (∀ y ∈ s.l, y.Pre W (Rows.uptoBulk x.1)) ∧ s.n + 1 ≤ Rows.uptoBulk x.1 := by
  obtain ⟨A, n, c, l, hcs, hR, _, hl, _, ds, sp, hx, hds, _, hq⟩ := open_list WrV.cells (fun (y : WrV) d => y.Pre W (Rows.uptoBulk d)) Try.underlying28 (size := 6) (by kernel_rfl) (fun fuel cs x h => open_wr h) h
  refine ⟨⟨A, n, c, l⟩, hcs, hR, fun y hy => ?_, ?_⟩
  · obtain ⟨i, hi⟩ := List.mem_iff_getElem?.1 hy
    have hid : i < ds.length := by rw [hds, ← hl]; exact (List.getElem?_eq_some_iff.1 hi).1
    refine (hq i y ds[i] hi (List.getElem?_eq_getElem hid)).mono ?_
    have hm := bulk_mem (d := ds[i]) (List.getElem_mem hid)
    rcases hx with hx | ⟨hx, rfl, _⟩
    · rw [hx]; simp only [Rows.uptoBulk]; omega
    · simp at hid
  · have hb := bulk_lenD x.1
    rcases hx with hx | ⟨hx, rfl, _⟩
    · rw [hx] at hb ⊢; rw [lenD, hds] at hb; exact hb
    · rw [hx]; simp only [List.length_nil] at hds; have := bulk_one (DataW.nil : DataW H); show n + 1 ≤ _; omega
theorem sum_bulk : ∀ (xs : List WS) (ds : List (DataW H)), xs.length = ds.length → (∀ (i : Nat) (x : WS) d, xs[i]? = some x → ds[i]? = some d → x.l.length + 1 ≤ Rows.uptoBulk d) → (allW xs).length + xs.length ≤ Rows.uptoBulkAll ds
  | [], _, _, _ => by simp [allW]
  | x :: xs, [], h, _ => by simp at h
  | x :: xs, d :: ds, h, hq => by
    have h0 := hq 0 x d rfl rfl
    have ih := sum_bulk xs ds (by simpa using h) (fun i a b ha hb => hq (i + 1) a b (by simpa using ha) (by simpa using hb))
    simp only [allW, List.flatMap_cons, List.length_append, List.length_cons, Rows.uptoBulkAll] at ih ⊢
    omega
theorem open_wss {W : World} {base : Nat} {v : Value} {d : DataW H} {ps : List MemPlace} (h : DataW.Trod enc Try.prog W 0 (fun _ => true) true 22 v d ps) (hok : Value.okWide Try.prog W .any base 22 v) :
    ∃ (B : Option Addr) (m c : Nat) (xs : List WS), v = .slice B m c ∧ Rd W B m 1 (xs.map WS.cell) ∧ (∀ x ∈ xs, x.Ok W ∧ ∀ y ∈ x.l, y.Pre W (Rows.uptoBulk d)) ∧ (allW xs).length + m ≤ Rows.uptoBulk d := by
  obtain ⟨fuel, h⟩ := h
  obtain ⟨A, n, c, rfl⟩ := okWide_slice Try.underlying22 hok
  obtain ⟨A', n', c', l, hcs, hR, _, hl, _, ds, sp, hx, hds, _, hq⟩ := open_list (fun s : WS => [s.cell]) (fun (s : WS) d => s.Ok W ∧ (∀ y ∈ s.l, y.Pre W (Rows.uptoBulk d)) ∧ s.n + 1 ≤ Rows.uptoBulk d) Try.underlying22 (size := 1) (by kernel_rfl) (fun fuel cs x h => open_wrsC h) h
  simp only [Value.cells, List.cons.injEq, Value.slice.injEq, and_true] at hcs
  obtain ⟨rfl, rfl, rfl⟩ := hcs
  have hflat : ∀ xs : List WS, xs.flatMap (fun s => [s.cell]) = xs.map WS.cell := fun xs => by induction xs with
    | nil => rfl
    | cons a xs ih => rw [List.flatMap_cons, ih]; rfl
  rw [hflat] at hR
  have hall : Rows.uptoBulkAll ds ≤ Rows.uptoBulk d := by
    rcases hx with hx | ⟨hx, rfl, _⟩
    · simp only at hx; rw [hx]; simp only [Rows.uptoBulk]; omega
    · simp [Rows.uptoBulkAll]
  refine ⟨A, n, c, l, rfl, hR, fun x hx' => ?_, ?_⟩
  · obtain ⟨i, hi⟩ := List.mem_iff_getElem?.1 hx'
    have hid : i < ds.length := by rw [hds, ← hl]; exact (List.getElem?_eq_some_iff.1 hi).1
    obtain ⟨h1, h2, _⟩ := hq i x ds[i] hi (List.getElem?_eq_getElem hid)
    have hm := bulk_mem (d := ds[i]) (List.getElem_mem hid)
    exact ⟨h1, fun y hy => (h2 y hy).mono (by omega)⟩
  · have := sum_bulk l ds (by omega) (fun i x d hx hd => by
      obtain ⟨h1, _, h3⟩ := hq i x d hx hd
      rw [h1.wlen]; exact h3)
    omega
theorem open_ser1 {W : World} {base : Nat} {v : Value} {d : DataW H} {ps : List MemPlace} (h : DataW.Trod enc Try.prog W 0 (fun _ => true) true 25 v d ps) (hok : Value.okWide Try.prog W .any base 25 v) :
    ∃ s : SerV, v = .agg s.cells.toArray ∧ s.Pre W (Rows.uptoBulk d) := by
  obtain ⟨fuel, h⟩ := h
  obtain ⟨cs, rfl⟩ := okWide_struct Try.underlying25 hok
  obtain ⟨s, hs, hp⟩ := open_ser h
  refine ⟨s, ?_, hp⟩
  rw [← hs]
  simp [Value.cells]
end

end Go.Proofs.Ytifaobnemnbfhaa
