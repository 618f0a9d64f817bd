/- A row of weirlaw03.Op, opened. -/
import Derived.Test.YtcjlhfmjcioeeaaBulk
import Derived.Test.YtcjlhfmjcioeeaaWrites
set_option linter.unusedVariables false
set_option linter.unusedSimpArgs false
set_option maxRecDepth 100000
namespace Go.Proofs.Ytcjlhfmjcioeeaa
open Go Go.ChangeShapes Go.WideShapes Go.ChangeAt Go.RowKit

section
variable {H : Type} {enc : TypeId × Value → H}
theorem open_op {W : World} {fuel : Nat} {cs : List Value} {x : DataW H × List MemPlace} (h : DataW.trod enc Try.prog W 0 (fun _ => true) true fuel 36 cs = some x) :
    ∃ o : OpV, cs = o.cells ∧ (o.Ok W ∧ 64 + o.m ≤ 64 * Rows.uptoBulk x.1) := by
  obtain ⟨xs, n, _, rfl, hl, hlen, hf⟩ := DataW.trod_struct Try.underlying36 h
  obtain ⟨c0, c1, c2, c3, rfl⟩ := list4 (hl.trans (show Try.prog.cellsOf 36 = 4 by kernel_rfl))
  obtain ⟨x0, x1, x2, x3, rfl⟩ := list4 hlen
  have f0 := hf 0 _ rfl
  have f1 := hf 1 _ rfl
  have f2 := hf 2 _ rfl
  have f3 := hf 3 _ rfl
  simp only [show Try.prog.cellsOf 3 = 1 by kernel_rfl, show Try.prog.cellsOf 34 = 1 by kernel_rfl, show Try.prog.cellsOf 22 = 1 by kernel_rfl, List.drop_zero, List.drop_succ_cons, List.take_succ_cons, List.take_zero, List.getElem_toArray, List.getElem_cons_zero, List.getElem_cons_succ, List.getElem?_cons_zero, List.getElem?_cons_succ] at f0 f1 f2 f3
  obtain ⟨k, e0, y0, w0⟩ := DataW.trod_int Try.underlying3 f0
  obtain ⟨nn, e1, y1, w1⟩ := DataW.trod_int Try.underlying34 f1
  obtain ⟨b, e2, y2, w2⟩ := DataW.trod_int Try.underlying3 f2
  obtain ⟨A, m, c, zs, e3, hR, hz, hm, _⟩ := open_bytesC f3
  simp only [List.cons.injEq, and_true] at e0 e1 e2 e3
  subst e0; subst e1; subst e2; subst e3
  have h1 := wf_u64 w1
  have h2 := wf_i64 w2
  refine ⟨⟨k, nn, b, A, m, c, zs⟩, rfl, ⟨h1.1, h1.2, h2.1, h2.2, hR, hz⟩, ?_⟩
  have := bulk_lenD x3.1
  simp only [List.map_cons, List.map_nil, Rows.uptoBulk, Rows.uptoBulkAll]
  omega

theorem tot_bulk : ∀ (ops : List OpV) (ds : List (DataW H)), ops.length = ds.length → (∀ (i : Nat) o d, ops[i]? = some o → ds[i]? = some d → 64 + o.m ≤ 64 * Rows.uptoBulk d) → tot ops ≤ 64 * Rows.uptoBulkAll ds
  | [], _, _, _ => by simp [tot]
  | o :: ops, [], h, _ => by simp at h
  | o :: ops, d :: ds, h, hq => by
    have h0 := hq 0 o d rfl rfl
    have ih := tot_bulk ops ds (by simpa using h) (fun i a b ha hb => hq (i + 1) a b (by simpa using ha) (by simpa using hb))
    simp only [tot, Rows.uptoBulkAll]
    omega

theorem open_op1 {W : World} {base : Nat} {v : Value} {d : DataW H} {ps : List MemPlace} (h : DataW.Trod enc Try.prog W 0 (fun _ => true) true 36 v d ps)
    (hok : Value.okWide Try.prog W .any base 36 v) : ∃ o : OpV, v = .agg o.cells.toArray ∧ o.Ok W ∧ 64 + o.m ≤ 64 * Rows.uptoBulk d := by
  obtain ⟨fuel, h⟩ := h
  obtain ⟨cs, rfl⟩ := okWide_struct Try.underlying36 hok
  obtain ⟨o, ho, h1, h2⟩ := open_op h
  simp only [Value.cells] at ho
  refine ⟨o, ?_, h1, h2⟩
  rw [← ho]
theorem open_ops {W : World} {base : Nat} {v : Value} {d : DataW H} {ps : List MemPlace} (h : DataW.Trod enc Try.prog W 0 (fun _ => true) true 27 v d ps)
    (hok : Value.okWide Try.prog W .any base 27 v) :
    ∃ (A : Option Addr) (n c : Nat) (ops : List OpV), v = .slice A n c ∧ Rd W A n 4 (ops.flatMap OpV.cells) ∧ (∀ o ∈ ops, o.Ok W) ∧ n ≤ Rows.uptoBulk d ∧ tot ops ≤ 64 * Rows.uptoBulk d := by
  obtain ⟨fuel, h⟩ := h
  obtain ⟨A, n, c, rfl⟩ := okWide_slice Try.underlying27 hok
  obtain ⟨A', n', c', l, hcs, hR, _, hl, _, ds, sp, hx, hds, _, hq⟩ := open_list OpV.cells (fun o d => o.Ok W ∧ 64 + o.m ≤ 64 * Rows.uptoBulk d) Try.underlying27 (size := 4) (by kernel_rfl) (fun fuel cs x h => open_op h) h
  simp only [Value.cells, List.cons.injEq, Value.slice.injEq, and_true] at hcs
  obtain ⟨rfl, rfl, rfl⟩ := hcs
  have hb : Rows.uptoBulkAll ds ≤ Rows.uptoBulk d := by
    rcases hx with hx | ⟨_, rfl, _⟩
    · simp only at hx; rw [hx, Rows.uptoBulk]; omega
    · simp [Rows.uptoBulkAll]
  have hn := bulk_len ds
  have ht := tot_bulk l ds (by omega) (fun i o d ho hd => (hq i o d ho hd).2)
  refine ⟨A, n, c, l, rfl, hR, fun o ho => ?_, by omega, by omega⟩
  obtain ⟨i, hi⟩ := List.mem_iff_getElem?.1 ho
  have : i < ds.length := by rw [hds, ← hl]; exact (List.getElem?_eq_some_iff.1 hi).1
  exact (hq i o ds[i] hi (List.getElem?_eq_getElem this)).1
end

end Go.Proofs.Ytcjlhfmjcioeeaa
