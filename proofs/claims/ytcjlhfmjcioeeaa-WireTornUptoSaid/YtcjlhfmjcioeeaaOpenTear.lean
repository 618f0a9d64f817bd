/- weirlaw03.Tear, opened. -/
import Derived.Test.YtcjlhfmjcioeeaaBulk
set_option linter.unusedVariables false
set_option linter.unusedSimpArgs false
set_option maxRecDepth 100000
namespace Go.Proofs.Ytcjlhfmjcioeeaa
open Go Go.ChangeShapes Go.WideShapes Go.ChangeAt Go.RowKit

section
variable {H : Type} {enc : TypeId × Value → H}
theorem open_tear {W : World} {base : Nat} {v : Value} {d : DataW H} {ps : List MemPlace} (h : DataW.Trod enc Try.prog W 0 (fun _ => true) true 43 v d ps)
    (hok : Value.okWide Try.prog W .any base 43 v) :
    ∃ (a b : Int) (A : Option Addr) (m c : Nat) (zs : List Int), v = .agg #[.int .i64 a, .int .u8 b, .slice A m c] ∧ -9223372036854775808 ≤ a ∧ a < 9223372036854775808 ∧ 0 ≤ b ∧ b < 256 ∧
      Rd W A m 1 (zs.map (Value.int .u8)) ∧ (∀ z ∈ zs, 0 ≤ z ∧ z < 256) ∧ m ≤ Rows.uptoBulk d := by
  obtain ⟨fuel, h⟩ := h
  obtain ⟨cs, rfl⟩ := okWide_struct Try.underlying43 hok
  obtain ⟨xs, n, _, hx, hl, hlen, hf⟩ := DataW.trod_struct Try.underlying43 h
  simp only [Prod.mk.injEq] at hx
  obtain ⟨rfl, rfl⟩ := hx
  simp only [Value.cells] at hl hf
  obtain ⟨c0, c1, c2, hcs⟩ := list3 (hl.trans (show Try.prog.cellsOf 43 = 3 by kernel_rfl))
  obtain ⟨x0, x1, x2, rfl⟩ := list3 hlen
  have f0 := hf 0 _ rfl
  have f1 := hf 1 _ rfl
  have f2 := hf 2 _ rfl
  rw [hcs] at f0 f1 f2
  simp only [show Try.prog.cellsOf 3 = 1 by kernel_rfl, show Try.prog.cellsOf 5 = 1 by kernel_rfl, show Try.prog.cellsOf 22 = 1 by kernel_rfl, List.drop_zero, List.drop_succ_cons, List.take_succ_cons, List.take_zero, List.getElem_toArray, List.getElem_cons_zero, List.getElem_cons_succ, List.getElem?_cons_zero, List.getElem?_cons_succ] at f0 f1 f2
  obtain ⟨k, e0, y0, w0⟩ := DataW.trod_int Try.underlying3 f0
  obtain ⟨nn, e1, y1, w1⟩ := DataW.trod_int Try.underlying5 f1
  obtain ⟨A, m, c, zs, e2, hR, hz, hm, _⟩ := open_bytesC f2
  simp only [List.cons.injEq, and_true] at e0 e1 e2
  subst e0; subst e1; subst e2
  have h1 := wf_u8 w1
  have h2 := wf_i64 w0
  refine ⟨k, nn, A, m, c, zs, ?_, h2.1, h2.2, h1.1, h1.2, hR, hz, ?_⟩
  · rw [show cs = cs.toList.toArray from Array.toArray_toList.symm, hcs]
  · have := bulk_lenD x2.1
    simp only [List.map_cons, List.map_nil, Rows.uptoBulk, Rows.uptoBulkAll]
    omega
end

end Go.Proofs.Ytcjlhfmjcioeeaa
