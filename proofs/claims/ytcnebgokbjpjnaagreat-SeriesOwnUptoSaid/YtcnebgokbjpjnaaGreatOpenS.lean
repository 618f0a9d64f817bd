/- Rows of samples and of steps, opened. -/
import Derived.Test.YtcnebgokbjpjnaaGreatLaw
import Derived.Test.YtcnebgokbjpjnaaGreatBulk
import Derived.Test.YtcnebgokbjpjnaaGreatSlSpec
set_option linter.unusedVariables false
set_option linter.unusedSimpArgs false
set_option maxRecDepth 100000
namespace Go.Proofs.YtcnebgokbjpjnaaGreat
open Go Go.ChangeShapes Go.WideShapes Go.ChangeAt Go.RowKit

section
variable {H : Type} {enc : TypeId × Value → H}
theorem wf_u8' {z : Int} (h : Lit.wf (.int .u8 z) = true) : 0 ≤ z ∧ z < 256 := by
  have h2 : 0 ≤ z ∧ z ≤ 255 := by simpa [Lit.wf, IntKind.min, IntKind.max, IntKind.signed, IntKind.bits] using h
  omega
theorem wf_i64' {z : Int} (h : Lit.wf (.int .i64 z) = true) : -9223372036854775808 ≤ z ∧ z < 9223372036854775808 := by
  have h2 : -9223372036854775808 ≤ z ∧ z ≤ 9223372036854775807 := by simpa [Lit.wf, IntKind.min, IntKind.max, IntKind.signed, IntKind.bits] using h
  omega
theorem sized_lenN {ts : List TypeId} {ds : List (DataW H)} (h : (DataW.weightsEach Tryz.prog ts ds).all (· ≤ reachBytes) = true) {j : Nat} {t e : TypeId} {d : DataW H} (ht : ts[j]? = some t) (hd : ds[j]? = some d)
    (hu : Tryz.prog.underlying t = some (.slice e)) {k : Nat} (hb : k ≤ Tryz.prog.bytesOf e) : lenD d * k ≤ 140737488351232 := by
  cases d with
  | slice es sp =>
    have h1 := sized_slice h ht hd hu
    have h2 : (es.length + sp.length) * k ≤ (es.length + sp.length) * Tryz.prog.bytesOf e := Nat.mul_le_mul_left _ hb
    have h3 : reachBytes = 140737488351232 := rfl
    have h4 : es.length * k ≤ (es.length + sp.length) * k := Nat.mul_le_mul_right _ (by omega)
    simp only [lenD]
    omega
  | _ => simp [lenD]

theorem list2' {α : Type} {l : List α} (h : l.length = 2) : ∃ a b, l = [a, b] := by
  match l, h with
  | [a, b], _ => exact ⟨a, b, rfl⟩
theorem open_rows {α : Type} {W : World} {t e : TypeId} {size base : Nat} (f : α → List Value) (Q : α → Prop) (ht : Tryz.prog.underlying t = some (.slice e)) (hc : Tryz.prog.cellsOf e = size)
    (hE : ∀ fuel cs (x : DataW H × List MemPlace), DataW.trod enc Tryz.prog W 0 (fun _ => true) true fuel e cs = some x → ∃ a, cs = f a ∧ Q a)
    {v : Value} {d : DataW H} {ps : List MemPlace} (h : DataW.Trod enc Tryz.prog W 0 (fun _ => true) true t v d ps) (hok : Value.okWide Tryz.prog W .any base t v) :
    ∃ (A : Option Addr) (n c : Nat) (l : List α), v = .slice A n c ∧ Rd W A n size (l.flatMap f) ∧ (∀ a ∈ l, Q a) ∧ n = lenD d ∧ l.length = n := by
  obtain ⟨fuel, h⟩ := h
  obtain ⟨A, n, c, rfl⟩ := okWide_slice ht hok
  obtain ⟨A', n', c', l, hcs, hR, _, hl, _, ds, sp, hx, hds, _, hq⟩ := open_list f (fun a _ => Q a) ht hc hE h
  simp only [Value.cells, List.cons.injEq, Value.slice.injEq, and_true] at hcs
  obtain ⟨rfl, rfl, rfl⟩ := hcs
  refine ⟨A, n, c, l, rfl, hR, fun z hz => ?_, ?_, hl⟩
  · obtain ⟨i, hi⟩ := List.mem_iff_getElem?.1 hz
    have : i < ds.length := by rw [hds, ← hl]; exact (List.getElem?_eq_some_iff.1 hi).1
    exact hq i z ds[i] hi (List.getElem?_eq_getElem this)
  · rcases hx with hx | ⟨hx, rfl, _⟩
    · simp only at hx; rw [hx, lenD, hds]
    · simp only at hx; rw [hx]; exact hds.symm
theorem open_val {W : World} {fuel : Nat} {cs : List Value} {x : DataW H × List MemPlace} (h : DataW.trod enc Tryz.prog W 0 (fun _ => true) true fuel 61 cs = some x) :
    ∃ v : Int × Int, cs = vcells v ∧ VOk v := by
  obtain ⟨xs, n, _, rfl, hl, hlen, hf⟩ := DataW.trod_struct Tryz.underlying61 h
  obtain ⟨c0, c1, rfl⟩ := list2' (hl.trans (show Tryz.prog.cellsOf 61 = 2 by kernel_rfl))
  obtain ⟨x0, x1, rfl⟩ := list2' hlen
  have f0 := hf 0 _ rfl
  have f1 := hf 1 _ rfl
  simp only [show Tryz.prog.cellsOf 59 = 1 by kernel_rfl, show Tryz.prog.cellsOf 2 = 1 by kernel_rfl, List.drop_zero, List.drop_succ_cons, List.take_succ_cons, List.take_zero, List.getElem_toArray, List.getElem_cons_zero, List.getElem_cons_succ, List.getElem?_cons_zero, List.getElem?_cons_succ] at f0 f1
  obtain ⟨k, e0, y0, w0⟩ := DataW.trod_int Tryz.underlying59 f0
  obtain ⟨z, e1, y1, w1⟩ := DataW.trod_int Tryz.underlying2 f1
  simp only [List.cons.injEq, and_true] at e0 e1
  subst e0; subst e1
  exact ⟨(k, z), rfl, wf_u8' w0, wf_i64' w1⟩
theorem open_smp {W : World} {fuel : Nat} {cs : List Value} {x : DataW H × List MemPlace} (h : DataW.trod enc Tryz.prog W 0 (fun _ => true) true fuel 89 cs = some x) :
    ∃ s : Int × Int × Int, cs = scells s ∧ SOk s := by
  obtain ⟨xs, n, _, rfl, hl, hlen, hf⟩ := DataW.trod_struct Tryz.underlying89 h
  obtain ⟨c0, c1, c2, rfl⟩ := list3 (hl.trans (show Tryz.prog.cellsOf 89 = 3 by kernel_rfl))
  obtain ⟨x0, x1, rfl⟩ := list2' hlen
  have f0 := hf 0 _ rfl
  have f1 := hf 1 _ rfl
  simp only [show Tryz.prog.cellsOf 61 = 2 by kernel_rfl, show Tryz.prog.cellsOf 2 = 1 by kernel_rfl, List.drop_zero, List.drop_succ_cons, List.take_succ_cons, List.take_zero, List.getElem_toArray, List.getElem_cons_zero, List.getElem_cons_succ, List.getElem?_cons_zero, List.getElem?_cons_succ] at f0 f1
  obtain ⟨t, e0, y0, w0⟩ := DataW.trod_int Tryz.underlying2 f0
  obtain ⟨v, e1, hv⟩ := open_val f1
  simp only [List.cons.injEq, and_true] at e0
  simp only [vcells, List.cons.injEq, and_true] at e1
  obtain ⟨e1, e2⟩ := e1
  subst e0; subst e1; subst e2
  exact ⟨(t, v), rfl, wf_i64' w0, hv⟩
theorem open_smps {W : World} {base : Nat} {v : Value} {d : DataW H} {ps : List MemPlace} (h : DataW.Trod enc Tryz.prog W 0 (fun _ => true) true 62 v d ps) (hok : Value.okWide Tryz.prog W .any base 62 v) :
    ∃ (A : Option Addr) (n c : Nat) (l : List (Int × Int × Int)), v = .slice A n c ∧ Rd W A n 3 (l.flatMap scells) ∧ (∀ z ∈ l, SOk z) ∧ n = lenD d ∧ l.length = n :=
  open_rows scells _ Tryz.underlying62 (size := 3) (by kernel_rfl) (fun fuel cs x h => open_smp h) h hok
theorem list6 {α : Type} {l : List α} (h : l.length = 6) : ∃ a b c d e f, l = [a, b, c, d, e, f] := by
  match l, h with
  | [a, b, c, d, e, f], _ => exact ⟨a, b, c, d, e, f, rfl⟩
theorem list5 {α : Type} {l : List α} (h : l.length = 5) : ∃ a b c d e, l = [a, b, c, d, e] := by
  match l, h with
  | [a, b, c, d, e], _ => exact ⟨a, b, c, d, e, rfl⟩
theorem open_smpsC {W : World} {fuel : Nat} {cs : List Value} {x : DataW H × List MemPlace} (h : DataW.trod enc Tryz.prog W 0 (fun _ => true) true fuel 62 cs = some x) :
    ∃ (A : Option Addr) (n c : Nat) (xs : List Smp), cs = [.slice A n c] ∧ Rd W A n 3 (xs.flatMap scells) ∧ (∀ s ∈ xs, SOk s) ∧ n = lenD x.1 ∧ n ≤ c := by
  obtain ⟨A, n, c, l, hcs, hR, hsz, hl, hnc, ds, sp, hx, hds, _, hq⟩ := open_list scells (fun s _ => SOk s) Tryz.underlying62 (size := 3) (by kernel_rfl) (fun fuel cs x h => open_smp h) h
  refine ⟨A, n, c, l, hcs, hR, fun z hz => ?_, ?_, hnc⟩
  · obtain ⟨i, hi⟩ := List.mem_iff_getElem?.1 hz
    have : i < ds.length := by rw [hds, ← hl]; exact (List.getElem?_eq_some_iff.1 hi).1
    exact hq i z ds[i] hi (List.getElem?_eq_getElem this)
  · rcases hx with hx | ⟨hx, rfl, _⟩
    · rw [hx, lenD, hds]
    · rw [hx]; exact hds.symm
theorem open_step {W : World} {fuel : Nat} {cs : List Value} {x : DataW H × List MemPlace} (h : DataW.trod enc Tryz.prog W 0 (fun _ => true) true fuel 64 cs = some x) :
    ∃ o : StepV, cs = o.cells ∧ (o.Ok W ∧ 1 + o.m ≤ Rows.uptoBulk x.1) := by
  obtain ⟨xs, n, _, rfl, hl, hlen, hf⟩ := DataW.trod_struct Tryz.underlying64 h
  obtain ⟨c0, c1, c2, c3, c4, c5, rfl⟩ := list6 (hl.trans (show Tryz.prog.cellsOf 64 = 6 by kernel_rfl))
  obtain ⟨x0, x1, x2, x3, x4, rfl⟩ := list5 hlen
  have f0 := hf 0 _ rfl
  have f1 := hf 1 _ rfl
  have f2 := hf 2 _ rfl
  have f3 := hf 3 _ rfl
  have f4 := hf 4 _ rfl
  simp only [show Tryz.prog.cellsOf 3 = 1 by kernel_rfl, show Tryz.prog.cellsOf 2 = 1 by kernel_rfl, show Tryz.prog.cellsOf 61 = 2 by kernel_rfl, show Tryz.prog.cellsOf 62 = 1 by kernel_rfl, List.drop_zero, List.drop_succ_cons, List.take_succ_cons, List.take_zero, List.getElem_toArray, List.getElem_cons_zero, List.getElem_cons_succ, List.getElem?_cons_zero, List.getElem?_cons_succ] at f0 f1 f2 f3 f4
  obtain ⟨k, e0, y0, w0⟩ := DataW.trod_int Tryz.underlying3 f0
  obtain ⟨t, e1, y1, w1⟩ := DataW.trod_int Tryz.underlying2 f1
  obtain ⟨u, e2, y2, w2⟩ := DataW.trod_int Tryz.underlying2 f2
  obtain ⟨v, e3, hv⟩ := open_val f3
  obtain ⟨A, m, c, zs, e4, hR, hz, hm, _⟩ := open_smpsC f4
  simp only [List.cons.injEq, and_true] at e0 e1 e2 e4
  simp only [vcells, List.cons.injEq, and_true] at e3
  obtain ⟨e3, e3'⟩ := e3
  subst e0; subst e1; subst e2; subst e3; subst e3'; subst e4
  refine ⟨⟨k, t, u, v, A, m, c, zs⟩, rfl, ⟨wf_i64' w1, wf_i64' w2, hv, hR, hz⟩, ?_⟩
  have := bulk_lenD x4.1
  simp only [List.map_cons, List.map_nil, Rows.uptoBulk, Rows.uptoBulkAll]
  omega
/-- steps, and samples in them. -/
def stot : List StepV → Nat
  | [] => 0
  | o :: l => 1 + o.m + stot l
theorem stot_bulk : ∀ (ops : List StepV) (ds : List (DataW H)), ops.length = ds.length → (∀ (i : Nat) o d, ops[i]? = some o → ds[i]? = some d → 1 + o.m ≤ Rows.uptoBulk d) → stot ops ≤ Rows.uptoBulkAll ds
  | [], _, _, _ => by simp [stot]
  | o :: ops, [], h, _ => by simp at h
  | o :: ops, d :: ds, h, hq => by
    have h0 := hq 0 o d rfl rfl
    have ih := stot_bulk ops ds (by simpa using h) (fun i a b ha hb => hq (i + 1) a b (by simpa using ha) (by simpa using hb))
    simp only [stot, Rows.uptoBulkAll]
    omega
theorem open_steps {W : World} {base : Nat} {v : Value} {d : DataW H} {ps : List MemPlace} (h : DataW.Trod enc Tryz.prog W 0 (fun _ => true) true 22 v d ps)
    (hok : Value.okWide Tryz.prog W .any base 22 v) :
    ∃ (A : Option Addr) (n c : Nat) (ops : List StepV), v = .slice A n c ∧ Rd W A n 6 (ops.flatMap StepV.cells) ∧ (∀ o ∈ ops, o.Ok W) ∧ n = lenD d ∧ stot ops ≤ Rows.uptoBulk d ∧ ops.length = n := by
  obtain ⟨fuel, h⟩ := h
  obtain ⟨A, n, c, rfl⟩ := okWide_slice Tryz.underlying22 hok
  obtain ⟨A', n', c', l, hcs, hR, _, hl, _, ds, sp, hx, hds, _, hq⟩ := open_list StepV.cells (fun o d => o.Ok W ∧ 1 + o.m ≤ Rows.uptoBulk d) Tryz.underlying22 (size := 6) (by kernel_rfl) (fun fuel cs x h => open_step h) h
  simp only [Value.cells, List.cons.injEq, Value.slice.injEq, and_true] at hcs
  obtain ⟨rfl, rfl, rfl⟩ := hcs
  have hb : Rows.uptoBulkAll ds ≤ Rows.uptoBulk d := by
    rcases hx with hx | ⟨_, rfl, _⟩
    · simp only at hx; rw [hx, Rows.uptoBulk]; omega
    · simp [Rows.uptoBulkAll]
  have ht := stot_bulk l ds (by omega) (fun i o d ho hd => (hq i o d ho hd).2)
  refine ⟨A, n, c, l, rfl, hR, fun o ho => ?_, ?_, by omega, hl⟩
  · obtain ⟨i, hi⟩ := List.mem_iff_getElem?.1 ho
    have : i < ds.length := by rw [hds, ← hl]; exact (List.getElem?_eq_some_iff.1 hi).1
    exact (hq i o ds[i] hi (List.getElem?_eq_getElem this)).1
  · rcases hx with hx | ⟨hx, rfl, _⟩
    · simp only at hx; rw [hx, lenD, hds]
    · simp only at hx; rw [hx]; exact hds.symm
end

end Go.Proofs.YtcnebgokbjpjnaaGreat
