/- Rows of samples and of steps, opened. -/
/- Series and writes, opened. -/
/- Points, opened. -/
import Derived.Test.YtljgnocpijniiaaGreatDoorLaw
import Derived.Test.YtljgnocpijniiaaGreatDoorBulk
import Derived.Test.YtljgnocpijniiaaGreatDoorSmpS
import Derived.Test.YtljgnocpijniiaaGreatDoorOrdWO
import Derived.Test.YtljgnocpijniiaaGreatDoorChk
import Derived.Test.YtljgnocpijniiaaGreatDoorMrgR
set_option linter.unusedVariables false
set_option linter.unusedSimpArgs false
set_option maxRecDepth 100000
namespace Go.Proofs.YtljgnocpijniiaaGreatDoor
open Go Go.ChangeShapes Go.WideShapes Go.ChangeAt Go.RowKit

section
variable {H : Type} {enc : TypeId × Value → H}
theorem wf_u8' {z : Int} (h : Lit.wf (.int .u8 z) = true) : 0 ≤ z ∧ z < 256 := by
  have h2 : 0 ≤ z ∧ z ≤ 255 := by simpa [Lit.wf, IntKind.min, IntKind.max, IntKind.signed, IntKind.bits] using h
  omega
theorem wf_i64' {z : Int} (h : Lit.wf (.int .i64 z) = true) : -9223372036854775808 ≤ z ∧ z < 9223372036854775808 := by
  have h2 : -9223372036854775808 ≤ z ∧ z ≤ 9223372036854775807 := by simpa [Lit.wf, IntKind.min, IntKind.max, IntKind.signed, IntKind.bits] using h
  omega
theorem sized_lenN {ts : List TypeId} {ds : List (DataW H)} (h : (DataW.weightsEach Tryz.prog ts ds).all (· ≤ reachBytes) = true) {j : Nat} {t e : TypeId} {d : DataW H} (ht : ts[j]? = some t) (hd : ds[j]? = some d)
    (hu : Tryz.prog.underlying t = some (.slice e)) {k : Nat} (hb : k ≤ Tryz.prog.bytesOf e) : lenD d * k ≤ 140737488351232 := by
  cases d with
  | slice es sp =>
    have h1 := sized_slice h ht hd hu
    have h2 : (es.length + sp.length) * k ≤ (es.length + sp.length) * Tryz.prog.bytesOf e := Nat.mul_le_mul_left _ hb
    have h3 : reachBytes = 140737488351232 := rfl
    have h4 : es.length * k ≤ (es.length + sp.length) * k := Nat.mul_le_mul_right _ (by omega)
    simp only [lenD]
    omega
  | _ => simp [lenD]

theorem list2' {α : Type} {l : List α} (h : l.length = 2) : ∃ a b, l = [a, b] := by
  match l, h with
  | [a, b], _ => exact ⟨a, b, rfl⟩
theorem open_rows {α : Type} {W : World} {t e : TypeId} {size base : Nat} (f : α → List Value) (Q : α → Prop) (ht : Tryz.prog.underlying t = some (.slice e)) (hc : Tryz.prog.cellsOf e = size)
    (hE : ∀ fuel cs (x : DataW H × List MemPlace), DataW.trod enc Tryz.prog W 0 (fun _ => true) true fuel e cs = some x → ∃ a, cs = f a ∧ Q a)
    {v : Value} {d : DataW H} {ps : List MemPlace} (h : DataW.Trod enc Tryz.prog W 0 (fun _ => true) true t v d ps) (hok : Value.okWide Tryz.prog W .any base t v) :
    ∃ (A : Option Addr) (n c : Nat) (l : List α), v = .slice A n c ∧ Rd W A n size (l.flatMap f) ∧ (∀ a ∈ l, Q a) ∧ n = lenD d ∧ l.length = n := by
  obtain ⟨fuel, h⟩ := h
  obtain ⟨A, n, c, rfl⟩ := okWide_slice ht hok
  obtain ⟨A', n', c', l, hcs, hR, _, hl, _, ds, sp, hx, hds, _, hq⟩ := open_list f (fun a _ => Q a) ht hc hE h
  simp only [Value.cells, List.cons.injEq, Value.slice.injEq, and_true] at hcs
  obtain ⟨rfl, rfl, rfl⟩ := hcs
  refine ⟨A, n, c, l, rfl, hR, fun z hz => ?_, ?_, hl⟩
  · obtain ⟨i, hi⟩ := List.mem_iff_getElem?.1 hz
    have : i < ds.length := by rw [hds, ← hl]; exact (List.getElem?_eq_some_iff.1 hi).1
    exact hq i z ds[i] hi (List.getElem?_eq_getElem this)
  · rcases hx with hx | ⟨hx, rfl, _⟩
    · simp only at hx; rw [hx, lenD, hds]
    · simp only at hx; rw [hx]; exact hds.symm
theorem open_val {W : World} {fuel : Nat} {cs : List Value} {x : DataW H × List MemPlace} (h : DataW.trod enc Tryz.prog W 0 (fun _ => true) true fuel 56 cs = some x) :
    ∃ v : Int × Int, cs = vcells v ∧ VOk v := by
  obtain ⟨xs, n, _, rfl, hl, hlen, hf⟩ := DataW.trod_struct Tryz.underlying56 h
  obtain ⟨c0, c1, rfl⟩ := list2' (hl.trans (show Tryz.prog.cellsOf 56 = 2 by kernel_rfl))
  obtain ⟨x0, x1, rfl⟩ := list2' hlen
  have f0 := hf 0 _ rfl
  have f1 := hf 1 _ rfl
  simp only [show Tryz.prog.cellsOf 54 = 1 by kernel_rfl, show Tryz.prog.cellsOf 2 = 1 by kernel_rfl, List.drop_zero, List.drop_succ_cons, List.take_succ_cons, List.take_zero, List.getElem_toArray, List.getElem_cons_zero, List.getElem_cons_succ, List.getElem?_cons_zero, List.getElem?_cons_succ] at f0 f1
  obtain ⟨k, e0, y0, w0⟩ := DataW.trod_int Tryz.underlying54 f0
  obtain ⟨z, e1, y1, w1⟩ := DataW.trod_int Tryz.underlying2 f1
  simp only [List.cons.injEq, and_true] at e0 e1
  subst e0; subst e1
  exact ⟨(k, z), rfl, wf_u8' w0, wf_i64' w1⟩
theorem open_smp {W : World} {fuel : Nat} {cs : List Value} {x : DataW H × List MemPlace} (h : DataW.trod enc Tryz.prog W 0 (fun _ => true) true fuel 58 cs = some x) :
    ∃ s : Int × Int × Int, cs = scells s ∧ SOk s := by
  obtain ⟨xs, n, _, rfl, hl, hlen, hf⟩ := DataW.trod_struct Tryz.underlying58 h
  obtain ⟨c0, c1, c2, rfl⟩ := list3 (hl.trans (show Tryz.prog.cellsOf 58 = 3 by kernel_rfl))
  obtain ⟨x0, x1, rfl⟩ := list2' hlen
  have f0 := hf 0 _ rfl
  have f1 := hf 1 _ rfl
  simp only [show Tryz.prog.cellsOf 56 = 2 by kernel_rfl, show Tryz.prog.cellsOf 2 = 1 by kernel_rfl, List.drop_zero, List.drop_succ_cons, List.take_succ_cons, List.take_zero, List.getElem_toArray, List.getElem_cons_zero, List.getElem_cons_succ, List.getElem?_cons_zero, List.getElem?_cons_succ] at f0 f1
  obtain ⟨t, e0, y0, w0⟩ := DataW.trod_int Tryz.underlying2 f0
  obtain ⟨v, e1, hv⟩ := open_val f1
  simp only [List.cons.injEq, and_true] at e0
  simp only [vcells, List.cons.injEq, and_true] at e1
  obtain ⟨e1, e2⟩ := e1
  subst e0; subst e1; subst e2
  exact ⟨(t, v), rfl, wf_i64' w0, hv⟩
theorem open_smps {W : World} {base : Nat} {v : Value} {d : DataW H} {ps : List MemPlace} (h : DataW.Trod enc Tryz.prog W 0 (fun _ => true) true 167 v d ps) (hok : Value.okWide Tryz.prog W .any base 167 v) :
    ∃ (A : Option Addr) (n c : Nat) (l : List (Int × Int × Int)), v = .slice A n c ∧ Rd W A n 3 (l.flatMap scells) ∧ (∀ z ∈ l, SOk z) ∧ n = lenD d ∧ l.length = n :=
  open_rows scells _ Tryz.underlying167 (size := 3) (by kernel_rfl) (fun fuel cs x h => open_smp h) h hok
theorem list6 {α : Type} {l : List α} (h : l.length = 6) : ∃ a b c d e f, l = [a, b, c, d, e, f] := by
  match l, h with
  | [a, b, c, d, e, f], _ => exact ⟨a, b, c, d, e, f, rfl⟩
theorem list5 {α : Type} {l : List α} (h : l.length = 5) : ∃ a b c d e, l = [a, b, c, d, e] := by
  match l, h with
  | [a, b, c, d, e], _ => exact ⟨a, b, c, d, e, rfl⟩
theorem open_smpsC {W : World} {fuel : Nat} {cs : List Value} {x : DataW H × List MemPlace} (h : DataW.trod enc Tryz.prog W 0 (fun _ => true) true fuel 167 cs = some x) :
    ∃ (A : Option Addr) (n c : Nat) (xs : List Smp), cs = [.slice A n c] ∧ Rd W A n 3 (xs.flatMap scells) ∧ (∀ s ∈ xs, SOk s) ∧ n = lenD x.1 ∧ n ≤ c := by
  obtain ⟨A, n, c, l, hcs, hR, hsz, hl, hnc, ds, sp, hx, hds, _, hq⟩ := open_list scells (fun s _ => SOk s) Tryz.underlying167 (size := 3) (by kernel_rfl) (fun fuel cs x h => open_smp h) h
  refine ⟨A, n, c, l, hcs, hR, fun z hz => ?_, ?_, hnc⟩
  · obtain ⟨i, hi⟩ := List.mem_iff_getElem?.1 hz
    have : i < ds.length := by rw [hds, ← hl]; exact (List.getElem?_eq_some_iff.1 hi).1
    exact hq i z ds[i] hi (List.getElem?_eq_getElem this)
  · rcases hx with hx | ⟨hx, rfl, _⟩
    · rw [hx, lenD, hds]
    · rw [hx]; exact hds.symm
/-- steps, and samples in them. -/
def stot : List StepV → Nat
  | [] => 0
  | o :: l => 1 + o.m + stot l
theorem stot_bulk : ∀ (ops : List StepV) (ds : List (DataW H)), ops.length = ds.length → (∀ (i : Nat) o d, ops[i]? = some o → ds[i]? = some d → 1 + o.m ≤ Rows.uptoBulk d) → stot ops ≤ Rows.uptoBulkAll ds
  | [], _, _, _ => by simp [stot]
  | o :: ops, [], h, _ => by simp at h
  | o :: ops, d :: ds, h, hq => by
    have h0 := hq 0 o d rfl rfl
    have ih := stot_bulk ops ds (by simpa using h) (fun i a b ha hb => hq (i + 1) a b (by simpa using ha) (by simpa using hb))
    simp only [stot, Rows.uptoBulkAll]
    omega
end

end Go.Proofs.YtljgnocpijniiaaGreatDoor

namespace Go.Proofs.YtljgnocpijniiaaGreatDoor
open Go Go.ChangeShapes Go.WideShapes Go.ChangeAt Go.RowKit

section
variable {H : Type} {enc : TypeId × Value → H}
theorem open_tag {W : World} {fuel : Nat} {cs : List Value} {x : DataW H × List MemPlace} (h : DataW.trod enc Tryz.prog W 0 (fun _ => true) true fuel 115 cs = some x) :
    ∃ t : Tg, cs = tcells t := by
  obtain ⟨xs, n, _, rfl, hl, hlen, hf⟩ := DataW.trod_struct Tryz.underlying115 h
  obtain ⟨c0, c1, rfl⟩ := list2' (hl.trans (show Tryz.prog.cellsOf 115 = 2 by kernel_rfl))
  obtain ⟨x0, x1, rfl⟩ := list2' hlen
  have f0 := hf 0 _ rfl
  have f1 := hf 1 _ rfl
  simp only [show Tryz.prog.cellsOf 9 = 1 by kernel_rfl, List.drop_zero, List.drop_succ_cons, List.take_succ_cons, List.take_zero, List.getElem_toArray, List.getElem_cons_zero, List.getElem_cons_succ, List.getElem?_cons_zero, List.getElem?_cons_succ] at f0 f1
  obtain ⟨k, e0, _⟩ := DataW.trod_string Tryz.underlying9 f0
  obtain ⟨z, e1, _⟩ := DataW.trod_string Tryz.underlying9 f1
  simp only [List.cons.injEq, and_true] at e0 e1
  subst e0; subst e1
  exact ⟨(k, z), rfl⟩
theorem open_tagsC {W : World} {fuel : Nat} {cs : List Value} {x : DataW H × List MemPlace} (h : DataW.trod enc Tryz.prog W 0 (fun _ => true) true fuel 22 cs = some x) :
    ∃ (A : Option Addr) (n c : Nat) (l : List Tg), cs = [.slice A n c] ∧ RdT W A n l ∧ n + 1 ≤ Rows.uptoBulk x.1 := by
  obtain ⟨A, n, c, l, hcs, hR, _, hl, _, ds, sp, hx, hds, _, _⟩ := open_list tcells (fun _ _ => True) Tryz.underlying22 (size := 2) (by kernel_rfl) (fun fuel cs x h => by obtain ⟨t, ht⟩ := open_tag h; exact ⟨t, ht, trivial⟩) h
  refine ⟨A, n, c, l, hcs, hR, ?_⟩
  have hb := bulk_lenD x.1
  rcases hx with hx | ⟨hx, rfl, _⟩
  · rw [hx] at hb ⊢; rw [lenD, hds] at hb; exact hb
  · rw [hx]; simp only [List.length_nil] at hds; have := bulk_one (DataW.nil : DataW H); omega
/-- a series as it was handed in. -/
def SerV.Pre (W : World) (v : SerV) (b : Nat) : Prop := RdT W v.A v.n v.s.tags ∧ v.n ≤ b
theorem open_ser {W : World} {fuel : Nat} {cs : List Value} {x : DataW H × List MemPlace} (h : DataW.trod enc Tryz.prog W 0 (fun _ => true) true fuel 53 cs = some x) :
    ∃ v : SerV, cs = v.cells ∧ v.Pre W (Rows.uptoBulk x.1) := by
  obtain ⟨xs, n, _, rfl, hl, hlen, hf⟩ := DataW.trod_struct Tryz.underlying53 h
  obtain ⟨c0, c1, c2, rfl⟩ := list3 (hl.trans (show Tryz.prog.cellsOf 53 = 3 by kernel_rfl))
  obtain ⟨x0, x1, x2, rfl⟩ := list3 hlen
  have f0 := hf 0 _ rfl
  have f1 := hf 1 _ rfl
  have f2 := hf 2 _ rfl
  simp only [show Tryz.prog.cellsOf 9 = 1 by kernel_rfl, show Tryz.prog.cellsOf 22 = 1 by kernel_rfl, List.drop_zero, List.drop_succ_cons, List.take_succ_cons, List.take_zero, List.getElem_toArray, List.getElem_cons_zero, List.getElem_cons_succ, List.getElem?_cons_zero, List.getElem?_cons_succ] at f0 f1 f2
  obtain ⟨k, e0, _⟩ := DataW.trod_string Tryz.underlying9 f0
  obtain ⟨A, m, c, l, e1, hR, hb⟩ := open_tagsC f1
  obtain ⟨z, e2, _⟩ := DataW.trod_string Tryz.underlying9 f2
  simp only [List.cons.injEq, and_true] at e0 e1 e2
  subst e0; subst e1; subst e2
  refine ⟨⟨⟨k, l, z⟩, A, m, c⟩, rfl, hR, ?_⟩
  simp only [List.map_cons, List.map_nil, Rows.uptoBulk, Rows.uptoBulkAll]
  omega
/-- a write as it was handed in. -/
def WrV.Pre (W : World) (v : WrV) (b : Nat) : Prop := v.s.Pre W b ∧ SOk v.x
theorem WrV.Pre.ok {W : World} {v : WrV} {b : Nat} (h : v.Pre W b) (hb : b ≤ 1048576) : v.Ok W := ⟨⟨h.1.1, by have := h.1.2; omega⟩, h.2⟩
theorem WrV.Pre.mono {W : World} {v : WrV} {b b' : Nat} (h : v.Pre W b) (hb : b ≤ b') : v.Pre W b' := ⟨⟨h.1.1, Nat.le_trans h.1.2 hb⟩, h.2⟩
theorem open_wr {W : World} {fuel : Nat} {cs : List Value} {x : DataW H × List MemPlace} (h : DataW.trod enc Tryz.prog W 0 (fun _ => true) true fuel 60 cs = some x) :
    ∃ v : WrV, cs = v.cells ∧ v.Pre W (Rows.uptoBulk x.1) := by
  obtain ⟨xs, n, _, rfl, hl, hlen, hf⟩ := DataW.trod_struct Tryz.underlying60 h
  obtain ⟨c0, c1, c2, c3, c4, c5, rfl⟩ := list6 (hl.trans (show Tryz.prog.cellsOf 60 = 6 by kernel_rfl))
  obtain ⟨x0, x1, rfl⟩ := list2' hlen
  have f0 := hf 0 _ rfl
  have f1 := hf 1 _ rfl
  simp only [show Tryz.prog.cellsOf 53 = 3 by kernel_rfl, show Tryz.prog.cellsOf 58 = 3 by kernel_rfl, List.drop_zero, List.drop_succ_cons, List.take_succ_cons, List.take_zero, List.getElem_toArray, List.getElem_cons_zero, List.getElem_cons_succ, List.getElem?_cons_zero, List.getElem?_cons_succ] at f0 f1
  obtain ⟨v, e0, hv⟩ := open_ser f0
  obtain ⟨s, e1, hs⟩ := open_smp f1
  simp only [SerV.cells, scells, List.cons.injEq, and_true] at e0 e1
  obtain ⟨rfl, rfl, rfl⟩ := e0
  obtain ⟨rfl, rfl, rfl⟩ := e1
  refine ⟨⟨v, s⟩, rfl, ⟨hv.1, ?_⟩, hs⟩
  have := hv.2
  simp only [List.map_cons, List.map_nil, Rows.uptoBulk, Rows.uptoBulkAll]
  omega
theorem open_wrsC {W : World} {fuel : Nat} {cs : List Value} {x : DataW H × List MemPlace} (h : DataW.trod enc Tryz.prog W 0 (fun _ => true) true fuel 42 cs = some x) :
    ∃ s : WS, cs = [s.cell] ∧ s.Ok W ∧ (∀ y ∈ s.l, y.Pre W (Rows.uptoBulk x.1)) ∧ s.n + 1 ≤ Rows.uptoBulk x.1 := by
  obtain ⟨A, n, c, l, hcs, hR, _, hl, _, ds, sp, hx, hds, _, hq⟩ := open_list WrV.cells (fun (y : WrV) d => y.Pre W (Rows.uptoBulk d)) Tryz.underlying42 (size := 6) (by kernel_rfl) (fun fuel cs x h => open_wr h) h
  refine ⟨⟨A, n, c, l⟩, hcs, hR, fun y hy => ?_, ?_⟩
  · obtain ⟨i, hi⟩ := List.mem_iff_getElem?.1 hy
    have hid : i < ds.length := by rw [hds, ← hl]; exact (List.getElem?_eq_some_iff.1 hi).1
    refine (hq i y ds[i] hi (List.getElem?_eq_getElem hid)).mono ?_
    have hm := bulk_mem (d := ds[i]) (List.getElem_mem hid)
    rcases hx with hx | ⟨hx, rfl, _⟩
    · rw [hx]; simp only [Rows.uptoBulk]; omega
    · simp at hid
  · have hb := bulk_lenD x.1
    rcases hx with hx | ⟨hx, rfl, _⟩
    · rw [hx] at hb ⊢; rw [lenD, hds] at hb; exact hb
    · rw [hx]; simp only [List.length_nil] at hds; have := bulk_one (DataW.nil : DataW H); show n + 1 ≤ _; omega
theorem sum_bulk : ∀ (xs : List WS) (ds : List (DataW H)), xs.length = ds.length → (∀ (i : Nat) (x : WS) d, xs[i]? = some x → ds[i]? = some d → x.l.length + 1 ≤ Rows.uptoBulk d) → (allW xs).length + xs.length ≤ Rows.uptoBulkAll ds
  | [], _, _, _ => by simp [allW]
  | x :: xs, [], h, _ => by simp at h
  | x :: xs, d :: ds, h, hq => by
    have h0 := hq 0 x d rfl rfl
    have ih := sum_bulk xs ds (by simpa using h) (fun i a b ha hb => hq (i + 1) a b (by simpa using ha) (by simpa using hb))
    simp only [allW, List.flatMap_cons, List.length_append, List.length_cons, Rows.uptoBulkAll] at ih ⊢
    omega
theorem open_wss {W : World} {base : Nat} {v : Value} {d : DataW H} {ps : List MemPlace} (h : DataW.Trod enc Tryz.prog W 0 (fun _ => true) true 82 v d ps) (hok : Value.okWide Tryz.prog W .any base 82 v) :
    ∃ (B : Option Addr) (m c : Nat) (xs : List WS), v = .slice B m c ∧ Rd W B m 1 (xs.map WS.cell) ∧ (∀ x ∈ xs, x.Ok W ∧ ∀ y ∈ x.l, y.Pre W (Rows.uptoBulk d)) ∧ (allW xs).length + m ≤ Rows.uptoBulk d := by
  obtain ⟨fuel, h⟩ := h
  obtain ⟨A, n, c, rfl⟩ := okWide_slice Tryz.underlying82 hok
  obtain ⟨A', n', c', l, hcs, hR, _, hl, _, ds, sp, hx, hds, _, hq⟩ := open_list (fun s : WS => [s.cell]) (fun (s : WS) d => s.Ok W ∧ (∀ y ∈ s.l, y.Pre W (Rows.uptoBulk d)) ∧ s.n + 1 ≤ Rows.uptoBulk d) Tryz.underlying82 (size := 1) (by kernel_rfl) (fun fuel cs x h => open_wrsC h) h
  simp only [Value.cells, List.cons.injEq, Value.slice.injEq, and_true] at hcs
  obtain ⟨rfl, rfl, rfl⟩ := hcs
  have hflat : ∀ xs : List WS, xs.flatMap (fun s => [s.cell]) = xs.map WS.cell := fun xs => by induction xs with
    | nil => rfl
    | cons a xs ih => rw [List.flatMap_cons, ih]; rfl
  rw [hflat] at hR
  have hall : Rows.uptoBulkAll ds ≤ Rows.uptoBulk d := by
    rcases hx with hx | ⟨hx, rfl, _⟩
    · simp only at hx; rw [hx]; simp only [Rows.uptoBulk]; omega
    · simp [Rows.uptoBulkAll]
  refine ⟨A, n, c, l, rfl, hR, fun x hx' => ?_, ?_⟩
  · obtain ⟨i, hi⟩ := List.mem_iff_getElem?.1 hx'
    have hid : i < ds.length := by rw [hds, ← hl]; exact (List.getElem?_eq_some_iff.1 hi).1
    obtain ⟨h1, h2, _⟩ := hq i x ds[i] hi (List.getElem?_eq_getElem hid)
    have hm := bulk_mem (d := ds[i]) (List.getElem_mem hid)
    exact ⟨h1, fun y hy => (h2 y hy).mono (by omega)⟩
  · have := sum_bulk l ds (by omega) (fun i x d hx hd => by
      obtain ⟨h1, _, h3⟩ := hq i x d hx hd
      rw [h1.wlen]; exact h3)
    omega
theorem open_ser1 {W : World} {base : Nat} {v : Value} {d : DataW H} {ps : List MemPlace} (h : DataW.Trod enc Tryz.prog W 0 (fun _ => true) true 53 v d ps) (hok : Value.okWide Tryz.prog W .any base 53 v) :
    ∃ s : SerV, v = .agg s.cells.toArray ∧ s.Pre W (Rows.uptoBulk d) := by
  obtain ⟨fuel, h⟩ := h
  obtain ⟨cs, rfl⟩ := okWide_struct Tryz.underlying53 hok
  obtain ⟨s, hs, hp⟩ := open_ser h
  refine ⟨s, ?_, hp⟩
  rw [← hs]
  simp [Value.cells]
end

end Go.Proofs.YtljgnocpijniiaaGreatDoor

namespace Go.Proofs.YtljgnocpijniiaaGreatDoor
open Go Go.ChangeShapes Go.WideShapes Go.ChangeAt Go.RowKit

section
variable {H : Type} {enc : TypeId × Value → H}
/-- no text within is longer than the reach. -/
abbrev Wt (t : TypeId) (d : DataW H) : Prop := ∀ y ∈ DataW.weights Tryz.prog t d, y ≤ reachBytes
theorem wt_all {e : TypeId} {d : DataW H} : ∀ {es : List (DataW H)}, d ∈ es → ∀ y ∈ DataW.weights Tryz.prog e d, y ∈ DataW.weightsAll Tryz.prog e es
  | x :: es, h, y, hy => by
    rw [DataW.weightsAll]
    rcases List.mem_cons.1 h with rfl | h
    · exact List.mem_append_left _ hy
    · exact List.mem_append_right _ (wt_all h y hy)
theorem wt_slice {t e : TypeId} (hu : Tryz.prog.underlying t = some (.slice e)) {es sp : List (DataW H)} (h : Wt t (.slice es sp)) {d : DataW H} (hd : d ∈ es) : Wt e d := fun y hy => by
  refine h y ?_
  rw [DataW.weights, hu]
  exact List.mem_cons_of_mem _ (List.mem_append_left _ (wt_all hd y hy))
theorem wt_str {t : TypeId} {s : ByteArray} (h : Wt (H := H) t (.lit (.string s.data.toList))) : Szb s := by
  have := h s.data.toList.length (by rw [DataW.weights]; exact List.mem_singleton.2 rfl)
  have h2 : s.size = s.data.toList.length := (Array.length_toList (xs := s.data)).symm
  unfold reachBytes at this
  show s.size ≤ _
  omega
theorem wt_each : ∀ {ts : List TypeId} {ds : List (DataW H)}, (∀ y ∈ DataW.weightsEach Tryz.prog ts ds, y ≤ reachBytes) → ∀ (i : Nat) t d, ts[i]? = some t → ds[i]? = some d → Wt t d
  | [], _, _, i, t, d, ht, _ => by simp at ht
  | t0 :: ts, [], _, i, t, d, _, hd => by simp at hd
  | t0 :: ts, d0 :: ds, h, 0, t, d, ht, hd => by
    simp only [List.getElem?_cons_zero, Option.some.injEq] at ht hd
    subst ht; subst hd
    exact fun y hy => h y (by rw [DataW.weightsEach]; exact List.mem_append_left _ hy)
  | t0 :: ts, d0 :: ds, h, i + 1, t, d, ht, hd => by
    simp only [List.getElem?_cons_succ] at ht hd
    exact wt_each (fun y hy => h y (by rw [DataW.weightsEach]; exact List.mem_append_right _ hy)) i t d ht hd
theorem wt_struct {t : TypeId} {fs : Array Field} (hu : Tryz.prog.underlying t = some (.struct fs)) {parts : List (DataW H)} (h : Wt t (.agg parts)) (i : Nat) {u : TypeId} {d : DataW H} (hf : (fs.toList.map (·.type))[i]? = some u) (hd : parts[i]? = some d) : Wt u d := by
  refine wt_each (ts := fs.toList.map (·.type)) (ds := parts) (fun y hy => h y ?_) i u d hf hd
  rw [DataW.weights, hu]
  exact hy
theorem open_tagW {W : World} {fuel : Nat} {cs : List Value} {x : DataW H × List MemPlace} (h : DataW.trod enc Tryz.prog W 0 (fun _ => true) true fuel 115 cs = some x) :
    ∃ t : Tg, cs = tcells t ∧ (Wt 115 x.1 → Szb t.1 ∧ Szb t.2) := by
  obtain ⟨xs, n, hx, rfl, hl, hlen, hf⟩ := DataW.trod_struct Tryz.underlying115 h
  obtain ⟨c0, c1, rfl⟩ := list2' (hl.trans (show Tryz.prog.cellsOf 115 = 2 by kernel_rfl))
  obtain ⟨x0, x1, rfl⟩ := list2' hlen
  have f0 := hf 0 _ rfl
  have f1 := hf 1 _ rfl
  simp only [show Tryz.prog.cellsOf 9 = 1 by kernel_rfl, List.drop_zero, List.drop_succ_cons, List.take_succ_cons, List.take_zero, List.getElem_toArray, List.getElem_cons_zero, List.getElem_cons_succ, List.getElem?_cons_zero, List.getElem?_cons_succ] at f0 f1
  obtain ⟨k, e0, y0, _⟩ := DataW.trod_string Tryz.underlying9 f0
  obtain ⟨z, e1, y1, _⟩ := DataW.trod_string Tryz.underlying9 f1
  simp only [List.cons.injEq, and_true] at e0 e1
  subst e0; subst e1; subst y0; subst y1
  exact ⟨(k, z), rfl, fun hw => ⟨wt_str (wt_struct Tryz.underlying115 hw 0 (u := 9) rfl rfl), wt_str (wt_struct Tryz.underlying115 hw 1 (u := 9) rfl rfl)⟩⟩
theorem open_fldW {W : World} {fuel : Nat} {cs : List Value} {x : DataW H × List MemPlace} (h : DataW.trod enc Tryz.prog W 0 (fun _ => true) true fuel 98 cs = some x) :
    ∃ f : Fd, cs = fcells f ∧ (-9223372036854775808 ≤ f.2 ∧ f.2 < 9223372036854775808) ∧ (Wt 98 x.1 → Szb f.1) := by
  obtain ⟨xs, n, hx, rfl, hl, hlen, hf⟩ := DataW.trod_struct Tryz.underlying98 h
  obtain ⟨c0, c1, rfl⟩ := list2' (hl.trans (show Tryz.prog.cellsOf 98 = 2 by kernel_rfl))
  obtain ⟨x0, x1, rfl⟩ := list2' hlen
  have f0 := hf 0 _ rfl
  have f1 := hf 1 _ rfl
  simp only [show Tryz.prog.cellsOf 9 = 1 by kernel_rfl, show Tryz.prog.cellsOf 2 = 1 by kernel_rfl, List.drop_zero, List.drop_succ_cons, List.take_succ_cons, List.take_zero, List.getElem_toArray, List.getElem_cons_zero, List.getElem_cons_succ, List.getElem?_cons_zero, List.getElem?_cons_succ] at f0 f1
  obtain ⟨k, e0, y0, _⟩ := DataW.trod_string Tryz.underlying9 f0
  obtain ⟨z, e1, y1, w1⟩ := DataW.trod_int Tryz.underlying2 f1
  simp only [List.cons.injEq, and_true] at e0 e1
  subst e0; subst e1; subst y0; subst y1
  exact ⟨(k, z), rfl, wf_i64' w1, fun hw => wt_str (wt_struct Tryz.underlying98 hw 0 (u := 9) rfl rfl)⟩
theorem open_rowW {α : Type} {W : World} {t e : TypeId} {size : Nat} (f : α → List Value) (Q : α → Prop) (ht : Tryz.prog.underlying t = some (.slice e)) (hc : Tryz.prog.cellsOf e = size)
    (hE : ∀ fuel cs (x : DataW H × List MemPlace), DataW.trod enc Tryz.prog W 0 (fun _ => true) true fuel e cs = some x → ∃ a, cs = f a ∧ (Wt e x.1 → Rows.uptoBulk x.1 ≤ 1048576 → Q a)) {fuel : Nat} {cs : List Value} {x : DataW H × List MemPlace}
    (h : DataW.trod enc Tryz.prog W 0 (fun _ => true) true fuel t cs = some x) (hw : Wt t x.1) (hb : Rows.uptoBulk x.1 ≤ 1048576) :
    ∃ (A : Option Addr) (n c : Nat) (l : List α), cs = [.slice A n c] ∧ Rd W A n size (l.flatMap f) ∧ (∀ a ∈ l, Q a) ∧ l.length = n ∧ n ≤ c ∧ n + 1 ≤ Rows.uptoBulk x.1 := by
  obtain ⟨A, n, c, l, hcs, hR, _, hl, hnc, ds, sp, hx, hds, _, hq⟩ := open_list f (fun a d => Wt e d → Rows.uptoBulk d ≤ 1048576 → Q a) ht hc hE h
  refine ⟨A, n, c, l, hcs, hR, fun a ha => ?_, hl, hnc, ?_⟩
  · obtain ⟨i, hi⟩ := List.mem_iff_getElem?.1 ha
    have hid : i < ds.length := by rw [hds, ← hl]; exact (List.getElem?_eq_some_iff.1 hi).1
    have hdm : ds[i] ∈ ds := List.getElem_mem hid
    rcases hx with hx | ⟨hx, rfl, _⟩
    · rw [hx] at hw hb
      have hm := bulk_mem hdm
      simp only [Rows.uptoBulk] at hb
      exact hq i a ds[i] hi (List.getElem?_eq_getElem hid) (wt_slice ht hw hdm) (by omega)
    · simp at hid
  · have hb := bulk_lenD x.1
    rcases hx with hx | ⟨hx, rfl, _⟩
    · rw [hx] at hb ⊢; rw [lenD, hds] at hb; exact hb
    · rw [hx]; simp only [List.length_nil] at hds; have := bulk_one (DataW.nil : DataW H); omega
theorem open_ptC {W : World} {fuel : Nat} {cs : List Value} {x : DataW H × List MemPlace} (h : DataW.trod enc Tryz.prog W 0 (fun _ => true) true fuel 25 cs = some x) : ∃ v : PtV, cs = v.cells := by
  obtain ⟨xs, n, hx, rfl, hl, hlen, hf⟩ := DataW.trod_struct Tryz.underlying25 h
  obtain ⟨c0, c1, c2, c3, rfl⟩ := list4 (hl.trans (show Tryz.prog.cellsOf 25 = 4 by kernel_rfl))
  obtain ⟨x0, x1, x2, x3, rfl⟩ := list4 hlen
  have f0 := hf 0 _ rfl
  have f1 := hf 1 _ rfl
  have f2 := hf 2 _ rfl
  have f3 := hf 3 _ rfl
  simp only [show Tryz.prog.cellsOf 9 = 1 by kernel_rfl, show Tryz.prog.cellsOf 2 = 1 by kernel_rfl, show Tryz.prog.cellsOf 22 = 1 by kernel_rfl, show Tryz.prog.cellsOf 23 = 1 by kernel_rfl, List.drop_zero, List.drop_succ_cons, List.take_succ_cons, List.take_zero, List.getElem_toArray, List.getElem_cons_zero, List.getElem_cons_succ, List.getElem?_cons_zero, List.getElem?_cons_succ] at f0 f1 f2 f3
  obtain ⟨k, e0, _, _⟩ := DataW.trod_string Tryz.underlying9 f0
  obtain ⟨A, m, c, l, e1, _⟩ := open_list tcells (fun _ _ => True) Tryz.underlying22 (size := 2) (by kernel_rfl) (fun fuel cs x h => by obtain ⟨t, ht⟩ := open_tag h; exact ⟨t, ht, trivial⟩) f1
  obtain ⟨B, o, d, l2, e2, _⟩ := open_list fcells (fun _ _ => True) Tryz.underlying23 (size := 2) (by kernel_rfl) (fun fuel cs x h => by obtain ⟨t, ht, _⟩ := open_fldW h; exact ⟨t, ht, trivial⟩) f2
  obtain ⟨z, e3, _, _⟩ := DataW.trod_int Tryz.underlying2 f3
  simp only [List.cons.injEq, and_true] at e0 e1 e2 e3
  subst e0; subst e1; subst e2; subst e3
  exact ⟨⟨⟨k, l, l2, z⟩, A, m, c, B, o, d⟩, rfl⟩
theorem open_ptW {W : World} {fuel : Nat} {cs : List Value} {x : DataW H × List MemPlace} (h : DataW.trod enc Tryz.prog W 0 (fun _ => true) true fuel 25 cs = some x) (hw : Wt 25 x.1) (hb : Rows.uptoBulk x.1 ≤ 1048576) :
    ∃ v : PtV, cs = v.cells ∧ v.Ok W ∧ v.n ≤ Rows.uptoBulk x.1 ∧ v.k ≤ Rows.uptoBulk x.1 := by
  obtain ⟨xs, n, hx, rfl, hl, hlen, hf⟩ := DataW.trod_struct Tryz.underlying25 h
  obtain ⟨c0, c1, c2, c3, rfl⟩ := list4 (hl.trans (show Tryz.prog.cellsOf 25 = 4 by kernel_rfl))
  obtain ⟨x0, x1, x2, x3, rfl⟩ := list4 hlen
  have f0 := hf 0 _ rfl
  have f1 := hf 1 _ rfl
  have f2 := hf 2 _ rfl
  have f3 := hf 3 _ rfl
  simp only [show Tryz.prog.cellsOf 9 = 1 by kernel_rfl, show Tryz.prog.cellsOf 2 = 1 by kernel_rfl, show Tryz.prog.cellsOf 22 = 1 by kernel_rfl, show Tryz.prog.cellsOf 23 = 1 by kernel_rfl, List.drop_zero, List.drop_succ_cons, List.take_succ_cons, List.take_zero, List.getElem_toArray, List.getElem_cons_zero, List.getElem_cons_succ, List.getElem?_cons_zero, List.getElem?_cons_succ] at f0 f1 f2 f3
  simp only [List.map_cons, List.map_nil] at hw hb
  have u0 := wt_struct Tryz.underlying25 hw 0 (u := 9) rfl rfl
  have u1 := wt_struct Tryz.underlying25 hw 1 (u := 22) rfl rfl
  have u2 := wt_struct Tryz.underlying25 hw 2 (u := 23) rfl rfl
  simp only [Rows.uptoBulk, Rows.uptoBulkAll] at hb
  obtain ⟨k, e0, y0, _⟩ := DataW.trod_string Tryz.underlying9 f0
  obtain ⟨A, m, c, l, e1, hR, hq, _, _, hm⟩ := open_rowW tcells (fun t : Tg => Szb t.1 ∧ Szb t.2) Tryz.underlying22 (size := 2) (by kernel_rfl) (fun fuel cs x h => by obtain ⟨t, ht, hz⟩ := open_tagW h; exact ⟨t, ht, fun w _ => hz w⟩) f1 u1 (by omega)
  obtain ⟨B, o, d, l2, e2, hR2, hq2, _, _, ho⟩ := open_rowW fcells (fun t : Fd => Szb t.1 ∧ (-9223372036854775808 ≤ t.2 ∧ t.2 < 9223372036854775808)) Tryz.underlying23 (size := 2) (by kernel_rfl) (fun fuel cs x h => by obtain ⟨t, ht, hn, hz⟩ := open_fldW h; exact ⟨t, ht, fun w _ => ⟨hz w, hn⟩⟩) f2 u2 (by omega)
  obtain ⟨z, e3, y3, w3⟩ := DataW.trod_int Tryz.underlying2 f3
  simp only [List.cons.injEq, and_true] at e0 e1 e2 e3
  subst e0; subst e1; subst e2; subst e3; subst y0
  refine ⟨⟨⟨k, l, l2, z⟩, A, m, c, B, o, d⟩, rfl, ⟨hR, hR2, by show m ≤ _; omega, by show o ≤ _; omega, wt_str u0, hq, fun f hf => (hq2 f hf).1, wf_i64' w3, fun f hf => (hq2 f hf).2⟩, ?_, ?_⟩
  · simp only [List.map_cons, List.map_nil, Rows.uptoBulk, Rows.uptoBulkAll]
    show m ≤ _
    omega
  · simp only [List.map_cons, List.map_nil, Rows.uptoBulk, Rows.uptoBulkAll]
    show o ≤ _
    omega
theorem open_pt1 {W : World} {base : Nat} {v : Value} {d : DataW H} {ps : List MemPlace} (h : DataW.Trod enc Tryz.prog W 0 (fun _ => true) true 25 v d ps) (hok : Value.okWide Tryz.prog W .any base 25 v) (hw : Wt 25 d) (hb : Rows.uptoBulk d ≤ 1048576) :
    ∃ s : PtV, v = .agg s.cells.toArray ∧ s.Ok W ∧ s.n ≤ 1048576 ∧ s.k ≤ 1048576 := by
  obtain ⟨fuel, h⟩ := h
  obtain ⟨cs, rfl⟩ := okWide_struct Tryz.underlying25 hok
  obtain ⟨s, hs, hp, h1, h2⟩ := open_ptW h hw hb
  refine ⟨s, ?_, hp, by simp only at h1; omega, by simp only at h2; omega⟩
  rw [← hs]
  simp [Value.cells]
theorem open_pts {W : World} {base : Nat} {v : Value} {d : DataW H} {ps : List MemPlace} (h : DataW.Trod enc Tryz.prog W 0 (fun _ => true) true 36 v d ps) (hok : Value.okWide Tryz.prog W .any base 36 v) (hw : Wt 36 d) (hb : Rows.uptoBulk d ≤ 1048576) :
    ∃ (A : Option Addr) (n c : Nat) (l : List PtV), v = .slice A n c ∧ RdP W A n l ∧ (∀ x ∈ l, x.Ok W ∧ x.n ≤ 1048576 ∧ x.k ≤ 1048576) ∧ n ≤ c ∧ n ≤ 1048576 := by
  obtain ⟨fuel, h⟩ := h
  obtain ⟨A, n, c, rfl⟩ := okWide_slice Tryz.underlying36 hok
  have hE : ∀ fuel cs (x : DataW H × List MemPlace), DataW.trod enc Tryz.prog W 0 (fun _ => true) true fuel 25 cs = some x → ∃ a : PtV, cs = a.cells ∧ (Wt 25 x.1 → Rows.uptoBulk x.1 ≤ 1048576 → (a.Ok W ∧ a.n ≤ 1048576 ∧ a.k ≤ 1048576)) := fun fuel cs x h => by
    by_cases hq : Wt 25 x.1 ∧ Rows.uptoBulk x.1 ≤ 1048576
    · obtain ⟨a, e, h0, h1, h2⟩ := open_ptW h hq.1 hq.2
      exact ⟨a, e, fun _ _ => ⟨h0, by omega, by omega⟩⟩
    · obtain ⟨a, e⟩ := open_ptC h
      exact ⟨a, e, fun h1 h2 => absurd ⟨h1, h2⟩ hq⟩
  obtain ⟨A', n', c', l, hcs, hR, hq, hl, hnc, hn⟩ := open_rowW PtV.cells (fun a => a.Ok W ∧ a.n ≤ 1048576 ∧ a.k ≤ 1048576) Tryz.underlying36 (size := 4) (by kernel_rfl) hE h hw hb
  simp only [Value.cells, List.cons.injEq, Value.slice.injEq, and_true] at hcs
  obtain ⟨rfl, rfl, rfl⟩ := hcs
  exact ⟨A, n, c, l, rfl, hR, hq, hnc, by simp only at hn hb; omega⟩
theorem open_wrs {W : World} {base : Nat} {v : Value} {d : DataW H} {ps : List MemPlace} (h : DataW.Trod enc Tryz.prog W 0 (fun _ => true) true 42 v d ps) (hok : Value.okWide Tryz.prog W .any base 42 v) (hb : Rows.uptoBulk d ≤ 1048576) :
    ∃ (A : Option Addr) (n c : Nat) (l : List WrV), v = .slice A n c ∧ RdW W A n l ∧ (∀ x ∈ l, x.Ok W ∧ x.s.n ≤ 1048576) ∧ n ≤ c ∧ n ≤ 1048576 := by
  obtain ⟨fuel, h⟩ := h
  obtain ⟨A, n, c, rfl⟩ := okWide_slice Tryz.underlying42 hok
  obtain ⟨A', n', c', l, hcs, hR, _, hl, hnc, ds, sp, hx, hds, _, hq⟩ := open_list WrV.cells (fun (y : WrV) d => y.Pre W (Rows.uptoBulk d)) Tryz.underlying42 (size := 6) (by kernel_rfl) (fun fuel cs x h => open_wr h) h
  simp only [Value.cells, List.cons.injEq, Value.slice.injEq, and_true] at hcs
  obtain ⟨rfl, rfl, rfl⟩ := hcs
  refine ⟨A, n, c, l, rfl, hR, fun y hy => ?_, hnc, ?_⟩
  · obtain ⟨i, hi⟩ := List.mem_iff_getElem?.1 hy
    have hid : i < ds.length := by rw [hds, ← hl]; exact (List.getElem?_eq_some_iff.1 hi).1
    have hp := hq i y ds[i] hi (List.getElem?_eq_getElem hid)
    have hm := bulk_mem (d := ds[i]) (List.getElem_mem hid)
    have hle : Rows.uptoBulk ds[i] ≤ 1048576 := by
      rcases hx with hx | ⟨hx, rfl, _⟩
      · simp only at hx; rw [hx] at hb; simp only [Rows.uptoBulk] at hb; omega
      · simp at hid
    exact ⟨hp.ok hle, by have := hp.1.2; omega⟩
  · have hb2 := bulk_lenD d
    rcases hx with hx | ⟨hx, rfl, _⟩
    · simp only at hx; rw [hx, lenD, hds] at hb2; rw [hx] at hb; omega
    · simp only [List.length_nil] at hds; omega
end

end Go.Proofs.YtljgnocpijniiaaGreatDoor
