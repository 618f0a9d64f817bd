/- How a law that says 'true' and leaves its arguments as they read is closed: once for all. -/
import Derived.Test.YtcjlhfmjcioeeaaRows
import Derived.Test.YtcjlhfmjcioeeaaMem
import Derived.ProofKit
import Derived.OpenShut
import Derived.SizedLaws
import Derived.JoinedCond
import Derived.Deep.CondSized
set_option linter.unusedVariables false
set_option linter.unusedSimpArgs false
set_option maxRecDepth 100000
namespace Go.Proofs.Ytcjlhfmjcioeeaa
open Go Go.ChangeShapes Go.WideShapes Go.ChangeAt Go.RowKit

theorem laws_own : ownKnob Try.prog.godebug = none := by kernel_rfl
theorem laws_laid : laidOutB Try.prog = true := by kernel_rfl

section
variable {H : Type} {enc : TypeId × Value → H}

/-- every argument reads as it did: nothing of what was there is turned. -/
theorem trodAll_grow {W W' : World} (g : Grow W W') : ∀ {ts : List TypeId} {vs : List Value} {ds : List (DataW H)} {ps : List MemPlace}, (∀ t ∈ ts, Try.prog.readableRec t = true ∧ t < Try.prog.types.size) →
    DataW.TrodAll enc Try.prog W 0 (fun _ => true) true ts vs ds ps → (∀ p ∈ ps, p.block < W.heap.size) → DataW.TrodAll enc Try.prog W' 0 (fun b => decide (b < W.heap.size)) true ts vs ds ps
  | [], _, _, _, _, h, _ => by
    obtain ⟨rfl, rfl, rfl⟩ := trodAll_nil h
    exact trodAll_mk0
  | t :: ts, _, _, _, hp, h, hlt => by
    obtain ⟨v, vs, d, ds, p, q, rfl, rfl, rfl, h0, hr⟩ := trodAll_cons h
    obtain ⟨h1, h2⟩ := hp t (by simp)
    exact trodAll_cons_mk (Below.trod laws_laid h1 h2 h0 g.below (fun x hx => hlt x (List.mem_append_left _ hx)))
      (trodAll_grow g (fun t ht => hp t (List.mem_cons_of_mem _ ht)) hr (fun x hx => hlt x (List.mem_append_right _ hx)))

theorem post_true {f : Func} {s : ChangeSpec} {W W' : World} {args : Array Value} {ds gs : List (DataW H)} {before : List MemPlace} {apart : Bool}
    (hW : DataW.Whole enc Try.prog f.params.toList s.vars apart W args.toList ds gs before) (hv : s.vars = [])
    (hf : s.fn H ds = { results := [.lit (.bool true)], args := ds }) (hrt : f.resultTypes = #[4])
    (hp : ∀ t ∈ f.params.toList, Try.prog.readableRec t = true ∧ t < Try.prog.types.size) (g : Grow W W') :
    s.post enc Try.prog f apart true false false W args (.bool true) W' := by
  have hlt := hW.lt
  have hW' := hW
  obtain ⟨p, q, hA, hV, rfl, hz, hn⟩ := hW
  rw [hv] at hV
  obtain ⟨rfl, rfl⟩ := trodVars_none hV
  simp only [List.append_nil] at hlt hf hW' ⊢
  refine ⟨ds, [], p, [], p, [], hW', ?_, ?_, ?_, ?_, fun h => nomatch h⟩
  · rw [List.append_nil, hf, hrt]
    exact trodAll_cons_mk (shut_bool Try.underlying4 _) trodAll_mk0
  · rw [List.append_nil, hf]
    exact trodAll_grow g hp hA hlt
  · rw [List.append_nil, hf, hv]
    rfl
  · exact g.below.frame _

/-- how many elements a reading's slice holds. -/
def lenD : DataW H → Nat
  | .slice es _ => es.length
  | _ => 0

theorem open_bytes {W : World} {base : Nat} {v : Value} {d : DataW H} {ps : List MemPlace} (h : DataW.Trod enc Try.prog W 0 (fun _ => true) true 22 v d ps)
    (hok : Value.okWide Try.prog W .any base 22 v) :
    ∃ (A : Option Addr) (n c : Nat) (xs : List Int), v = .slice A n c ∧ Rd W A n 1 (xs.map (Value.int .u8)) ∧ (∀ x ∈ xs, 0 ≤ x ∧ x < 256) ∧ n = lenD d := by
  obtain ⟨fuel, h⟩ := h
  obtain ⟨A, n, c, rfl⟩ := okWide_slice Try.underlying22 hok
  rcases open_ints Try.underlying22 Try.underlying5 (by kernel_rfl) h with ⟨hc, hx⟩ | ⟨a, len, cap, zs, hc, _, hl, _, hz, hx, hcell, hwf⟩
  · simp only [Value.cells, List.cons.injEq, Value.slice.injEq, and_true] at hc
    obtain ⟨rfl, rfl, rfl⟩ := hc
    simp only [Prod.mk.injEq] at hx
    obtain ⟨rfl, rfl⟩ := hx
    exact ⟨none, 0, 0, [], rfl, ⟨rfl, fun h => absurd h (by omega)⟩, by simp, rfl⟩
  · simp only [Value.cells, List.cons.injEq, Value.slice.injEq, and_true] at hc
    obtain ⟨rfl, rfl, rfl⟩ := hc
    simp only [if_true] at hz
    simp only [Prod.mk.injEq] at hx
    obtain ⟨rfl, rfl⟩ := hx
    have hlen : (zs.take n).length = n := by rw [List.length_take]; omega
    refine ⟨some a, n, c, zs.take n, rfl, ⟨by rw [List.length_map, hlen, Nat.mul_one], fun _ => ⟨a, rfl, fun j u hu => ?_⟩⟩, fun x hx => ?_, by simp only [lenD, lits, List.length_map, hlen]⟩
    · obtain ⟨x, hx, rfl⟩ : ∃ x, (zs.take n)[j]? = some x ∧ Value.int .u8 x = u := by
        rw [List.getElem?_map] at hu
        exact Option.map_eq_some_iff.1 hu
      have hj : j < n := by have := (List.getElem?_eq_some_iff.1 hx).1; omega
      have e : zs.getD j 0 = x := by
        rw [List.getElem?_take_of_lt hj] at hx
        simp [List.getD, hx]
      rw [← e]
      exact hcell j (by omega)
    · have := hwf x (List.mem_of_mem_take hx)
      have h2 : 0 ≤ x ∧ x ≤ 255 := by simpa [Lit.wf, IntKind.min, IntKind.max, IntKind.signed, IntKind.bits] using this
      exact ⟨h2.1, by omega⟩

/-- what the form says of a reading's reach, of the argument of number j, a slice of bytes. -/
theorem sized_lenD {ts : List TypeId} {ds : List (DataW H)} (h : (DataW.weightsEach Try.prog ts ds).all (· ≤ reachBytes) = true) {j : Nat} {t e : TypeId} {d : DataW H} (ht : ts[j]? = some t) (hd : ds[j]? = some d)
    (hu : Try.prog.underlying t = some (.slice e)) (hb : 1 ≤ Try.prog.bytesOf e) : lenD d ≤ 140737488355327 := by
  cases d with
  | slice es sp =>
    have h1 := sized_slice h ht hd hu
    have h2 : (es.length + sp.length) * 1 ≤ (es.length + sp.length) * Try.prog.bytesOf e := Nat.mul_le_mul_left _ hb
    have h3 : reachBytes = 140737488351232 := rfl
    simp only [lenD]
    omega
  | _ => simp [lenD]
end

end Go.Proofs.Ytcjlhfmjcioeeaa
