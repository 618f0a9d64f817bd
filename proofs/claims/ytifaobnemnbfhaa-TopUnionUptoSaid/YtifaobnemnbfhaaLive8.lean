/- live; one step of a row of steps, read. -/
import Derived.Test.YtifaobnemnbfhaaSdl
import Derived.Test.YtifaobnemnbfhaaSlSpec
set_option linter.unusedVariables false
set_option linter.unusedSimpArgs false
set_option maxRecDepth 100000
namespace Go.Proofs.Ytifaobnemnbfhaa
open Go

theorem Rd.steps_len {w : World} {A : Option Addr} {n : Nat} {ops : List StepV} (h : Rd w A n 6 (ops.flatMap StepV.cells)) : ops.length = n := by
  have h1 := h.1
  rw [flat_len StepV.cells (size := 6) ops (fun _ _ => rfl)] at h1
  omega
theorem Rd.stp {w : World} {A : Option Addr} {n : Nat} {ops : List StepV} (h : Rd w A n 6 (ops.flatMap StepV.cells)) {i : Nat} (hi : i < n) :
    ∃ ad, A = some ad ∧ w.cell? (ad.add (i * 6)) = some (.int .i64 (ops.getD i step0).k) ∧ w.cell? ((ad.add (i * 6)).add 1) = some (.int .i64 (ops.getD i step0).t) ∧ w.cell? ((ad.add (i * 6)).add 2) = some (.int .i64 (ops.getD i step0).u) ∧
      w.cell? ((ad.add (i * 6)).add 5) = some (.slice (ops.getD i step0).A (ops.getD i step0).m (ops.getD i step0).c) ∧
      (∀ {K : VK} {tk : Tok K}, K (cV (ops.getD i step0).v) → aggK w ((ad.add (i * 6)).add 3) (some 2) K tk) ∧
      (∀ {K : VK} {tk : Tok K}, K (.agg (ops.getD i step0).cells.toArray) → aggK w (ad.add (i * 6)) (some 6) K tk) := by
  have hl := h.steps_len
  have hg : ops[i]? = some (ops.getD i step0) := by rw [List.getD_eq_getElem?_getD, List.getElem?_eq_getElem (by omega)]; rfl
  obtain ⟨_, ad, hA, hc⟩ := h.flat (size := 6) (fun _ _ => rfl) hg (by omega)
  refine ⟨ad, hA, ?_, hc 1 _ rfl, hc 2 _ rfl, hc 5 _ rfl, fun hK => ⟨[.int .u8 (ops.getD i step0).v.1, .int .i64 (ops.getD i step0).v.2], rfl, fun j u hu => ?_, hK⟩, fun hK => ⟨(ops.getD i step0).cells, rfl, fun j u hu => hc j u hu, hK⟩⟩
  · have := hc 0 _ rfl
    rwa [add_zero'] at this
  · match j, hu with
    | 0, hu => simp at hu; subst hu; rw [add_zero']; exact hc 3 _ rfl
    | 1, hu => simp at hu; subst hu; rw [add_add']; rw [add_add']; exact (by have := hc 4 _ rfl; rwa [add_add'] at this)
theorem Rd.some {w : World} {A : Option Addr} {n size : Nat} {xs : List Value} (h : Rd w A n size xs) (hn : 0 < n) : ∃ ad, A = .some ad := by
  obtain ⟨ad, h, _⟩ := h.2 hn
  exact ⟨ad, h⟩
theorem Rd.stp' {w : World} {ad : Addr} {n : Nat} {ops : List StepV} (h : Rd w (.some ad) n 6 (ops.flatMap StepV.cells)) {i : Nat} (hi : i < n) :
    w.cell? (ad.add (i * 6)) = .some (.int .i64 (ops.getD i step0).k) ∧ w.cell? ((ad.add (i * 6)).add 1) = .some (.int .i64 (ops.getD i step0).t) ∧ w.cell? ((ad.add (i * 6)).add 2) = .some (.int .i64 (ops.getD i step0).u) ∧
      w.cell? ((ad.add (i * 6)).add 5) = .some (.slice (ops.getD i step0).A (ops.getD i step0).m (ops.getD i step0).c) ∧
      (∀ {K : VK} {tk : Tok K}, K (cV (ops.getD i step0).v) → aggK w ((ad.add (i * 6)).add 3) (.some 2) K tk) ∧
      (∀ {K : VK} {tk : Tok K}, K (.agg (ops.getD i step0).cells.toArray) → aggK w (ad.add (i * 6)) (.some 6) K tk) := by
  obtain ⟨ad', h1, h2⟩ := h.stp hi
  injection h1 with h1
  subst h1
  exact h2
theorem mine_k {w0 w1 w2 : World} {g : Nat} {v : Value} (g1 : Grow w0 w1) (k : Keep (fun q => q = g ∨ fpV v q) w1 w2) (hg : w0.heap.size ≤ g) (hv : ∀ q, fpV v q → w0.heap.size ≤ q) : Grow w0 w2 :=
  g1.above k (fun q hq e => by
    rcases e with e | e
    · omega
    · have := hv q e; omega)
theorem mine_f {w0 w1 : World} {v v' : Value} (g1 : Grow w0 w1) (f : ∀ q, fpV v' q → fpV v q ∨ w1.heap.size ≤ q) (hv : ∀ q, fpV v q → w0.heap.size ≤ q) : ∀ q, fpV v' q → w0.heap.size ≤ q := fun q hq => by
  have := g1.size
  rcases f q hq with e | e
  · exact hv q e
  · omega
end Go.Proofs.Ytifaobnemnbfhaa
