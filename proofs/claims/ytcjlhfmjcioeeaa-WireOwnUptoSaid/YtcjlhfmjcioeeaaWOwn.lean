/- Two Writers beside a book of bytes. -/
import Derived.Test.YtcjlhfmjcioeeaaAloneB
import Derived.Test.YtcjlhfmjcioeeaaWire
set_option linter.unusedVariables false
set_option linter.unusedSimpArgs false
set_option maxRecDepth 100000
namespace Go.Proofs.Ytcjlhfmjcioeeaa
open Go

section
variable {w0 w : World} {pb : Nat} {vs : List Value} {s0 : Value} {c0 : Nat → List Value}
theorem BkB.off (h : BkB w0 w pb vs s0 c0) {T : TypeId} {F : Nat → Prop} {p : Nat} {zs : List Int} {b : Nat} (hW : WAt T w F p zs b) (h1 : 80 ≠ T) (h2 : 22 ≠ T) : ¬ F pb ∧ ∀ k, fpV s0 k → ¬ F k := by
  obtain ⟨sv, hB, hO, rfl⟩ := hW
  refine ⟨fun q => q.elim (fun e => Blk.ne_ h.b hB h1 e) (fun q => own_blk_ne hO h.b (by decide) q), fun k hk q => q.elim (fun e => own_blk_ne h.o hB h2 (by rw [← e]; exact hk)) (fun q => own_ne h.o hO (by decide) k hk q)⟩

structure WO (w0 w : World) (pb p q : Nat) (F G : Nat → Prop) (zs : List Int) (b : Nat) (vs : List Value) (s0 : Value) (c0 : Nat → List Value) : Prop where
  W : WAt 30 w F p zs b
  M : WAt 33 w G q zs b
  d : ∀ k, F k → ¬ G k
  f : ∀ k, F k → w0.heap.size ≤ k
  g : ∀ k, G k → w0.heap.size ≤ k
  B : BkB w0 w pb vs s0 c0
  r : ∀ k, fpL vs k → ¬ F k ∧ ¬ G k
  gr : Grow w0 w
variable {p q : Nat} {F G : Nat → Prop} {zs : List Int} {b : Nat}
theorem WO.grow {w' : World} (h : WO w0 w pb p q F G zs b vs s0 c0) (k : Grow w w') : WO w0 w' pb p q F G zs b vs s0 c0 := ⟨h.W.grow k, h.M.grow k, h.d, h.f, h.g, h.B.grow k, h.r, h.gr.trans k⟩
theorem WO.wrote {w' : World} {F' G' : Nat → Prop} {zs' : List Int} {b' : Nat} (h : WO w0 w pb p q F G zs b vs s0 c0) (hW : WAt 30 w' F' p zs' b') (hM : WAt 33 w' G' q zs' b') (hd : ∀ k, F' k → ¬ G' k)
    (hS : Step (fun k => F k ∨ G k) (fun k => F' k ∨ G' k) w w') : WO w0 w' pb p q F' G' zs' b' vs s0 c0 := by
  have o1 := h.B.off h.W (by decide) (by decide)
  have o2 := h.B.off h.M (by decide) (by decide)
  have hs := h.gr.size
  have hl := h.B.row_lt
  refine ⟨hW, hM, hd, fun k hk => (hS.sub k (.inl hk)).elim (fun q => q.elim (h.f k) (h.g k)) (fun q => by omega), fun k hk => (hS.sub k (.inr hk)).elim (fun q => q.elim (h.f k) (h.g k)) (fun q => by omega),
    h.B.keep hS.keep (fun q => q.elim o1.1 o2.1) (fun i hi q => q.elim (o1.2 i hi) (o2.2 i hi)) (fun i hi q => q.elim (h.r i hi).1 (h.r i hi).2), fun k hk => ⟨fun q => (hS.sub k (.inl q)).elim (fun q => q.elim (h.r k hk).1 (h.r k hk).2) (fun q => by have := hl k hk; omega), fun q => (hS.sub k (.inr q)).elim (fun q => q.elim (h.r k hk).1 (h.r k hk).2) (fun q => by have := hl k hk; omega)⟩,
    h.gr.above hS.keep (fun i hi q => q.elim (fun q => by have := h.f i q; omega) (fun q => by have := h.g i q; omega))⟩
/-- what keeps off all of it. -/
theorem WO.keep {w' : World} {K : Nat → Prop} (h : WO w0 w pb p q F G zs b vs s0 c0) (k : Keep K w w') (h1 : ∀ i, F i → ¬ K i) (h2 : ∀ i, G i → ¬ K i) (h3 : ¬ K pb) (h4 : ∀ i, fpV s0 i → ¬ K i) (h5 : ∀ i, fpL vs i → ¬ K i) (h6 : ∀ i, i < w0.heap.size → ¬ K i) : WO w0 w' pb p q F G zs b vs s0 c0 :=
  ⟨h.W.keep k h1, h.M.keep k h2, h.d, h.f, h.g, h.B.keep k h3 h4 h5, h.r, h.gr.above k (fun i hi q => h6 i hi q)⟩
theorem WO.take (h : WO w0 w pb p q F G zs b vs s0 c0) {A : Option Addr} {n c : Nat} {xs : List Value} (ho : w.ownsRow 0 5 1 (.slice A n c) n xs) (hf : ∀ k, fpA A k → w0.heap.size ≤ k ∧ ¬ fpL vs k ∧ ¬ F k ∧ ¬ G k)
    (hb : n + 20 ≤ 140737488355328) (hN : vs.length + 1 ≤ 1099511627776) {R : VWK}
    (hr : ∀ w' s' c', WO w0 w' pb p q F G zs b (vs ++ [.slice A n c]) s' c' → Keep (fun k => k = pb ∨ fpV s0 k) w w' → (∀ k, fpV s' k → fpV s0 k ∨ w.heap.size ≤ k) → R (.tuple #[]) w') : CallsV Try.prog 18 [.pointer (some ⟨pb, 0, none⟩), .slice A n c] w R := by
  have o1 := h.B.off h.W (by decide) (by decide)
  have o2 := h.B.off h.M (by decide) (by decide)
  have hs := h.gr.size
  have hml : maxLen = 9223372036854775807 := rfl
  refine takeB_ok h.B ho (fun k hk => ⟨(hf k hk).1, (hf k hk).2.1⟩) ⟨by rw [hml]; omega, by omega⟩ hN (fun w' s' c' hB hk hs' => hr w' s' c' ⟨h.W.keep hk (fun i hi q => q.elim (fun e => o1.1 (by rw [← e]; exact hi)) (fun q => o1.2 i q hi)), h.M.keep hk (fun i hi q => q.elim (fun e => o2.1 (by rw [← e]; exact hi)) (fun q => o2.2 i q hi)), h.d, h.f, h.g, hB, fun k hk => ?_,
    h.gr.above hk (fun i hi q => q.elim (fun e => by have := h.B.fp; omega) (fun q => by have := h.B.fs i q; omega))⟩ hk hs')
  obtain ⟨u, hu, hq⟩ := hk
  rcases List.mem_append.1 hu with hu | hu
  · exact h.r k ⟨u, hu, hq⟩
  · rw [List.mem_singleton.1 hu] at hq
    have := hf k ((fpV_fpA _ _ _ _).1 hq)
    exact ⟨this.2.2.1, this.2.2.2⟩
end

end Go.Proofs.Ytcjlhfmjcioeeaa
