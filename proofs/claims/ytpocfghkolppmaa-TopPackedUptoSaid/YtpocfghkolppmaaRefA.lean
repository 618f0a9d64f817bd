/- Walks over the document's Writer: the same is told of it as of the program's. -/
/- Bits written by the document's Writer. -/
/- Texts and bytes: one turned into the other; Writer.Text of both. -/
import Derived.Test.YtpocfghkolppmaaBits
import Derived.Laws.BytesArg
import Derived.Laws.IdiomStrings
set_option linter.unusedVariables false
set_option linter.unusedSimpArgs false
set_option maxRecDepth 100000
namespace Go.Proofs.Ytpocfghkolppmaa
open Go

theorem be32_take (v : Int) {k : Nat} (hk : k < 4) : (be32 v).take k ++ [v / 2 ^ (24 - 8 * k) % 256] = (be32 v).take (k + 1) := by
  have : k = 0 ∨ k = 1 ∨ k = 2 ∨ k = 3 := by omega
  rcases this with rfl | rfl | rfl | rfl <;> simp [be32]

end Go.Proofs.Ytpocfghkolppmaa

namespace Go.Proofs.Ytpocfghkolppmaa
open Go

theorem shr_u8_128 {b : Nat} (hb : b < 8) : shrOp .u8 128 (b : Int) = 1 * 2 ^ (7 - b) := by
  rw [shr_eq .u8 128 b (by simp [IntKind.bits]; omega) _ rfl]
  have hbs : b = 0 ∨ b = 1 ∨ b = 2 ∨ b = 3 ∨ b = 4 ∨ b = 5 ∨ b = 6 ∨ b = 7 := by omega
  rcases hbs with rfl | rfl | rfl | rfl | rfl | rfl | rfl | rfl <;> decide

end Go.Proofs.Ytpocfghkolppmaa

namespace Go.Proofs.Ytpocfghkolppmaa
open Go

theorem nums_back {xs : List Int} (hb : ∀ z ∈ xs, 0 ≤ z ∧ z < 256) : ((strOfNums xs).data.map (fun b => Value.int .u8 b.toNat)).toList = xs.map (Value.int .u8) := by
  rw [Array.toList_map, strOfNums_data, List.map_map]
  apply List.map_congr_left
  intro z hz
  have := hb z hz
  simp only [Function.comp_apply, Value.int.injEq, true_and]
  rw [UInt8.toNat_ofNat']
  omega

theorem genK_tobytes {P : Program} {o : Oper} {s d e : TypeId} {x : Operand} (hop : o.op = .convert s d x) (hs : P.underlying s = some .string) (hd : P.underlying d = some (.slice e)) (he : P.underlying e = some (.int .u8))
    {ρ : Operand → Value} {xs : List Int} (hx : ρ x = .string (strOfNums xs)) (hb : ∀ z ∈ xs, 0 ≤ z ∧ z < 256) {w : World} {K : VWK} {tk : Tok (ρ, K)}
    (hk : ∀ w' c, Rd w' (some ⟨w.heap.size, 0, none⟩) xs.length 1 (xs.map (Value.int .u8)) → Grow w w' → K (.slice (some ⟨w.heap.size, 0, none⟩) xs.length c) w') : genK P o ρ w K tk := by
  have hrun := run_bytes_of_string (P := P) w s d e (strOfNums xs) hs hd he
  have hsz : (strOfNums xs).size = xs.length := strOfNums_size xs
  rw [hsz] at hrun
  refine ⟨_, w.drew.alloc (.cells (bytesRow (strOfNums xs) (grownCap w xs.length 0 e)) e ((bytesRow (strOfNums xs) (grownCap w xs.length 0 e)).size, (bytesRow (strOfNums xs) (grownCap w xs.length 0 e)).size + 1)), .inl ?_,
    hk _ (grownCap w xs.length 0 e) ?_ ((Grow.drew w).trans (Grow.alloc w.drew _))⟩
  · unfold execOp
    simp only [hop, hx, Sem.run_bind, hrun, Result.andThen_ok, Sem.run_pure]
  · refine ⟨by simp, fun _ => ⟨_, rfl, fun j u hu => ?_⟩⟩
    have hj : j < xs.length := by have := (List.getElem?_eq_some_iff.1 hu).1; simpa using this
    have hh : (w.drew.alloc (.cells (bytesRow (strOfNums xs) (grownCap w xs.length 0 e)) e ((bytesRow (strOfNums xs) (grownCap w xs.length 0 e)).size, (bytesRow (strOfNums xs) (grownCap w xs.length 0 e)).size + 1))).heap[w.heap.size]? = _ := heap_alloc_new w.drew _
    rw [add_lit', Nat.zero_add, cell_of_row _ _ _ _ _ _ hh]
    unfold bytesRow
    rw [Array.getElem?_append_left (by rw [Array.size_map]; show j < (strOfNums xs).size; omega)]
    rw [← Array.getElem?_toList, nums_back hb]
    exact hu

theorem run_totext {P : Program} {s d e : TypeId} (hs : P.underlying s = some (.slice e)) (he : P.underlying e = some (.int .u8)) (hd : P.underlying d = some .string)
    {A : Option Addr} {n c : Nat} {xs : List Int} {w : World} (hR : Rd w A n 1 (xs.map (Value.int .u8))) : (convert s d (.slice A n c)).run P w = .ok (.string (strOfNums xs)) w := by
  have hl := hR.len1
  cases A with
  | none =>
    have h0 : n = 0 := by
      rcases Nat.eq_zero_or_pos n with h0 | h0
      · exact h0
      · obtain ⟨ad, h, _⟩ := hR.2 h0; cases h
    subst h0
    obtain rfl := List.eq_nil_of_length_eq_zero hl
    exact run_convert_bytes_nil w s e hs he 0 c d hd
  | some a =>
    have hload : (loadCells a n).run P w = .ok (xs.map (Value.int .u8)).toArray w := by
      have h1 := run_loadCells_list (P := P) w a (xs.map (Value.int .u8)) (fun j v hj => by
        have hjl : j < xs.length := by have := (List.getElem?_eq_some_iff.1 hj).1; simpa using this
        obtain ⟨ad, h, hc⟩ := hR.2 (by omega)
        injection h with h
        subst h
        exact hc j v hj)
      simpa [hl] using h1
    rw [run_convert_bytes_string w s d e _ n c hs he hd, run_bytesToString w _ n c xs hload, foldl_push_bytes]
    simp [strOfNums, ByteArray.empty, ByteArray.emptyWithCapacity]
    rfl
theorem genK_totext {P : Program} {o : Oper} {s d e : TypeId} {x : Operand} (hop : o.op = .convert s d x) (hs : P.underlying s = some (.slice e)) (he : P.underlying e = some (.int .u8)) (hd : P.underlying d = some .string)
    {ρ : Operand → Value} {A : Option Addr} {n c : Nat} {xs : List Int} (hx : ρ x = .slice A n c) {w : World} (hR : Rd w A n 1 (xs.map (Value.int .u8))) {K : VWK} {tk : Tok (ρ, K)}
    (hk : K (.string (strOfNums xs)) w) : genK P o ρ w K tk := by
  have hrun := run_totext (c := c) hs he hd hR
  refine ⟨_, _, .inl ?_, hk⟩
  unfold execOp
  simp only [hop, hx, Sem.run_bind, hrun, Result.andThen_ok, Sem.run_pure]
theorem genY_totext {P : Program} {o : Oper} {s d e : TypeId} {x : Operand} (hop : o.op = .convert s d x) (hs : P.underlying s = some (.slice e)) (he : P.underlying e = some (.int .u8)) (hd : P.underlying d = some .string)
    {ρ : Operand → Value} {A : Option Addr} {n c : Nat} {xs : List Int} (hx : ρ x = .slice A n c) {S : World → Prop} (hR : ∀ w, S w → Rd w A n 1 (xs.map (Value.int .u8))) {K : VK} {tk : Tok (S, ρ, K)}
    (hk : K (.string (strOfNums xs))) : genY P S o ρ K tk := by
  refine ⟨_, fun w hw => ?_, hk⟩
  unfold execOp
  simp only [hop, hx, Sem.run_bind, run_totext (c := c) hs he hd (hR w hw), Result.andThen_ok, Sem.run_pure]

end Go.Proofs.Ytpocfghkolppmaa
