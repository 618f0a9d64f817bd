/- Rows of points, one's own. -/
import Derived.Test.YtljgnocpijniiaaGreatDoorChk
import Derived.Test.YtljgnocpijniiaaGreatDoorRow
import Derived.Test.YtljgnocpijniiaaGreatDoorOrdQ
set_option linter.unusedVariables false
set_option linter.unusedSimpArgs false
set_option maxRecDepth 100000
namespace Go.Proofs.YtljgnocpijniiaaGreatDoor
open Go

abbrev PRow (w : World) (v : Value) (L : List PtV) : Prop := LRow w 25 4 v L.length (L.flatMap PtV.cells)
theorem pflat_one (l : List PtV) : ∀ u ∈ l.flatMap PtV.cells, u.oneCell' = true := by
  intro u hu
  obtain ⟨x, _, hx⟩ := List.mem_flatMap.1 hu
  exact pcells_one x u hx
theorem LRow.empty (w : World) (e : TypeId) (size : Nat) : LRow (w.alloc (.cells #[] e)) e size (.slice (some ⟨w.heap.size, 0, none⟩) 0 0) 0 [] := by
  have := LRow.of_own (own_new w e size 0 #[] (by simp) (Nat.zero_le _))
  simpa using this
theorem app_p {w : World} {v : Value} {L : List PtV} (h : PRow w v L) {A : Option Addr} {n c : Nat} {xs : List PtV} (hX : RdP w A n xs) (hn : L.length + n ≤ 1000000000000) {ty : TypeId} {K : VWK} {tk : Tok K}
    (hK : ∀ A' c' w', LRow w' 25 4 (.slice A' (L.length + n) c') (L ++ xs).length ((L ++ xs).flatMap PtV.cells) → Keep (fpV v) w w' → (∀ q, fpV (.slice A' (L.length + n) c') q → fpV v q ∨ q = w.heap.size) → K (.slice A' (L.length + n) c') w') :
    appK Tryz.prog [36, 36] ty [v, .slice A n c] w K tk := by
  have hl := hX.plen
  refine appK_l (bytes := 72) (by kernel_rfl) h hX (pflat_one xs) (by simp only [maxLen]; omega) (by omega) (fun A' c' w' hL k1 f1 _ => hK A' c' w' ?_ k1 f1)
  rw [List.flatMap_append, List.length_append, hl]
  exact hL
theorem wOrd_two (a b : List Wr) : wOrd (wOrd a ++ wOrd b) = wOrd (a ++ b) := by
  unfold wOrd
  rw [← merge_load cmpW_cmp, ← merge_load cmpW_cmp a b, load_strict cmpW_cmp (StrictC.load cmpW_cmp List.Pairwise.nil), load_strict cmpW_cmp (StrictC.load cmpW_cmp List.Pairwise.nil)]
theorem wOrd_wOrd (a : List Wr) : wOrd (wOrd a) = wOrd a := load_strict cmpW_cmp (StrictC.load cmpW_cmp List.Pairwise.nil)
/-- an element's cells do not move while its row's cells stay. -/
theorem all_grow {w w' : World} {l : List PtV} (h : ∀ x ∈ l, x.Ok w) (g : Grow w w') : ∀ x ∈ l, x.Ok w' := fun x hx => (h x hx).grow g

abbrev FRow (w : World) (v : Value) (l : List Fd) : Prop := LRow w 98 2 v l.length (l.flatMap fcells)
theorem fcells_one (l : List Fd) : ∀ u ∈ l.flatMap fcells, u.oneCell' = true := by
  intro u hu
  obtain ⟨x, _, hx⟩ := List.mem_flatMap.1 hu
  simp only [fcells, List.mem_cons, List.not_mem_nil, or_false] at hx
  rcases hx with rfl | rfl <;> rfl
theorem app_f {w : World} {v : Value} {L : List Fd} (h : FRow w v L) {A : Option Addr} {n c : Nat} {xs : List Fd} (hX : RdF w A n xs) (hn : L.length + n ≤ 1000000000000) {ty : TypeId} {K : VWK} {tk : Tok K}
    (hK : ∀ A' c' w', LRow w' 98 2 (.slice A' (L.length + n) c') (L ++ xs).length ((L ++ xs).flatMap fcells) → Keep (fpV v) w w' → (∀ q, fpV (.slice A' (L.length + n) c') q → fpV v q ∨ q = w.heap.size) → K (.slice A' (L.length + n) c') w') :
    appK Tryz.prog [23, 23] ty [v, .slice A n c] w K tk := by
  have hl := hX.flen
  refine appK_l (bytes := 24) (by kernel_rfl) h hX (fcells_one xs) (by simp only [maxLen]; omega) (by omega) (fun A' c' w' hL k1 f1 _ => hK A' c' w' ?_ k1 f1)
  rw [List.flatMap_append, List.length_append, hl]
  exact hL
theorem one_frow (w : World) (x : Fd) : RdF (w.alloc (.cells #[.string x.1, .int .i64 x.2] 98)) (some ⟨w.heap.size, 0, none⟩) 1 [x] := by
  have := Rd.of_own (own_new w 98 2 1 #[.string x.1, .int .i64 x.2] rfl (by simp [maxLen]))
  exact this
theorem one_ptrow (w : World) (x : PtV) : RdP (w.alloc (.cells x.cells.toArray 25)) (some ⟨w.heap.size, 0, none⟩) 1 [x] := by
  have := Rd.of_own (own_new w 25 4 1 x.cells.toArray rfl (by simp [maxLen]))
  have e : ([x] : List PtV).flatMap PtV.cells = x.cells := by simp
  rw [RdP, e]; exact this

end Go.Proofs.YtljgnocpijniiaaGreatDoor
