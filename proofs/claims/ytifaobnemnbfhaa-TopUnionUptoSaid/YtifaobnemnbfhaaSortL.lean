/- slices.Sort of int64s: the kit's contract, laid on this program. -/
import Derived.Shelf.SlLaysM
import Derived.Shelf.SortM.Plain
import Derived.Shelf.SortM.SortNone
import Derived.Test.YtifaobnemnbfhaaSer
set_option linter.unusedVariables false
set_option maxRecDepth 100000
namespace Go.Proofs.Ytifaobnemnbfhaa
open Go Go.Shelf

def sortRen : Go.Shelf.Ren := ⟨fun | 5 => 14 | 8 => 27 | 7 => 26 | 19 => 46 | 20 => 47 | 10 => 37 | 11 => 38 | 12 => 39 | 13 => 40 | 14 => 41 | 15 => 42 | 16 => 43 | 17 => 44 | 18 => 45 | 30 => 55 | 31 => 56 | 32 => 57 | 33 => 58 | 34 => 59 | 35 => 53 | 40 => 65 | n => n, fun | 23 => 53 | 25 => 2 | 3 => 3 | 32 => 72 | 22 => 53 | 0 => 0 | 44 => 93 | 46 => 95 | 4 => 4 | 36 => 86 | 35 => 85 | 41 => 65 | 5 => 5 | 9 => 9 | 53 => 100 | 57 => 104 | 63 => 111 | 64 => 61 | n => n, fun n => n⟩
theorem sortLaid : SlLaysM.n5 Try.prog sortRen where
  mixed := by kernel_rfl
  f5 := ⟨ "slices.Sort[[]int64,int64]", by decide, Try.func14.trans (congrArg some (by kernel_rfl))⟩
  f7 := ⟨ "slices.pdqsortOrdered[int64]", by decide, Try.func26.trans (congrArg some (by kernel_rfl))⟩
  f8 := Try.func27.trans (congrArg some (by kernel_rfl))
  f10 := ⟨ "slices.insertionSortOrdered[int64]", by decide, Try.func37.trans (congrArg some (by kernel_rfl))⟩
  f11 := ⟨ "slices.heapSortOrdered[int64]", by decide, Try.func38.trans (congrArg some (by kernel_rfl))⟩
  f12 := ⟨ "slices.breakPatternsOrdered[int64]", by decide, Try.func39.trans (congrArg some (by kernel_rfl))⟩
  f13 := ⟨ "slices.choosePivotOrdered[int64]", by decide, Try.func40.trans (congrArg some (by kernel_rfl))⟩
  f14 := ⟨ "slices.reverseRangeOrdered[int64]", by decide, Try.func41.trans (congrArg some (by kernel_rfl))⟩
  f15 := ⟨ "slices.partialInsertionSortOrdered[int64]", by decide, Try.func42.trans (congrArg some (by kernel_rfl))⟩
  f16 := ⟨ "cmp.Less[int64]", by decide, Try.func43.trans (congrArg some (by kernel_rfl))⟩
  f17 := ⟨ "slices.partitionEqualOrdered[int64]", by decide, Try.func44.trans (congrArg some (by kernel_rfl))⟩
  f18 := ⟨ "slices.partitionOrdered[int64]", by decide, Try.func45.trans (congrArg some (by kernel_rfl))⟩
  f19 := Try.func46.trans (congrArg some (by kernel_rfl))
  f20 := Try.func47.trans (congrArg some (by kernel_rfl))
  f30 := ⟨ "slices.siftDownOrdered[int64]", by decide, Try.func55.trans (congrArg some (by kernel_rfl))⟩
  f31 := Try.func56.trans (congrArg some (by kernel_rfl))
  f32 := Try.func57.trans (congrArg some (by kernel_rfl))
  f33 := ⟨ "slices.medianAdjacentOrdered[int64]", by decide, Try.func58.trans (congrArg some (by kernel_rfl))⟩
  f34 := ⟨ "slices.medianOrdered[int64]", by decide, Try.func59.trans (congrArg some (by kernel_rfl))⟩
  f35 := ⟨ "cmp.isNaN[int64]", by decide, Try.func53.trans (congrArg some (by kernel_rfl))⟩
  f40 := ⟨ "slices.order2Ordered[int64]", by decide, Try.func65.trans (congrArg some (by kernel_rfl))⟩
  t0 := Try.underlying0
  a0 := Try.isAgg0
  z0 := Try.sizeOf0
  v0 := Try.zeroValue0
  t3 := Try.underlying3
  a3 := Try.isAgg3
  z3 := Try.sizeOf3
  v3 := Try.zeroValue3
  t4 := Try.underlying4
  a4 := Try.isAgg4
  z4 := Try.sizeOf4
  v4 := Try.zeroValue4
  t5 := Try.underlying5
  a5 := Try.isAgg5
  z5 := Try.sizeOf5
  v5 := Try.zeroValue5
  t9 := Try.underlying9
  a9 := Try.isAgg9
  z9 := Try.sizeOf9
  v9 := Try.zeroValue9
  t22 := Try.underlying53
  a22 := Try.isAgg53
  z22 := Try.sizeOf53
  v22 := Try.zeroValue53
  t23 := Try.underlying53
  a23 := Try.isAgg53
  z23 := Try.sizeOf53
  v23 := Try.zeroValue53
  t25 := Try.underlying2
  a25 := Try.isAgg2
  z25 := Try.sizeOf2
  v25 := Try.zeroValue2
  t32 := Try.underlying72
  a32 := Try.isAgg72
  z32 := Try.sizeOf72
  v32 := Try.zeroValue72
  t35 := Try.underlying85
  a35 := Try.isAgg85
  z35 := Try.sizeOf85
  v35 := Try.zeroValue85
  t36 := Try.underlying86
  a36 := Try.isAgg86
  z36 := Try.sizeOf86
  v36 := Try.zeroValue86
  t41 := Try.underlying65
  a41 := Try.isAgg65
  z41 := Try.sizeOf65
  v41 := Try.zeroValue65
  t44 := Try.underlying93
  a44 := Try.isAgg93
  z44 := Try.sizeOf93
  v44 := Try.zeroValue93
  t46 := Try.underlying95
  a46 := Try.isAgg95
  z46 := Try.sizeOf95
  v46 := Try.zeroValue95
  t53 := Try.underlying100
  a53 := Try.isAgg100
  z53 := Try.sizeOf100
  v53 := Try.zeroValue100
  t57 := Try.underlying104
  a57 := Try.isAgg104
  z57 := Try.sizeOf104
  v57 := Try.zeroValue104
  t63 := Try.underlying111
  a63 := Try.isAgg111
  z63 := Try.sizeOf111
  v63 := Try.zeroValue111
  t64 := Try.underlying61
  a64 := Try.isAgg61
  z64 := Try.sizeOf61
  v64 := Try.zeroValue61

/-- a row of int64s of one's own. -/
abbrev IRow (w : World) (v : Value) (l : List Int) : Prop := LRow w 2 1 v l.length (l.map (Value.int .i64))
def sortI (l : List Int) : List Int := l.mergeSort fun x y => decide (x ≤ y)
theorem sortI_len (l : List Int) : (sortI l).length = l.length := List.length_mergeSort ..
theorem putCells_list {cur : List Value} {zs : List Int} (h : zs.length ≤ cur.length) : Sort.putCells (Value.int .i64) 0 zs.toArray cur.toArray = (zs.map (Value.int .i64) ++ cur.drop zs.length).toArray := by
  apply Array.ext_getElem?
  intro i
  rw [Sort.putCells, Array.getElem?_mapIdx, List.getElem?_toArray, List.getElem?_toArray]
  rcases Nat.lt_or_ge i zs.length with hi | hi
  · rw [List.getElem?_append_left (by rw [List.length_map]; exact hi), List.getElem?_map, List.getElem?_eq_getElem hi, List.getElem?_eq_getElem (show i < cur.length by omega), Option.map_some, Option.map_some, if_pos ⟨Nat.zero_le _, by rw [List.size_toArray]; omega⟩]
    congr 2
    rw [Nat.sub_zero, getElem!_pos _ i (by rw [List.size_toArray]; exact hi)]
    exact List.getElem_toArray ..
  · rw [List.getElem?_append_right (by rw [List.length_map]; exact hi), List.length_map, List.getElem?_drop, show zs.length + (i - zs.length) = i by omega]
    cases hc : cur[i]? with
    | none => rfl
    | some u => rw [Option.map_some, if_neg (by rw [List.size_toArray]; omega)]
theorem sorted_world {w w' : World} {g : Nat} {t : TypeId} {cur : List Value} (hg : Blk w g t cur) {zs : List Int} (hz : zs.length ≤ cur.length) {n : Nat} {os : Array Obj} (h : w' = Sort.grow (Sort.putRow (Value.int .i64) (Sort.ahead w n) g 0 zs.toArray) os) :
    Blk w' g t (zs.map (Value.int .i64) ++ cur.drop zs.length) ∧ Keep (fun k => k = g) w w' := by
  subst h
  have hlt := hg.lt
  refine ⟨?_, ⟨rfl, rfl, rfl, ?_, fun k hk hn => ?_⟩⟩
  · unfold Blk
    show (((w.heap.modify g (Sort.onCells (Sort.putCells (Value.int .i64) 0 zs.toArray)))) ++ os)[g]? = _
    rw [Array.getElem?_append_left (by rw [Array.size_modify]; exact hlt), Array.getElem?_modify, if_pos rfl, hg.eq]
    simp only [Option.map_some, Sort.onCells]
    rw [putCells_list hz]
  · show w.heap.size ≤ (((w.heap.modify g (Sort.onCells (Sort.putCells (Value.int .i64) 0 zs.toArray)))) ++ os).size
    rw [Array.size_append, Array.size_modify]; omega
  · show (((w.heap.modify g (Sort.onCells (Sort.putCells (Value.int .i64) 0 zs.toArray)))) ++ os)[k]? = _
    rw [Array.getElem?_append_left (by rw [Array.size_modify]; exact hk), Array.getElem?_modify, if_neg (fun h => hn h.symm)]
theorem sort_ok {w : World} {v : Value} {zs : List Int} (hL : IRow w v zs) (hn : zs.length < 4611686018427387904) {R : VWK}
    (h : ∀ w', IRow w' v (sortI zs) → Keep (fpV v) w w' → R (.tuple #[]) w') : CallsV Try.prog 14 [v] w R := by
  rcases hL.2 with ⟨rfl, h0⟩ | ⟨g, c, cur, rfl, hg, hnc, hcm, hcc, hct⟩
  · have hz : zs = [] := List.eq_nil_of_length_eq_zero h0
    subst hz
    refine Calls.mono (AnyM.slices_Sort_int_none sortLaid none 0 w) fun e w' ⟨he, hw⟩ => ⟨_, he, ?_⟩
    subst hw
    have e0 : sortI [] = [] := by simp [sortI]
    rw [e0] at h
    exact h w' (LRow.nil _ _ _) (Keep.refl _ _)
  · have hzc : zs.length ≤ cur.length := by omega
    have hcell : ∀ j, j < zs.toArray.size → w.cell? ⟨g, 0 + j, none⟩ = some ((Value.int .i64) zs.toArray[j]!) ∧ w.frozen? ⟨g, 0 + j, none⟩ = false := fun j hj => by
      rw [List.size_toArray] at hj
      refine ⟨?_, hg.frozen _⟩
      rw [Nat.zero_add, hg.cell, getElem!_pos _ j (by rw [List.size_toArray]; exact hj), List.getElem_toArray]
      have h1 : (cur.take (zs.length * 1))[j]? = some (.int .i64 zs[j]) := by rw [hct, List.getElem?_map, List.getElem?_eq_getElem hj]; rfl
      rw [List.getElem?_take] at h1
      split at h1
      · exact h1
      · cases h1
    refine Calls.mono (AnyM.slices_Sort_int sortLaid g 0 c zs w hcell hg.lt hn) fun e w' ⟨he, n, os, hw⟩ => ⟨_, he, ?_⟩
    have hsl : (sortI zs).length = zs.length := sortI_len zs
    obtain ⟨hB, hK⟩ := sorted_world (zs := sortI zs) hg (by rw [hsl]; exact hzc) hw
    refine h w' ⟨by simp, .inr ⟨g, c, _, by rw [hsl], hB, by rw [hsl]; exact hnc, hcm, ?_, ?_⟩⟩ (hK.mono (fun k _ hk => (fpV_some _ _ _ _).2 hk))
    · rw [List.length_append, List.length_map, List.length_drop, hsl]; omega
    · rw [Nat.mul_one]
      exact List.take_left' (by rw [List.length_map])

end Go.Proofs.Ytifaobnemnbfhaa
