/- slices.Sort of int64s: the kit's contract, laid on this program. -/
import Derived.Shelf.SlLaysM
import Derived.Shelf.SortM.Plain
import Derived.Shelf.SortM.SortNone
import Derived.Test.YtcnebgokbjpjnaaGreatSer
set_option linter.unusedVariables false
set_option maxRecDepth 100000
namespace Go.Proofs.YtcnebgokbjpjnaaGreat
open Go Go.Shelf

def sortRen : Go.Shelf.Ren := ⟨fun | 5 => 27 | 8 => 78 | 7 => 77 | 19 => 98 | 20 => 99 | 10 => 89 | 11 => 90 | 12 => 91 | 13 => 92 | 14 => 93 | 15 => 94 | 16 => 95 | 17 => 96 | 18 => 97 | 30 => 103 | 31 => 104 | 32 => 105 | 33 => 106 | 34 => 107 | 35 => 101 | 40 => 109 | n => n, fun | 23 => 72 | 25 => 2 | 3 => 3 | 32 => 109 | 22 => 72 | 0 => 0 | 44 => 196 | 46 => 117 | 4 => 4 | 36 => 189 | 35 => 188 | 41 => 103 | 5 => 5 | 9 => 9 | 53 => 200 | 57 => 204 | 63 => 206 | 64 => 85 | n => n, fun n => n⟩
theorem sortLaid : SlLaysM.n5 Tryz.prog sortRen where
  mixed := by kernel_rfl
  f5 := ⟨ "slices.Sort[[]int64,int64]", by decide, Tryz.func27.trans (congrArg some (by kernel_rfl))⟩
  f7 := ⟨ "slices.pdqsortOrdered[int64]", by decide, Tryz.func77.trans (congrArg some (by kernel_rfl))⟩
  f8 := Tryz.func78.trans (congrArg some (by kernel_rfl))
  f10 := ⟨ "slices.insertionSortOrdered[int64]", by decide, Tryz.func89.trans (congrArg some (by kernel_rfl))⟩
  f11 := ⟨ "slices.heapSortOrdered[int64]", by decide, Tryz.func90.trans (congrArg some (by kernel_rfl))⟩
  f12 := ⟨ "slices.breakPatternsOrdered[int64]", by decide, Tryz.func91.trans (congrArg some (by kernel_rfl))⟩
  f13 := ⟨ "slices.choosePivotOrdered[int64]", by decide, Tryz.func92.trans (congrArg some (by kernel_rfl))⟩
  f14 := ⟨ "slices.reverseRangeOrdered[int64]", by decide, Tryz.func93.trans (congrArg some (by kernel_rfl))⟩
  f15 := ⟨ "slices.partialInsertionSortOrdered[int64]", by decide, Tryz.func94.trans (congrArg some (by kernel_rfl))⟩
  f16 := ⟨ "cmp.Less[int64]", by decide, Tryz.func95.trans (congrArg some (by kernel_rfl))⟩
  f17 := ⟨ "slices.partitionEqualOrdered[int64]", by decide, Tryz.func96.trans (congrArg some (by kernel_rfl))⟩
  f18 := ⟨ "slices.partitionOrdered[int64]", by decide, Tryz.func97.trans (congrArg some (by kernel_rfl))⟩
  f19 := Tryz.func98.trans (congrArg some (by kernel_rfl))
  f20 := Tryz.func99.trans (congrArg some (by kernel_rfl))
  f30 := ⟨ "slices.siftDownOrdered[int64]", by decide, Tryz.func103.trans (congrArg some (by kernel_rfl))⟩
  f31 := Tryz.func104.trans (congrArg some (by kernel_rfl))
  f32 := Tryz.func105.trans (congrArg some (by kernel_rfl))
  f33 := ⟨ "slices.medianAdjacentOrdered[int64]", by decide, Tryz.func106.trans (congrArg some (by kernel_rfl))⟩
  f34 := ⟨ "slices.medianOrdered[int64]", by decide, Tryz.func107.trans (congrArg some (by kernel_rfl))⟩
  f35 := ⟨ "cmp.isNaN[int64]", by decide, Tryz.func101.trans (congrArg some (by kernel_rfl))⟩
  f40 := ⟨ "slices.order2Ordered[int64]", by decide, Tryz.func109.trans (congrArg some (by kernel_rfl))⟩
  t0 := Tryz.underlying0
  a0 := Tryz.isAgg0
  z0 := Tryz.sizeOf0
  v0 := Tryz.zeroValue0
  t3 := Tryz.underlying3
  a3 := Tryz.isAgg3
  z3 := Tryz.sizeOf3
  v3 := Tryz.zeroValue3
  t4 := Tryz.underlying4
  a4 := Tryz.isAgg4
  z4 := Tryz.sizeOf4
  v4 := Tryz.zeroValue4
  t5 := Tryz.underlying5
  a5 := Tryz.isAgg5
  z5 := Tryz.sizeOf5
  v5 := Tryz.zeroValue5
  t9 := Tryz.underlying9
  a9 := Tryz.isAgg9
  z9 := Tryz.sizeOf9
  v9 := Tryz.zeroValue9
  t22 := Tryz.underlying72
  a22 := Tryz.isAgg72
  z22 := Tryz.sizeOf72
  v22 := Tryz.zeroValue72
  t23 := Tryz.underlying72
  a23 := Tryz.isAgg72
  z23 := Tryz.sizeOf72
  v23 := Tryz.zeroValue72
  t25 := Tryz.underlying2
  a25 := Tryz.isAgg2
  z25 := Tryz.sizeOf2
  v25 := Tryz.zeroValue2
  t32 := Tryz.underlying109
  a32 := Tryz.isAgg109
  z32 := Tryz.sizeOf109
  v32 := Tryz.zeroValue109
  t35 := Tryz.underlying188
  a35 := Tryz.isAgg188
  z35 := Tryz.sizeOf188
  v35 := Tryz.zeroValue188
  t36 := Tryz.underlying189
  a36 := Tryz.isAgg189
  z36 := Tryz.sizeOf189
  v36 := Tryz.zeroValue189
  t41 := Tryz.underlying103
  a41 := Tryz.isAgg103
  z41 := Tryz.sizeOf103
  v41 := Tryz.zeroValue103
  t44 := Tryz.underlying196
  a44 := Tryz.isAgg196
  z44 := Tryz.sizeOf196
  v44 := Tryz.zeroValue196
  t46 := Tryz.underlying117
  a46 := Tryz.isAgg117
  z46 := Tryz.sizeOf117
  v46 := Tryz.zeroValue117
  t53 := Tryz.underlying200
  a53 := Tryz.isAgg200
  z53 := Tryz.sizeOf200
  v53 := Tryz.zeroValue200
  t57 := Tryz.underlying204
  a57 := Tryz.isAgg204
  z57 := Tryz.sizeOf204
  v57 := Tryz.zeroValue204
  t63 := Tryz.underlying206
  a63 := Tryz.isAgg206
  z63 := Tryz.sizeOf206
  v63 := Tryz.zeroValue206
  t64 := Tryz.underlying85
  a64 := Tryz.isAgg85
  z64 := Tryz.sizeOf85
  v64 := Tryz.zeroValue85

/-- a row of int64s of one's own. -/
abbrev IRow (w : World) (v : Value) (l : List Int) : Prop := LRow w 2 1 v l.length (l.map (Value.int .i64))
def sortI (l : List Int) : List Int := l.mergeSort fun x y => decide (x ≤ y)
theorem sortI_len (l : List Int) : (sortI l).length = l.length := List.length_mergeSort ..
theorem putCells_list {cur : List Value} {zs : List Int} (h : zs.length ≤ cur.length) : Sort.putCells (Value.int .i64) 0 zs.toArray cur.toArray = (zs.map (Value.int .i64) ++ cur.drop zs.length).toArray := by
  apply Array.ext_getElem?
  intro i
  rw [Sort.putCells, Array.getElem?_mapIdx, List.getElem?_toArray, List.getElem?_toArray]
  rcases Nat.lt_or_ge i zs.length with hi | hi
  · rw [List.getElem?_append_left (by rw [List.length_map]; exact hi), List.getElem?_map, List.getElem?_eq_getElem hi, List.getElem?_eq_getElem (show i < cur.length by omega), Option.map_some, Option.map_some, if_pos ⟨Nat.zero_le _, by rw [List.size_toArray]; omega⟩]
    congr 2
    rw [Nat.sub_zero, getElem!_pos _ i (by rw [List.size_toArray]; exact hi)]
    exact List.getElem_toArray ..
  · rw [List.getElem?_append_right (by rw [List.length_map]; exact hi), List.length_map, List.getElem?_drop, show zs.length + (i - zs.length) = i by omega]
    cases hc : cur[i]? with
    | none => rfl
    | some u => rw [Option.map_some, if_neg (by rw [List.size_toArray]; omega)]
theorem sorted_world {w w' : World} {g : Nat} {t : TypeId} {cur : List Value} (hg : Blk w g t cur) {zs : List Int} (hz : zs.length ≤ cur.length) {n : Nat} {os : Array Obj} (h : w' = Sort.grow (Sort.putRow (Value.int .i64) (Sort.ahead w n) g 0 zs.toArray) os) :
    Blk w' g t (zs.map (Value.int .i64) ++ cur.drop zs.length) ∧ Keep (fun k => k = g) w w' := by
  subst h
  have hlt := hg.lt
  refine ⟨?_, ⟨rfl, rfl, rfl, ?_, fun k hk hn => ?_⟩⟩
  · unfold Blk
    show (((w.heap.modify g (Sort.onCells (Sort.putCells (Value.int .i64) 0 zs.toArray)))) ++ os)[g]? = _
    rw [Array.getElem?_append_left (by rw [Array.size_modify]; exact hlt), Array.getElem?_modify, if_pos rfl, hg.eq]
    simp only [Option.map_some, Sort.onCells]
    rw [putCells_list hz]
  · show w.heap.size ≤ (((w.heap.modify g (Sort.onCells (Sort.putCells (Value.int .i64) 0 zs.toArray)))) ++ os).size
    rw [Array.size_append, Array.size_modify]; omega
  · show (((w.heap.modify g (Sort.onCells (Sort.putCells (Value.int .i64) 0 zs.toArray)))) ++ os)[k]? = _
    rw [Array.getElem?_append_left (by rw [Array.size_modify]; exact hk), Array.getElem?_modify, if_neg (fun h => hn h.symm)]
theorem sort_ok {w : World} {v : Value} {zs : List Int} (hL : IRow w v zs) (hn : zs.length < 4611686018427387904) {R : VWK}
    (h : ∀ w', IRow w' v (sortI zs) → Keep (fpV v) w w' → R (.tuple #[]) w') : CallsV Tryz.prog 27 [v] w R := by
  rcases hL.2 with ⟨rfl, h0⟩ | ⟨g, c, cur, rfl, hg, hnc, hcm, hcc, hct⟩
  · have hz : zs = [] := List.eq_nil_of_length_eq_zero h0
    subst hz
    refine Calls.mono (AnyM.slices_Sort_int_none sortLaid none 0 w) fun e w' ⟨he, hw⟩ => ⟨_, he, ?_⟩
    subst hw
    have e0 : sortI [] = [] := by simp [sortI]
    rw [e0] at h
    exact h w' (LRow.nil _ _ _) (Keep.refl _ _)
  · have hzc : zs.length ≤ cur.length := by omega
    have hcell : ∀ j, j < zs.toArray.size → w.cell? ⟨g, 0 + j, none⟩ = some ((Value.int .i64) zs.toArray[j]!) ∧ w.frozen? ⟨g, 0 + j, none⟩ = false := fun j hj => by
      rw [List.size_toArray] at hj
      refine ⟨?_, hg.frozen _⟩
      rw [Nat.zero_add, hg.cell, getElem!_pos _ j (by rw [List.size_toArray]; exact hj), List.getElem_toArray]
      have h1 : (cur.take (zs.length * 1))[j]? = some (.int .i64 zs[j]) := by rw [hct, List.getElem?_map, List.getElem?_eq_getElem hj]; rfl
      rw [List.getElem?_take] at h1
      split at h1
      · exact h1
      · cases h1
    refine Calls.mono (AnyM.slices_Sort_int sortLaid g 0 c zs w hcell hg.lt hn) fun e w' ⟨he, n, os, hw⟩ => ⟨_, he, ?_⟩
    have hsl : (sortI zs).length = zs.length := sortI_len zs
    obtain ⟨hB, hK⟩ := sorted_world (zs := sortI zs) hg (by rw [hsl]; exact hzc) hw
    refine h w' ⟨by simp, .inr ⟨g, c, _, by rw [hsl], hB, by rw [hsl]; exact hnc, hcm, ?_, ?_⟩⟩ (hK.mono (fun k _ hk => (fpV_some _ _ _ _).2 hk))
    · rw [List.length_append, List.length_map, List.length_drop, hsl]; omega
    · rw [Nat.mul_one]
      exact List.take_left' (by rw [List.length_map])

end Go.Proofs.YtcnebgokbjpjnaaGreat
