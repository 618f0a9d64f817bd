/- slices.Sort of texts. -/
/- slices.Compact of texts. -/
import Derived.Shelf.SortM.Plain
import Derived.Shelf.SortM.SortNone
import Derived.Test.YtljgnocpijniiaaGreatDoorLays3
import Derived.Test.YtljgnocpijniiaaGreatDoorRow
import Derived.Test.YtljgnocpijniiaaGreatDoorSmpS
import Derived.Test.YtljgnocpijniiaaGreatDoorStrL
import Derived.Test.YtljgnocpijniiaaGreatDoorClones
set_option linter.unusedVariables false
set_option maxRecDepth 100000
set_option linter.unusedSimpArgs false
namespace Go.Proofs.YtljgnocpijniiaaGreatDoor
open Go Go.Shelf

/-- a row of texts of one's own. -/
abbrev BRow (w : World) (v : Value) (l : List ByteArray) : Prop := LRow w 9 1 v l.length (l.map Value.string)
def mkB (l : List UInt8) : ByteArray := ⟨l.toArray⟩
def sortB (l : List ByteArray) : List ByteArray := ((l.map fun b => b.data.toList).mergeSort fun x y => decide (x ≤ y)).map mkB
theorem sortB_len (l : List ByteArray) : (sortB l).length = l.length := by rw [sortB, List.length_map, List.length_mergeSort, List.length_map]
theorem putCellsB {α : Type} [Inhabited α] {enc : α → Value} {cur : List Value} {zs : List α} (h : zs.length ≤ cur.length) : Sort.putCells enc 0 zs.toArray cur.toArray = (zs.map enc ++ cur.drop zs.length).toArray := by
  apply Array.ext_getElem?
  intro i
  rw [Sort.putCells, Array.getElem?_mapIdx, List.getElem?_toArray, List.getElem?_toArray]
  rcases Nat.lt_or_ge i zs.length with hi | hi
  · rw [List.getElem?_append_left (by rw [List.length_map]; exact hi), List.getElem?_map, List.getElem?_eq_getElem hi, List.getElem?_eq_getElem (show i < cur.length by omega), Option.map_some, Option.map_some, if_pos ⟨Nat.zero_le _, by rw [List.size_toArray]; omega⟩]
    congr 2
    rw [Nat.sub_zero, getElem!_pos _ i (by rw [List.size_toArray]; exact hi)]
    exact List.getElem_toArray ..
  · rw [List.getElem?_append_right (by rw [List.length_map]; exact hi), List.length_map, List.getElem?_drop, show zs.length + (i - zs.length) = i by omega]
    cases hc : cur[i]? with
    | none => rfl
    | some u => rw [Option.map_some, if_neg (by rw [List.size_toArray]; omega)]
theorem sortedB {α : Type} [Inhabited α] {enc : α → Value} {w w' : World} {g : Nat} {t : TypeId} {cur : List Value} (hg : Blk w g t cur) {zs : List α} (hz : zs.length ≤ cur.length) {n : Nat} {os : Array Obj} (h : w' = Sort.grow (Sort.putRow enc (Sort.ahead w n) g 0 zs.toArray) os) :
    Blk w' g t (zs.map enc ++ cur.drop zs.length) ∧ Keep (fun k => k = g) w w' := by
  subst h
  have hlt := hg.lt
  refine ⟨?_, ⟨rfl, rfl, rfl, ?_, fun k hk hn => ?_⟩⟩
  · unfold Blk
    show (((w.heap.modify g (Sort.onCells (Sort.putCells enc 0 zs.toArray)))) ++ os)[g]? = _
    rw [Array.getElem?_append_left (by rw [Array.size_modify]; exact hlt), Array.getElem?_modify, if_pos rfl, hg.eq]
    simp only [Option.map_some, Sort.onCells]
    rw [putCellsB hz]
  · show w.heap.size ≤ (((w.heap.modify g (Sort.onCells (Sort.putCells enc 0 zs.toArray)))) ++ os).size
    rw [Array.size_append, Array.size_modify]; omega
  · show (((w.heap.modify g (Sort.onCells (Sort.putCells enc 0 zs.toArray)))) ++ os)[k]? = _
    rw [Array.getElem?_append_left (by rw [Array.size_modify]; exact hk), Array.getElem?_modify, if_neg (fun h => hn h.symm)]
theorem sortB_ok {w : World} {v : Value} {l : List ByteArray} (hL : BRow w v l) (hn : l.length < 4611686018427387904) {R : VWK}
    (h : ∀ w', BRow w' v (sortB l) → Keep (fpV v) w w' → R (.tuple #[]) w') : CallsV Tryz.prog 131 [v] w R := by
  rcases hL.2 with ⟨rfl, h0⟩ | ⟨g, c, cur, rfl, hg, hnc, hcm, hcc, hct⟩
  · have hz : l = [] := List.eq_nil_of_length_eq_zero h0
    subst hz
    refine Calls.mono (AnyM.slices_Sort_string_none sortSLaid none 0 w) fun e w' ⟨he, hw⟩ => ⟨_, he, ?_⟩
    subst hw
    have e0 : sortB [] = [] := by simp [sortB]
    rw [e0] at h
    exact h w' (LRow.nil _ _ _) (Keep.refl _ _)
  · have hzc : l.length ≤ cur.length := by omega
    generalize hzs : (l.map fun b => b.data.toList) = zs
    have hzl : zs.length = l.length := by rw [← hzs, List.length_map]
    have hcell : ∀ j, j < zs.toArray.size → w.cell? ⟨g, 0 + j, none⟩ = some (encStr zs.toArray[j]!) ∧ w.frozen? ⟨g, 0 + j, none⟩ = false := fun j hj => by
      rw [List.size_toArray] at hj
      refine ⟨?_, hg.frozen _⟩
      rw [Nat.zero_add, hg.cell, getElem!_pos _ j (by rw [List.size_toArray]; exact hj), List.getElem_toArray]
      have hjl : j < l.length := by omega
      have h1 : (cur.take (l.length * 1))[j]? = some (.string l[j]) := by rw [hct, List.getElem?_map, List.getElem?_eq_getElem hjl]; rfl
      rw [List.getElem?_take] at h1
      have e1 : encStr zs[j] = .string l[j] := by
        subst hzs
        rw [List.getElem_map]
      rw [e1]
      split at h1
      · exact h1
      · cases h1
    have hcall := AnyM.slices_Sort_string sortSLaid g 0 c zs w hcell hg.lt (by omega)
    rw [hzl] at hcall
    refine Calls.mono hcall fun e w' ⟨he, n, os, hw⟩ => ⟨_, he, ?_⟩
    have hml : (zs.mergeSort fun x y => decide (x ≤ y)).length = l.length := by rw [List.length_mergeSort, hzl]
    have hsl : (sortB l).length = l.length := sortB_len l
    have hmap : (zs.mergeSort fun x y => decide (x ≤ y)).map encStr = (sortB l).map Value.string := by
      rw [sortB, List.map_map, hzs]
      rfl
    obtain ⟨hB, hK⟩ := sortedB (enc := encStr) (zs := zs.mergeSort fun x y => decide (x ≤ y)) hg (by rw [hml]; exact hzc) hw
    rw [hmap, hml] at hB
    refine h w' ⟨by simp, .inr ⟨g, c, _, by rw [hsl], hB, by rw [hsl]; exact hnc, hcm, ?_, ?_⟩⟩ (hK.mono (fun k _ hk => (fpV_some _ _ _ _).2 hk))
    · rw [List.length_append, List.length_map, List.length_drop, hsl]; omega
    · rw [Nat.mul_one]
      exact List.take_left' (by rw [List.length_map])

end Go.Proofs.YtljgnocpijniiaaGreatDoor

namespace Go.Proofs.YtljgnocpijniiaaGreatDoor
open Go

/-- the zero of an element is of cells. -/
def zeroOneZ (P : Program) (e : TypeId) : Bool := match P.info? e with
  | some i => (match i.zero with | some z => z.cells.toList.all (·.oneCell') | none => false)
  | none => false
theorem zero_oneZ {P : Program} {t e : TypeId} {size bytes : Nat} (h : zeroOneZ P e = true) : ∀ z, elemFacts P t e size bytes z → ∀ u ∈ z.cells.toList, u.oneCell' = true := by
  rintro z ⟨_, ⟨i, hi, hz, _, _⟩, _, _⟩ u hu
  simp only [zeroOneZ, hi, hz, List.all_eq_true] at h
  exact h u hu
theorem beqZ {a b : ByteArray} : (a.toList == b.toList) = decide (a = b) := by
  rw [beqS]
  by_cases h : a = b
  · rw [decide_eq_true h, decide_eq_true ((cmpS_eq a b).2 h)]
  · rw [decide_eq_false h, decide_eq_false (fun q => h ((cmpS_eq a b).1 q))]
/-- of like neighbours one. -/
def cpzS (acc : List ByteArray) (x : ByteArray) : List ByteArray := if acc.getLast? = some x then acc else acc ++ [x]
def cpz (l : List ByteArray) : List ByteArray := l.foldl cpzS []
theorem cpz_snoc (l : List ByteArray) (x : ByteArray) : cpz (l ++ [x]) = cpzS (cpz l) x := by rw [cpz, List.foldl_append]; rfl
theorem snoc_indB {p : List ByteArray → Prop} (h0 : p []) (h1 : ∀ l x, p l → p (l ++ [x])) (l : List ByteArray) : p l := by
  have : ∀ n (l : List ByteArray), l.length = n → p l := by
    intro n
    induction n with
    | zero => intro l h; rw [List.eq_nil_of_length_eq_zero h]; exact h0
    | succ n ih =>
      intro l h
      have hne : l ≠ [] := by intro e; rw [e] at h; cases h
      rw [← List.dropLast_concat_getLast hne]
      exact h1 _ _ (ih _ (by rw [List.length_dropLast]; omega))
  exact this _ l rfl
theorem cpz_last (l : List ByteArray) : (cpz l).getLast? = l.getLast? := by
  refine snoc_indB (p := fun l => (cpz l).getLast? = l.getLast?) rfl (fun l x ih => ?_) l
  rw [cpz_snoc, cpzS]
  split
  · rename_i h; rw [h, List.getLast?_concat]
  · rw [List.getLast?_concat, List.getLast?_concat]
theorem cpz_len (l : List ByteArray) : (cpz l).length ≤ l.length := by
  refine snoc_indB (p := fun l => (cpz l).length ≤ l.length) (Nat.le_refl _) (fun l x ih => ?_) l
  rw [cpz_snoc, cpzS, List.length_append]
  split
  · omega
  · rw [List.length_append]; exact Nat.add_le_add_right ih 1
theorem last_takeB {l : List ByteArray} {m : Nat} (h0 : 0 < m) (hm : m ≤ l.length) : (l.take m).getLast? = some (l.getD (m - 1) ByteArray.empty) := by
  rw [List.getLast?_eq_getElem?, List.length_take, Nat.min_eq_left hm, List.getElem?_take, if_pos (by omega), List.getElem?_eq_getElem (by omega), List.getD_eq_getElem?_getD, List.getElem?_eq_getElem (by omega)]
  rfl
theorem cpz_step {l : List ByteArray} {m : Nat} (h0 : 0 < m) (hm : m < l.length) : cpz (l.take (m + 1)) = if l.getD (m - 1) ByteArray.empty = l.getD m ByteArray.empty then cpz (l.take m) else cpz (l.take m) ++ [l.getD m ByteArray.empty] := by
  rw [take_snoc ByteArray.empty hm, cpz_snoc, cpzS, cpz_last, last_takeB h0 (by omega)]
  by_cases h : l.getD (m - 1) ByteArray.empty = l.getD m ByteArray.empty
  · rw [if_pos h, if_pos (by rw [h])]
  · rw [if_neg h, if_neg (fun e => h (by injection e))]
theorem cpz_one {l : List ByteArray} (h : 1 ≤ l.length) : cpz (l.take 1) = l.take 1 := by
  cases l with
  | nil => simp at h
  | cons a l => rfl
theorem compactB_ok {w : World} {v : Value} {l : List ByteArray} (hL : BRow w v l) (hn : l.length ≤ 17592186044416) {R : VWK}
    (h : ∀ w' v', BRow w' v' (cpz l) → Keep (fpV v) w w' → (∀ q, fpV v' q → fpV v q) → R v' w') :
    CallsV Tryz.prog 132 [v] w R := by
  rcases Nat.lt_or_ge l.length 2 with h2 | h2
  · have hc : cpz l = l := by
      match l, h2 with
      | [], _ => rfl
      | [a], _ => rfl
    obtain ⟨A, c, rfl, hnc, hA⟩ := hL.form
    have hd : decide ((l.length : Int) < 2) = true := decide_eq_true (by omega)
    refine calls_of_wpC mixed Tryz.func132 rfl (by kernel_rfl) ?_
    intro e he
    have he0 := he 0
    simp only [List.getD_cons_zero, List.getD_cons_succ] at he0
    clear he
    try simp -dsimp only [↓RE,↓c_seq,RU,RL,Nat.reduceLeDiff,Nat.reduceLT,pureOp,binPure,intBin,strBin,eqPure,isConstO,sliceLo,sliceHi,slicePure,lenPure,resK,endV,↓reduceIte,Nat.reduceEqDiff,reduceCtorEq,Nat.reduceAdd,Nat.reduceMul,Nat.reduceSub,Int.reduceLT,Int.reduceLE,Int.reduceToNat,Int.reduceAdd,Int.reduceSub,ne_eq,decide_true,decide_false,tf132, he0, hd]
    exact h w _ (by rw [hc]; exact hL) (Keep.refl _ _) (fun q hq => hq)
  rcases hL.2 with ⟨_, h0⟩ | ⟨g, c, cur, rfl, hg, hnc, hcm, hcc, hct⟩
  · omega
  rw [Nat.mul_one] at hct hcc
  have hlc : l.length ≤ cur.length := by omega
  have hcur : ∀ j, j < l.length → cur[j]? = some (.string (l.getD j ByteArray.empty)) := fun j hj => by
    have h1 : (cur.take l.length)[j]? = some (.string (l.getD j ByteArray.empty)) := by
      rw [hct, List.getElem?_map, List.getElem?_eq_getElem hj, List.getD_eq_getElem?_getD, List.getElem?_eq_getElem hj]; rfl
    rwa [List.getElem?_take, if_pos hj] at h1
  have hd : decide ((l.length : Int) < 2) = false := decide_eq_false (by omega)
  refine calls_of_wpC mixed Tryz.func132 rfl (by kernel_rfl) ?_
  intro e he
  have he0 := he 0
  simp only [List.getD_cons_zero, List.getD_cons_succ] at he0
  clear he
  rw [c_seq]
  simp -dsimp only [↓RE,RU,RL,Nat.reduceLeDiff,Nat.reduceLT,pureOp,binPure,intBin,strBin,eqPure,isConstO,sliceLo,sliceHi,slicePure,lenPure,resK,endV,↓reduceIte,Nat.reduceEqDiff,reduceCtorEq,Nat.reduceAdd,Nat.reduceMul,Nat.reduceSub,Int.reduceLT,Int.reduceLE,Int.reduceToNat,Int.reduceAdd,Int.reduceSub,ne_eq,decide_true,decide_false,tf132, he0]
  rw [c_seq, c_seq]
  simp -dsimp only [↓RE,RU,RL,Nat.reduceLeDiff,Nat.reduceLT,pureOp,binPure,intBin,strBin,eqPure,isConstO,sliceLo,sliceHi,slicePure,lenPure,resK,endV,↓reduceIte,Nat.reduceEqDiff,reduceCtorEq,Nat.reduceAdd,Nat.reduceMul,Nat.reduceSub,Int.reduceLT,Int.reduceLE,Int.reduceToNat,Int.reduceAdd,Int.reduceSub,ne_eq,decide_true,decide_false,tf132, he0, hd]
  refine c_seq_cut (fun e' w' => e' 0 = .slice (some ⟨g, 0, none⟩) l.length c ∧ cpz l = l ∧ Grow w w') ?_ ?_
  · rw [c_seq]
    simp -dsimp only [↓RE,RU,RL,Nat.reduceLeDiff,Nat.reduceLT,pureOp,binPure,intBin,strBin,eqPure,isConstO,sliceLo,sliceHi,slicePure,lenPure,resK,endV,↓reduceIte,Nat.reduceEqDiff,reduceCtorEq,Nat.reduceAdd,Nat.reduceMul,Nat.reduceSub,Int.reduceLT,Int.reduceLE,Int.reduceToNat,Int.reduceAdd,Int.reduceSub,ne_eq,decide_true,decide_false,tf132, he0]
    refine wpLoop_intro (fun e' w' => e' 0 = .slice (some ⟨g, 0, none⟩) l.length c ∧ ∃ k : Nat, 1 ≤ k ∧ k ≤ l.length ∧ e' 3 = .int .i64 k ∧ cpz (l.take k) = l.take k ∧ Grow w w')
      (fun e' _ => l.length - (envInt (e' 3)).toNat) ⟨?_, 1, Nat.le_refl _, by omega, ?_, cpz_one (by omega), Keep.refl _ _⟩ ?_
    · simp -dsimp only [↓RE,RU,RL,↓reduceIte,Nat.reduceEqDiff,reduceCtorEq,decide_true,decide_false, he0]
    · simp -dsimp only [↓RE,RU,RL,↓reduceIte,Nat.reduceEqDiff,reduceCtorEq,decide_true,decide_false, he0, Int.cast_ofNat_Int]
    clear he0
    rintro e' w' ⟨he0, k, hk1, hkn, he3, hck, hgw⟩
    rw [c_seq, c_seq]
    simp -dsimp only [↓RE,RU,RL,Nat.reduceLeDiff,Nat.reduceLT,pureOp,binPure,intBin,strBin,eqPure,isConstO,sliceLo,sliceHi,slicePure,lenPure,resK,endV,↓reduceIte,Nat.reduceEqDiff,reduceCtorEq,Nat.reduceAdd,Nat.reduceMul,Nat.reduceSub,Int.reduceLT,Int.reduceLE,Int.reduceToNat,Int.reduceAdd,Int.reduceSub,ne_eq,decide_true,decide_false,tf132, he0, he3]
    refine ⟨fun hlt => ?_, fun hge => ?_⟩
    · have hkl : k < l.length := by omega
      have hk0 : IntKind.i64.wrap ((k : Int) - 1) = ((k - 1 : Nat) : Int) := by rw [wrap_i64_in (by omega) (by omega)]; omega
      have hw1 : IntKind.i64.wrap ((k : Int) + 1) = ((k + 1 : Nat) : Int) := by rw [wrap_i64_in (by omega) (by omega)]; omega
      have ha : w'.drew.cell? ⟨g, k, none⟩ = some (.string (l.getD k ByteArray.empty)) := ((hg.grow hgw).drew.cell k).trans (hcur k hkl)
      have hb : w'.drew.cell? ⟨g, k - 1, none⟩ = some (.string (l.getD (k - 1) ByteArray.empty)) := ((hg.grow hgw).drew.cell (k - 1)).trans (hcur (k - 1) (by omega))
      have hst := cpz_step (l := l) (m := k) (by omega) hkl
      rw [c_seq]
      simp -dsimp only [↓RE,RU,RL,Nat.reduceLeDiff,Nat.reduceLT,pureOp,binPure,intBin,strBin,eqPure,isConstO,sliceLo,sliceHi,slicePure,lenPure,resK,endV,↓reduceIte,Nat.reduceEqDiff,reduceCtorEq,Nat.reduceAdd,Nat.reduceMul,Nat.reduceSub,Int.reduceLT,Int.reduceLE,Int.reduceToNat,Int.reduceAdd,Int.reduceSub,ne_eq,decide_true,decide_false,tf132, he0]
      rw [c_seq]
      simp -dsimp only [↓RE,RU,RL,Nat.reduceLeDiff,Nat.reduceLT,pureOp,binPure,intBin,strBin,eqPure,isConstO,sliceLo,sliceHi,slicePure,lenPure,resK,endV,↓reduceIte,Nat.reduceEqDiff,reduceCtorEq,Nat.reduceAdd,Nat.reduceMul,Nat.reduceSub,Int.reduceLT,Int.reduceLE,Int.reduceToNat,Int.reduceAdd,Int.reduceSub,ne_eq,decide_true,decide_false,tf132, he0]
      refine wpDraw_still (by kernel_rfl) ?_
      simp -dsimp only [↓RE,RU,RL,Nat.reduceLeDiff,Nat.reduceLT,pureOp,binPure,intBin,strBin,eqPure,isConstO,sliceLo,sliceHi,slicePure,lenPure,resK,endV,↓reduceIte,Nat.reduceEqDiff,reduceCtorEq,Nat.reduceAdd,Nat.reduceMul,Nat.reduceSub,Int.reduceLT,Int.reduceLE,Int.reduceToNat,Int.reduceAdd,Int.reduceSub,ne_eq,decide_true,decide_false,tf132, he0, he3, hk0, add_lit', Nat.zero_add, ha, hb, beqZ, Nat.mul_one]
      refine ⟨by omega, by omega, fun hq => ?_, fun hq => ?_⟩
      · rw [if_pos hq.symm, hck] at hst
        have hck' : (c = k) = False := eq_false (by omega)
        have hgd : Blk w'.drew g 9 cur := (hg.grow hgw).drew
        rw [c_seq]
        simp -dsimp only [↓RE,RU,RL,Nat.reduceLeDiff,Nat.reduceLT,pureOp,binPure,intBin,strBin,eqPure,isConstO,sliceLo,sliceHi,slicePure,lenPure,resK,endV,↓reduceIte,Nat.reduceEqDiff,reduceCtorEq,Nat.reduceAdd,Nat.reduceMul,Nat.reduceSub,Int.reduceLT,Int.reduceLE,Int.reduceToNat,Int.reduceAdd,Int.reduceSub,ne_eq,decide_true,decide_false,tf132, he0, he3, hck', add_lit', Nat.zero_add, Nat.mul_one, Option.map_some]
        refine ⟨by omega, ?_⟩
        refine c_seq_cut (fun e' w2 => e' 0 = .slice (some ⟨g, 0, none⟩) l.length c ∧ e' 3 = .int .i64 ((cpz l).length : Nat) ∧ (cpz l).length < l.length ∧ Blk w2 g 9 ((cpz l).map (Value.string) ++ cur.drop (cpz l).length) ∧ Keep (fun q => q = g) w w2) ?_ ?_
        · rw [c_seq]
          simp -dsimp only [↓RE,RU,RL,Nat.reduceLeDiff,Nat.reduceLT,pureOp,binPure,intBin,strBin,eqPure,isConstO,sliceLo,sliceHi,slicePure,lenPure,resK,endV,↓reduceIte,Nat.reduceEqDiff,reduceCtorEq,Nat.reduceAdd,Nat.reduceMul,Nat.reduceSub,Int.reduceLT,Int.reduceLE,Int.reduceToNat,Int.reduceAdd,Int.reduceSub,ne_eq,decide_true,decide_false,tf132, he0]
          refine wpLoop_intro (fun e' w2 => e' 0 = .slice (some ⟨g, 0, none⟩) l.length c ∧ e' 4 = .slice (some ⟨g, k, none⟩) (l.length - k) (c - k) ∧ ∃ j : Nat, 1 ≤ j ∧ k + j ≤ l.length ∧ e' 5 = .int .i64 j ∧ e' 3 = .int .i64 ((cpz (l.take (k + j))).length : Nat) ∧ (cpz (l.take (k + j))).length ≤ k + j - 1 ∧
              Blk w2 g 9 ((cpz (l.take (k + j))).map (Value.string) ++ cur.drop (cpz (l.take (k + j))).length) ∧ Keep (fun q => q = g) w w2)
            (fun e' _ => l.length - (envInt (e' 5)).toNat) ⟨?_, ?_, 1, Nat.le_refl _, by omega, ?_, ?_, ?_, ?_, (hgw.trans (Grow.drew w')).mono (fun _ _ h => h.elim)⟩ ?_
          · simp -dsimp only [↓RE,RU,RL,↓reduceIte,Nat.reduceEqDiff,reduceCtorEq,decide_true,decide_false, he0]
          · simp -dsimp only [↓RE,RU,RL,↓reduceIte,Nat.reduceEqDiff,reduceCtorEq,decide_true,decide_false, he0]
          · simp -dsimp only [↓RE,RU,RL,↓reduceIte,Nat.reduceEqDiff,reduceCtorEq,decide_true,decide_false, he0, Int.cast_ofNat_Int]
          · rw [hst, List.length_take, Nat.min_eq_left (by omega)]
            simp -dsimp only [↓RE,↓c_seq,RU,RL,Nat.reduceLeDiff,Nat.reduceLT,pureOp,binPure,intBin,strBin,eqPure,isConstO,sliceLo,sliceHi,slicePure,lenPure,resK,endV,↓reduceIte,Nat.reduceEqDiff,reduceCtorEq,Nat.reduceAdd,Nat.reduceMul,Nat.reduceSub,Int.reduceLT,Int.reduceLE,Int.reduceToNat,Int.reduceAdd,Int.reduceSub,ne_eq,decide_true,decide_false,tf132, he3]
          · rw [hst, List.length_take]; omega
          · rw [hst, List.length_take, Nat.min_eq_left (by omega)]
            have e1 : (l.take k).map (Value.string) = cur.take k := by
              rw [List.map_take, ← hct, List.take_take, Nat.min_eq_left (by omega)]
            rw [e1, List.take_append_drop]
            exact hgd
          clear he0 he3
          rintro e w2 ⟨he0, he4, j, hj1, hjn, he5, he3, hkl2, hB, hK⟩
          generalize hm : (cpz (l.take (k + j))).length = m at he3 hkl2 hB
          rw [c_seq, c_seq]
          simp -dsimp only [↓RE,RU,RL,Nat.reduceLeDiff,Nat.reduceLT,pureOp,binPure,intBin,strBin,eqPure,isConstO,sliceLo,sliceHi,slicePure,lenPure,resK,endV,↓reduceIte,Nat.reduceEqDiff,reduceCtorEq,Nat.reduceAdd,Nat.reduceMul,Nat.reduceSub,Int.reduceLT,Int.reduceLE,Int.reduceToNat,Int.reduceAdd,Int.reduceSub,ne_eq,decide_true,decide_false,tf132, he4, he5]
          refine ⟨fun hlt2 => ?_, fun hge2 => ?_⟩
          · have hjl : k + j < l.length := by omega
            have hj0 : IntKind.i64.wrap ((j : Int) - 1) = ((j - 1 : Nat) : Int) := by rw [wrap_i64_in (by omega) (by omega)]; omega
            have hj2 : IntKind.i64.wrap ((j : Int) + 1) = ((j + 1 : Nat) : Int) := by rw [wrap_i64_in (by omega) (by omega)]; omega
            have hm2 : IntKind.i64.wrap ((m : Int) + 1) = ((m + 1 : Nat) : Int) := by rw [wrap_i64_in (by omega) (by omega)]; omega
            have hat : ∀ q, m ≤ q → q < l.length → w2.drew.cell? ⟨g, q, none⟩ = some (.string (l.getD q ByteArray.empty)) := fun q h1 h2 => by
              rw [hB.drew.cell, List.getElem?_append_right (by rw [List.length_map]; omega), List.length_map, hm, List.getElem?_drop, show m + (q - m) = q by omega]
              exact hcur q h2
            have ha2 := hat (k + j) (by omega) hjl
            have hb2 := hat (k + (j - 1)) (by omega) (by omega)
            have hst2 := cpz_step (l := l) (m := k + j) (by omega) hjl
            rw [show k + j - 1 = k + (j - 1) by omega] at hst2
            rw [c_seq]
            simp -dsimp only [↓RE,RU,RL,Nat.reduceLeDiff,Nat.reduceLT,pureOp,binPure,intBin,strBin,eqPure,isConstO,sliceLo,sliceHi,slicePure,lenPure,resK,endV,↓reduceIte,Nat.reduceEqDiff,reduceCtorEq,Nat.reduceAdd,Nat.reduceMul,Nat.reduceSub,Int.reduceLT,Int.reduceLE,Int.reduceToNat,Int.reduceAdd,Int.reduceSub,ne_eq,decide_true,decide_false,tf132, he0]
            rw [c_seq]
            simp -dsimp only [↓RE,RU,RL,Nat.reduceLeDiff,Nat.reduceLT,pureOp,binPure,intBin,strBin,eqPure,isConstO,sliceLo,sliceHi,slicePure,lenPure,resK,endV,↓reduceIte,Nat.reduceEqDiff,reduceCtorEq,Nat.reduceAdd,Nat.reduceMul,Nat.reduceSub,Int.reduceLT,Int.reduceLE,Int.reduceToNat,Int.reduceAdd,Int.reduceSub,ne_eq,decide_true,decide_false,tf132, he0]
            refine wpDraw_still (by kernel_rfl) ?_
            simp -dsimp only [↓RE,RU,RL,Nat.reduceLeDiff,Nat.reduceLT,pureOp,binPure,intBin,strBin,eqPure,isConstO,sliceLo,sliceHi,slicePure,lenPure,resK,endV,↓reduceIte,Nat.reduceEqDiff,reduceCtorEq,Nat.reduceAdd,Nat.reduceMul,Nat.reduceSub,Int.reduceLT,Int.reduceLE,Int.reduceToNat,Int.reduceAdd,Int.reduceSub,ne_eq,decide_true,decide_false,tf132, he4, he5, hj0, add_lit', Nat.zero_add, ha2, hb2, beqZ, Nat.mul_one]
            refine ⟨by omega, by omega, ?_⟩
            by_cases hq2 : l.getD (k + j) ByteArray.empty = l.getD (k + (j - 1)) ByteArray.empty
            · rw [if_pos hq2.symm] at hst2
              refine ⟨fun hn2 => absurd hq2 hn2, fun _ => ?_⟩
              try simp -dsimp only [↓RE,↓c_seq,RU,RL,Nat.reduceLeDiff,Nat.reduceLT,pureOp,binPure,intBin,strBin,eqPure,isConstO,sliceLo,sliceHi,slicePure,lenPure,resK,endV,↓reduceIte,Nat.reduceEqDiff,reduceCtorEq,Nat.reduceAdd,Nat.reduceMul,Nat.reduceSub,Int.reduceLT,Int.reduceLE,Int.reduceToNat,Int.reduceAdd,Int.reduceSub,ne_eq,decide_true,decide_false,tf132, he5, hj2]
              refine hold_intro ⟨⟨by simp -dsimp only [↓RE,RU,RL,↓reduceIte,Nat.reduceEqDiff,reduceCtorEq,decide_true,decide_false, he0], by simp -dsimp only [↓RE,RU,RL,↓reduceIte,Nat.reduceEqDiff,reduceCtorEq,decide_true,decide_false, he4], j + 1, by omega, by omega, by simp -dsimp only [↓RE,RU,RL,↓reduceIte,Nat.reduceEqDiff,reduceCtorEq,decide_true,decide_false, he5, hj2], ?_, ?_, ?_, hK.then_grow (Grow.drew w2)⟩, ?_⟩
              · rw [show k + (j + 1) = k + j + 1 by omega, hst2, hm]
                simp -dsimp only [↓RE,↓c_seq,RU,RL,Nat.reduceLeDiff,Nat.reduceLT,pureOp,binPure,intBin,strBin,eqPure,isConstO,sliceLo,sliceHi,slicePure,lenPure,resK,endV,↓reduceIte,Nat.reduceEqDiff,reduceCtorEq,Nat.reduceAdd,Nat.reduceMul,Nat.reduceSub,Int.reduceLT,Int.reduceLE,Int.reduceToNat,Int.reduceAdd,Int.reduceSub,ne_eq,decide_true,decide_false,tf132, he3]
              · rw [show k + (j + 1) = k + j + 1 by omega, hst2, hm]; omega
              · rw [show k + (j + 1) = k + j + 1 by omega, hst2, hm]; exact hB.drew
              · simp -dsimp only [↓RE,RU,RL,↓reduceIte,Nat.reduceEqDiff,reduceCtorEq,decide_true,decide_false, he5, hj2]
                simp only [envInt_int]; omega
            · rw [if_neg (fun e => hq2 e.symm)] at hst2
              refine ⟨fun _ => ?_, fun hn2 => absurd hn2 (fun e => hq2 (by first | exact e | exact Classical.not_not.1 e))⟩
              have hBd := hB.drew
              rw [c_seq]
              simp -dsimp only [↓RE,RU,RL,Nat.reduceLeDiff,Nat.reduceLT,pureOp,binPure,intBin,strBin,eqPure,isConstO,sliceLo,sliceHi,slicePure,lenPure,resK,endV,↓reduceIte,Nat.reduceEqDiff,reduceCtorEq,Nat.reduceAdd,Nat.reduceMul,Nat.reduceSub,Int.reduceLT,Int.reduceLE,Int.reduceToNat,Int.reduceAdd,Int.reduceSub,ne_eq,decide_true,decide_false,tf132, he0, he3, he4, he5, add_lit', Nat.zero_add, ha2, Nat.mul_one]
              refine ⟨by omega, by omega, ?_⟩
              have hlen2 : m < ((cpz (l.take (k + j))).map (Value.string) ++ cur.drop m).length := by rw [List.length_append, List.length_map, hm, List.length_drop]; omega
              refine hBd.st (i := m) hlen2 ?_
              have hB3 := hBd.set m (.string (l.getD (k + j) ByteArray.empty))
              have k3 := Keep.set1 w2.drew g m (.string (l.getD (k + j) ByteArray.empty))
              have e3 : ((cpz (l.take (k + j))).map (Value.string) ++ cur.drop m).set m (.string (l.getD (k + j) ByteArray.empty)) = (cpz (l.take (k + j)) ++ [l.getD (k + j) ByteArray.empty]).map (Value.string) ++ cur.drop (m + 1) := by
                rw [List.set_append_right _ _ (by rw [List.length_map]; omega), List.length_map, hm, Nat.sub_self, List.drop_eq_getElem_cons (show m < cur.length by omega), List.set_cons_zero, List.map_append, List.append_assoc]
                rfl
              rw [e3] at hB3
              try simp -dsimp only [↓RE,↓c_seq,RU,RL,Nat.reduceLeDiff,Nat.reduceLT,pureOp,binPure,intBin,strBin,eqPure,isConstO,sliceLo,sliceHi,slicePure,lenPure,resK,endV,↓reduceIte,Nat.reduceEqDiff,reduceCtorEq,Nat.reduceAdd,Nat.reduceMul,Nat.reduceSub,Int.reduceLT,Int.reduceLE,Int.reduceToNat,Int.reduceAdd,Int.reduceSub,ne_eq,decide_true,decide_false,tf132, he3, he5, hj2, hm2]
              refine hold_intro ⟨⟨by simp -dsimp only [↓RE,RU,RL,↓reduceIte,Nat.reduceEqDiff,reduceCtorEq,decide_true,decide_false, he0], by simp -dsimp only [↓RE,RU,RL,↓reduceIte,Nat.reduceEqDiff,reduceCtorEq,decide_true,decide_false, he4], j + 1, by omega, by omega, by simp -dsimp only [↓RE,RU,RL,↓reduceIte,Nat.reduceEqDiff,reduceCtorEq,decide_true,decide_false, he5, hj2], ?_, ?_, ?_, (hK.then_grow (Grow.drew w2)).trans k3 (fun _ _ h => h) (fun _ _ h => h)⟩, ?_⟩
              · rw [show k + (j + 1) = k + j + 1 by omega, hst2, List.length_append, hm]
                simp -dsimp only [↓RE,↓c_seq,RU,RL,Nat.reduceLeDiff,Nat.reduceLT,pureOp,binPure,intBin,strBin,eqPure,isConstO,sliceLo,sliceHi,slicePure,lenPure,resK,endV,↓reduceIte,Nat.reduceEqDiff,reduceCtorEq,Nat.reduceAdd,Nat.reduceMul,Nat.reduceSub,Int.reduceLT,Int.reduceLE,Int.reduceToNat,Int.reduceAdd,Int.reduceSub,ne_eq,decide_true,decide_false,tf132, he3, hm2]
              · rw [show k + (j + 1) = k + j + 1 by omega, hst2, List.length_append, hm]; simp only [List.length_cons, List.length_nil]; omega
              · rw [show k + (j + 1) = k + j + 1 by omega, hst2, List.length_append, hm]; exact hB3
              · simp -dsimp only [↓RE,RU,RL,↓reduceIte,Nat.reduceEqDiff,reduceCtorEq,decide_true,decide_false, he5, hj2]
                simp only [envInt_int]; omega
          · have hjn2 : k + j = l.length := by omega
            rw [hjn2, List.take_length] at hm
            rw [hjn2, List.take_length] at hB
            rw [← hm] at he3 hB hkl2
            refine hold_intro ⟨by simp -dsimp only [↓RE,RU,RL,↓reduceIte,Nat.reduceEqDiff,reduceCtorEq,decide_true,decide_false, he0], by simp -dsimp only [↓RE,RU,RL,↓reduceIte,Nat.reduceEqDiff,reduceCtorEq,decide_true,decide_false, he3], by omega, hB, hK⟩
        · clear he0 he3
          rintro e w2 ⟨he0, he3, hlt2, hB, hK⟩
          have hcm2 : (c = (cpz l).length) = False := eq_false (by omega)
          rw [c_seq]
          simp -dsimp only [↓RE,RU,RL,Nat.reduceLeDiff,Nat.reduceLT,pureOp,binPure,intBin,strBin,eqPure,isConstO,sliceLo,sliceHi,slicePure,lenPure,resK,endV,↓reduceIte,Nat.reduceEqDiff,reduceCtorEq,Nat.reduceAdd,Nat.reduceMul,Nat.reduceSub,Int.reduceLT,Int.reduceLE,Int.reduceToNat,Int.reduceAdd,Int.reduceSub,ne_eq,decide_true,decide_false,tf132, he0, he3, hcm2, add_lit', Nat.zero_add, Nat.mul_one, Option.map_some]
          have hbl : ((cpz l).map (Value.string) ++ cur.drop (cpz l).length).length = cur.length := by rw [List.length_append, List.length_map, List.length_drop]; omega
          refine ⟨by omega, genK_clear rfl (t := 147) (e := 9) (size := 1) (bytes := 16) (by kernel_rfl) (zero_oneZ (by kernel_rfl)) (g := g) (off := (cpz l).length) (dl := l.length - (cpz l).length) (dc := c - (cpz l).length) (by simp -dsimp only [↓RE,RU,RL,↓reduceIte,Nat.reduceEqDiff,reduceCtorEq,decide_true,decide_false, he0, he3, hcm2, add_lit', Nat.zero_add, Nat.mul_one, Option.map_some]) hB (by rw [hbl]; omega) (fun zs w3 hz hB3 hK3 => ?_)⟩
          try simp -dsimp only [↓RE,↓c_seq,RU,RL,Nat.reduceLeDiff,Nat.reduceLT,pureOp,binPure,intBin,strBin,eqPure,isConstO,sliceLo,sliceHi,slicePure,lenPure,resK,endV,↓reduceIte,Nat.reduceEqDiff,reduceCtorEq,Nat.reduceAdd,Nat.reduceMul,Nat.reduceSub,Int.reduceLT,Int.reduceLE,Int.reduceToNat,Int.reduceAdd,Int.reduceSub,ne_eq,decide_true,decide_false,tf132, he0, he3, add_zero', Nat.sub_zero, ite_self, Option.map_some]
          refine ⟨by omega, ?_⟩
          try simp -dsimp only [↓RE,↓c_seq,RU,RL,Nat.reduceLeDiff,Nat.reduceLT,pureOp,binPure,intBin,strBin,eqPure,isConstO,sliceLo,sliceHi,slicePure,lenPure,resK,endV,↓reduceIte,Nat.reduceEqDiff,reduceCtorEq,Nat.reduceAdd,Nat.reduceMul,Nat.reduceSub,Int.reduceLT,Int.reduceLE,Int.reduceToNat,Int.reduceAdd,Int.reduceSub,ne_eq,decide_true,decide_false,tf132, he0, he3, add_zero', Nat.sub_zero, ite_self, Option.map_some]
          refine h w3 _ ⟨by simp, .inr ⟨g, c, _, rfl, hB3, by omega, hcm, ?_, ?_⟩⟩ ((hK.trans hK3 (fun _ _ h => h) (fun _ _ h => h)).mono (fun q _ hq => (fpV_some _ _ _ _).2 hq)) (fun q hq => by rw [fpV_some] at hq ⊢; exact hq)
          · rw [List.length_append, List.length_append, List.length_take, List.length_drop, hbl, hz]; omega
          · rw [Nat.mul_one, List.append_assoc]
            refine (List.take_left' (by rw [List.length_take, hbl]; omega)).trans ?_
            exact List.take_left' (by rw [List.length_map])
      · rw [if_neg (fun e => hq e.symm), hck, ← take_snoc ByteArray.empty hkl] at hst
        try simp -dsimp only [↓RE,↓c_seq,RU,RL,Nat.reduceLeDiff,Nat.reduceLT,pureOp,binPure,intBin,strBin,eqPure,isConstO,sliceLo,sliceHi,slicePure,lenPure,resK,endV,↓reduceIte,Nat.reduceEqDiff,reduceCtorEq,Nat.reduceAdd,Nat.reduceMul,Nat.reduceSub,Int.reduceLT,Int.reduceLE,Int.reduceToNat,Int.reduceAdd,Int.reduceSub,ne_eq,decide_true,decide_false,tf132, he3, hw1]
        refine hold_intro ⟨⟨by simp -dsimp only [↓RE,RU,RL,↓reduceIte,Nat.reduceEqDiff,reduceCtorEq,decide_true,decide_false, he0], k + 1, by omega, by omega, by simp -dsimp only [↓RE,RU,RL,↓reduceIte,Nat.reduceEqDiff,reduceCtorEq,decide_true,decide_false, he3, hw1], hst, hgw.trans (Grow.drew w')⟩, ?_⟩
        simp -dsimp only [↓RE,↓c_seq,RU,RL,Nat.reduceLeDiff,Nat.reduceLT,pureOp,binPure,intBin,strBin,eqPure,isConstO,sliceLo,sliceHi,slicePure,lenPure,resK,endV,↓reduceIte,Nat.reduceEqDiff,reduceCtorEq,Nat.reduceAdd,Nat.reduceMul,Nat.reduceSub,Int.reduceLT,Int.reduceLE,Int.reduceToNat,Int.reduceAdd,Int.reduceSub,ne_eq,decide_true,decide_false,tf132, he3, hw1]
        simp only [envInt_int]; omega
    · obtain rfl : k = l.length := by omega
      rw [List.take_length] at hck
      exact hold_intro ⟨by simp -dsimp only [↓RE,RU,RL,↓reduceIte,Nat.reduceEqDiff,reduceCtorEq,decide_true,decide_false, he0], hck, hgw⟩
  · clear he0
    rintro e w' ⟨he0, hck, hgw⟩
    rw [c_seq]
    simp -dsimp only [↓RE,RU,RL,Nat.reduceLeDiff,Nat.reduceLT,pureOp,binPure,intBin,strBin,eqPure,isConstO,sliceLo,sliceHi,slicePure,lenPure,resK,endV,↓reduceIte,Nat.reduceEqDiff,reduceCtorEq,Nat.reduceAdd,Nat.reduceMul,Nat.reduceSub,Int.reduceLT,Int.reduceLE,Int.reduceToNat,Int.reduceAdd,Int.reduceSub,ne_eq,decide_true,decide_false,tf132, he0]
    exact h w' _ (by rw [hck]; exact hL.grow hgw) (hgw.mono (fun _ _ h => h.elim)) (fun q hq => hq)

/-- a row in order: of a text that stands twice two are neighbours. -/
theorem cpz_twice : ∀ (l : List ByteArray), (l.map fun b => b.data.toList).Pairwise (· ≤ ·) → ((cpz l).length = l.length ↔ l.Nodup) := fun l => by
  refine snoc_indB (p := fun l => (l.map fun b => b.data.toList).Pairwise (· ≤ ·) → ((cpz l).length = l.length ↔ l.Nodup)) (fun _ => ⟨fun _ => List.nodup_nil, fun _ => rfl⟩) (fun l x ih hs => ?_) l
  rw [List.map_append, List.pairwise_append] at hs
  obtain ⟨h1, _, h3⟩ := hs
  have hx : ∀ y ∈ l, y.data.toList ≤ x.data.toList := fun y hy => h3 _ (List.mem_map_of_mem hy) _ (List.mem_singleton.2 rfl)
  have hle := cpz_len l
  have hlast : x ∈ l → l.getLast? = some x := fun hm => by
    have hne : l ≠ [] := List.ne_nil_of_mem hm
    rw [List.getLast?_eq_some_getLast hne]
    have h4 : x.data.toList ≤ (l.getLast hne).data.toList := by
      rw [← List.dropLast_concat_getLast hne] at hm h1
      rcases List.mem_append.1 hm with hm | hm
      · rw [List.map_append, List.pairwise_append] at h1
        exact h1.2.2 _ (List.mem_map_of_mem hm) _ (List.mem_singleton.2 rfl)
      · rw [List.mem_singleton.1 hm]; exact List.le_refl _
    have h5 := List.le_antisymm h4 (hx _ (List.getLast_mem hne))
    rw [ByteArray.ext (Array.toList_inj.1 h5)]
  rw [cpz_snoc, cpzS, cpz_last, List.nodup_append, List.length_append, List.length_singleton]
  by_cases hq : l.getLast? = some x
  · rw [if_pos hq]
    refine ⟨fun h => by omega, fun h => ?_⟩
    exact absurd rfl (h.2.2 x (List.mem_of_getLast? hq) x (List.mem_singleton.2 rfl))
  · rw [if_neg hq, List.length_append, List.length_singleton]
    refine ⟨fun h => ⟨(ih h1).1 (by omega), List.pairwise_singleton _ _, fun a ha b hb e => ?_⟩, fun h => ?_⟩
    · rw [List.mem_singleton.1 hb] at e
      rw [e] at ha
      exact hq (hlast ha)
    · have := (ih h1).2 h.1; omega
theorem sortB_perm (l : List ByteArray) : (sortB l).Perm l := by
  have h := (List.mergeSort_perm (l.map fun b => b.data.toList) (fun x y => decide (x ≤ y))).map mkB
  rw [List.map_map] at h
  have e : mkB ∘ (fun b : ByteArray => b.data.toList) = id := funext fun b => rfl
  rw [e, List.map_id] at h
  exact h
theorem sortB_sorted (l : List ByteArray) : ((sortB l).map fun b => b.data.toList).Pairwise (· ≤ ·) := by
  rw [sortB, List.map_map]
  have e : (fun b : ByteArray => b.data.toList) ∘ mkB = id := funext fun b => rfl
  rw [e, List.map_id]
  have := List.pairwise_mergeSort (le := fun x y : List UInt8 => decide (x ≤ y)) (fun a b c h1 h2 => decide_eq_true (List.le_trans (of_decide_eq_true h1) (of_decide_eq_true h2))) (fun a b => by
    rcases List.le_total a b with h | h
    · rw [decide_eq_true h]; rfl
    · rw [decide_eq_true h, Bool.or_true]) (l.map fun b => b.data.toList)
  exact this.imp of_decide_eq_true
def twiceB (l : List ByteArray) : Bool := !decide l.Nodup
theorem twice_eq (l : List ByteArray) : decide ((cpz (sortB l)).length < l.length) = twiceB l := by
  have h := cpz_twice (sortB l) (sortB_sorted l)
  rw [(sortB_perm l).nodup_iff, sortB_len] at h
  have hl := cpz_len (sortB l)
  rw [sortB_len] at hl
  unfold twiceB
  by_cases hq : l.Nodup
  · rw [decide_eq_true hq, decide_eq_false (by have := h.2 hq; omega)]; rfl
  · rw [decide_eq_false hq, decide_eq_true]
    · rfl
    · have : (cpz (sortB l)).length ≠ l.length := fun e => hq (h.1 e)
      omega
theorem twice_ok {w : World} {v : Value} {l : List ByteArray} (hL : BRow w v l) (hn : l.length ≤ 1000000000000) {R : VWK}
    (h : ∀ w', Keep (fpV v) w w' → R (.bool (twiceB l)) w') : CallsV Tryz.prog 105 [v] w R := by
  rw [← twice_eq, show decide ((cpz (sortB l)).length < l.length) = decide (((cpz (sortB l)).length : Int) < (l.length : Int)) from by simp only [Int.ofNat_lt]] at h
  refine calls_of_wpC mixed Tryz.func105 rfl (by kernel_rfl) ?_
  intro e he
  have he0 := he 0
  simp only [List.getD_cons_zero, List.getD_cons_succ] at he0
  clear he
  repeat (first | rw [c_seq] | simp -dsimp only [↓RE,RU,RL,Nat.reduceLeDiff,Nat.reduceLT,pureOp,binPure,intBin,strBin,lenPure,resK,endV,↓reduceIte,Nat.reduceEqDiff,reduceCtorEq,Nat.reduceAdd,Nat.reduceMul,Int.reduceLT,Int.reduceLE,Int.reduceToNat,Int.reduceAdd,decide_true,decide_false,tf105, he0])
  refine sortB_ok hL (by omega) (fun w1 hL1 k1 => ?_)
  obtain ⟨A, c, rfl, hnc, hA⟩ := hL.form
  have hsl := sortB_len l
  have hL1' := hL1
  unfold BRow at hL1'
  rw [hsl] at hL1'
  repeat (first | rw [c_seq] | simp -dsimp only [↓RE,RU,RL,Nat.reduceLeDiff,Nat.reduceLT,pureOp,binPure,intBin,strBin,lenPure,resK,endV,↓reduceIte,Nat.reduceEqDiff,reduceCtorEq,Nat.reduceAdd,Nat.reduceMul,Int.reduceLT,Int.reduceLE,Int.reduceToNat,Int.reduceAdd,decide_true,decide_false,tf105, he0])
  refine cloneB_ok (by first | exact hL1'.rd | exact hL1'.rd.1) (by simp [Value.oneCell']) hn (fun w2 A' c' hL2 g2 hF _ => ?_)
  repeat (first | rw [c_seq] | simp -dsimp only [↓RE,RU,RL,Nat.reduceLeDiff,Nat.reduceLT,pureOp,binPure,intBin,strBin,lenPure,resK,endV,↓reduceIte,Nat.reduceEqDiff,reduceCtorEq,Nat.reduceAdd,Nat.reduceMul,Int.reduceLT,Int.reduceLE,Int.reduceToNat,Int.reduceAdd,decide_true,decide_false,tf105, he0])
  have hL2' : BRow w2 (.slice A' l.length c') (sortB l) := by
    unfold BRow
    rw [hsl]
    exact hL2
  refine compactB_ok hL2' (by omega) (fun w3 v' hL3 k3 hF3 => ?_)
  obtain ⟨A3, c3, rfl, _, _⟩ := hL3.form
  repeat (first | rw [c_seq] | simp -dsimp only [↓RE,RU,RL,Nat.reduceLeDiff,Nat.reduceLT,pureOp,binPure,intBin,strBin,lenPure,resK,endV,↓reduceIte,Nat.reduceEqDiff,reduceCtorEq,Nat.reduceAdd,Nat.reduceMul,Int.reduceLT,Int.reduceLE,Int.reduceToNat,Int.reduceAdd,decide_true,decide_false,tf105, he0])
  refine h w3 ((k1.then_grow g2).above k3 (fun q hq hf => ?_))
  have := hF q ((fpV_fpA _ _ _ _).1 hf)
  have := k1.size
  omega

end Go.Proofs.YtljgnocpijniiaaGreatDoor
