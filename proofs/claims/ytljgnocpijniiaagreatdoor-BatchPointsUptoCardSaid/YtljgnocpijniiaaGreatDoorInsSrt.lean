/- slices.Insert of a tag. -/
/- key.Sort and the document's: tags in order, of each key the last one. -/
/- key.Sort, weirref05.Sort: the walks. -/
import Derived.Test.YtljgnocpijniiaaGreatDoorTagL
import Derived.Test.YtljgnocpijniiaaGreatDoorRow
import Derived.Test.YtljgnocpijniiaaGreatDoorPureS
import Derived.Test.YtljgnocpijniiaaGreatDoorRowSet
import Derived.Test.YtljgnocpijniiaaGreatDoorCmpI
set_option linter.unusedVariables false
set_option linter.unusedSimpArgs false
set_option maxRecDepth 100000
namespace Go.Proofs.YtljgnocpijniiaaGreatDoor
open Go

theorem tcells_len (t : Tg) : (tcells t).length = 2 := rfl
theorem tcells_one1 : ∀ (l : List Tg), ∀ u ∈ l.flatMap tcells, u.oneCell' = true := by
  intro l u hu
  obtain ⟨v, _, hv⟩ := List.mem_flatMap.1 hu
  simp only [tcells, List.mem_cons, List.not_mem_nil, or_false] at hv
  rcases hv with rfl | rfl <;> rfl
theorem flat_takeT (l : List Tg) (k : Nat) : (l.take k).flatMap tcells = (l.flatMap tcells).take (k * 2) := by
  induction l generalizing k with
  | nil => simp
  | cons x l ih =>
    cases k with
    | zero => simp
    | succ k =>
      rw [List.take_succ_cons, List.flatMap_cons, List.flatMap_cons, ih, List.take_append, tcells_len, List.take_of_length_le (l := tcells x) (by rw [tcells_len]; omega), show (k + 1) * 2 - 2 = k * 2 by omega]
theorem flat_dropT (l : List Tg) (k : Nat) : (l.drop k).flatMap tcells = (l.flatMap tcells).drop (k * 2) := by
  induction l generalizing k with
  | nil => simp
  | cons x l ih =>
    cases k with
    | zero => simp
    | succ k =>
      rw [List.drop_succ_cons, List.flatMap_cons, ih, List.drop_append, tcells_len, List.drop_of_length_le (l := tcells x) (by rw [tcells_len]; omega), List.nil_append, show (k + 1) * 2 - 2 = k * 2 by omega]
theorem flat_lengthT (l : List Tg) : (l.flatMap tcells).length = l.length * 2 := flat_len tcells l (fun _ _ => rfl)
theorem Rd.of_tblk {w : World} {g n size : Nat} {t : TypeId} {cs : List Value} (h : Blk w g t cs) (hl : cs.length = n * size) : Rd w (some ⟨g, 0, none⟩) n size cs :=
  ⟨hl, fun _ => ⟨_, rfl, fun j u hu => by rw [add_lit', Nat.zero_add, h.cell]; exact hu⟩⟩
/-- a row of tags of one's own. -/
abbrev GRow (w : World) (v : Value) (l : List Tg) : Prop := LRow w 115 2 v l.length (l.flatMap tcells)
theorem rd_atT {w : World} {g n : Nat} {xs : List Value} (h : Rd w (some ⟨g, 0, none⟩) n 2 xs) {i : Nat} (hi : i ≤ n) : Rd w (some ⟨g, i * 2, none⟩) (n - i) 2 (xs.drop (i * 2)) := by
  refine ⟨by rw [List.length_drop, h.1, Nat.sub_mul], fun h0 => ?_⟩
  obtain ⟨ad, he, hc⟩ := h.2 (by omega)
  injection he with he
  subst he
  refine ⟨_, rfl, fun j u hu => ?_⟩
  rw [List.getElem?_drop] at hu
  have := hc _ u hu
  rw [add_lit', Nat.zero_add] at this
  rw [add_lit']; exact this
theorem put_takeT {α : Type} (a b c : List α) {k : Nat} (h : k = a.length + b.length) : (a ++ b ++ c).take k = a ++ b := by
  subst h; rw [← List.length_append]; exact List.take_left
theorem overlaps_noT {w : World} {ga gb oa ob la ca lb cb : Nat} {ta tb : TypeId} {ra rb : List Value} (ha : Blk w ga ta ra) (hbk : Blk w gb tb rb) (hne : ga ≠ gb) (hrb : rb ≠ [])
    {K : VWK} {tk : Tok K} (hk : K (.bool false) w) : extK Tryz.prog 136 [.slice (some ⟨ga, oa, none⟩) la ca, .slice (some ⟨gb, ob, none⟩) lb cb] w K tk :=
  extK_overlaps Tryz.func136 (by kernel_rfl) (by kernel_rfl) (by kernel_rfl) (by kernel_rfl) (tS := 22) (tR := 4) (e := 115) (size := 2) (bytes := 32) (by kernel_rfl) ha hbk hne hrb hk
theorem ins_cellsT {l : List Tg} {x : Tg} {i : Nat} (hi : i ≤ l.length) {cur : List Value} (hct : cur.take (l.length * 2) = l.flatMap tcells) (hcc : l.length * 2 + 2 ≤ cur.length) {c1 : List Value}
    (h1 : c1 = cur.take ((i + 1) * 2) ++ (l.flatMap tcells).drop (i * 2) ++ cur.drop ((i + 1) * 2 + (l.length - i) * 2)) :
    (c1.take (i * 2) ++ List.flatMap tcells [x] ++ c1.drop (i * 2 + 1 * 2)).take ((l.length + 1) * 2) = (l.take i ++ x :: l.drop i).flatMap tcells := by
  have hA : ((l.take i).flatMap tcells).length = i * 2 := by rw [flat_lengthT, List.length_take]; omega
  have hD : ((l.drop i).flatMap tcells).length = (l.length - i) * 2 := by rw [flat_lengthT, List.length_drop]
  have hX : (List.flatMap tcells [x]).length = 2 := rfl
  have e1 : cur.take ((i + 1) * 2) = (l.take i).flatMap tcells ++ (cur.take ((i + 1) * 2)).drop (i * 2) := by
    have h : (l.take i).flatMap tcells = (cur.take ((i + 1) * 2)).take (i * 2) := by
      rw [flat_takeT, ← hct, List.take_take, List.take_take, Nat.min_eq_left (show i * 2 ≤ l.length * 2 by omega), Nat.min_eq_left (show i * 2 ≤ (i + 1) * 2 by omega)]
    rw [h, List.take_append_drop]
  obtain ⟨T, hT, hTl⟩ : ∃ T, cur.take ((i + 1) * 2) = (l.take i).flatMap tcells ++ T ∧ T.length = 2 := ⟨_, e1, by rw [List.length_drop, List.length_take]; omega⟩
  obtain ⟨r, hr⟩ : ∃ r, r = cur.drop ((i + 1) * 2 + (l.length - i) * 2) := ⟨_, rfl⟩
  rw [hT, ← hr, ← flat_dropT, List.append_assoc, List.append_assoc] at h1
  have e2 : c1.take (i * 2) = (l.take i).flatMap tcells := by rw [h1]; exact List.take_left' hA
  have e3 : c1.drop (i * 2 + 1 * 2) = (l.drop i).flatMap tcells ++ r := by
    rw [h1, ← List.append_assoc]; exact List.drop_left' (by rw [List.length_append, hA, hTl])
  have hX1 : List.flatMap tcells [x] = tcells x := List.append_nil _
  rw [hX1] at hX ⊢
  rw [e2, e3, ← List.append_assoc, List.flatMap_append, List.flatMap_cons, ← List.append_assoc]
  exact List.take_left' (by rw [List.length_append, List.length_append, hA, hD, hX]; omega)
theorem insert_endT {w : World} {v : Value} {l : List Tg} (hL : GRow w v l) (hn : l.length < 1000000000000) {x : Tg} {B : Nat} {cv : Nat} (hB : Blk w B 115 (tcells x)) {R : VWK}
    (h : ∀ w' v', GRow w' v' (l ++ [x]) → Keep (fpV v) w w' → (∀ k, fpV v' k → fpV v k ∨ w.heap.size ≤ k) → R v' w') :
    CallsV Tryz.prog 111 [v, .int .i64 l.length, .slice (some ⟨B, 0, none⟩) 1 cv] w R := by
  have hR1 : Rd w (some ⟨B, 0, none⟩) 1 2 (([x] : List Tg).flatMap tcells) := Rd.of_tblk hB rfl
  have hx1 : ∀ u ∈ ([x] : List Tg).flatMap tcells, u.oneCell' = true := tcells_one1 _
  obtain ⟨A, c, rfl, hnc, hA⟩ := hL.form
  have hd1 : decide (((1 : Nat) : Int) = 0) = false := by decide
  refine calls_of_wpC mixed Tryz.func111 rfl (by kernel_rfl) ?_
  intro e he
  have he0 := he 0
  have he1 := he 1
  have he2 := he 2
  simp only [List.getD_cons_zero, List.getD_cons_succ] at he0 he1 he2
  clear he
  try simp -dsimp only [↓RE,↓c_seq,RU,RL,Nat.reduceLeDiff,Nat.reduceLT,pureOp,binPure,intBin,strBin,eqPure,isConstO,unPure,sliceLo,sliceHi,slicePure,lenPure,capPure,resK,endV,↓reduceIte,Nat.reduceEqDiff,reduceCtorEq,Nat.reduceAdd,Nat.reduceMul,Nat.reduceSub,Int.reduceLT,Int.reduceLE,Int.reduceToNat,Int.reduceAdd,Int.reduceSub,decide_true,decide_false,tf111, he0, he1, he2, hd1]
  refine ⟨by omega, ?_⟩
  refine appK_l (bytes := 32) (by kernel_rfl) hL hR1 hx1 (by simp only [maxLen]; omega) (by omega) (fun A' c' w' hL' hK hF _ => ?_)
  try simp -dsimp only [↓RE,↓c_seq,RU,RL,Nat.reduceLeDiff,Nat.reduceLT,pureOp,binPure,intBin,strBin,eqPure,isConstO,unPure,sliceLo,sliceHi,slicePure,lenPure,capPure,resK,endV,↓reduceIte,Nat.reduceEqDiff,reduceCtorEq,Nat.reduceAdd,Nat.reduceMul,Nat.reduceSub,Int.reduceLT,Int.reduceLE,Int.reduceToNat,Int.reduceAdd,Int.reduceSub,decide_true,decide_false,tf111, he0, he1, he2]
  refine h w' _ ?_ hK (fun k hk => (hF k hk).imp id (fun h => by omega))
  show LRow _ _ _ _ (l ++ [x]).length _
  rw [List.flatMap_append, List.length_append]
  exact hL'
theorem insert_okT {w : World} {v : Value} {l : List Tg} (hL : GRow w v l) {i : Nat} (hi : i ≤ l.length) (hn : l.length < 1000000000000) {x : Tg} {B : Nat} {cv : Nat} (hB : Blk w B 115 (tcells x)) (hne : ¬ fpV v B) {R : VWK}
    (h : ∀ w' v', GRow w' v' (l.take i ++ x :: l.drop i) → Keep (fpV v) w w' → (∀ k, fpV v' k → fpV v k ∨ w.heap.size ≤ k) → R v' w') :
    CallsV Tryz.prog 111 [v, .int .i64 i, .slice (some ⟨B, 0, none⟩) 1 cv] w R := by
  have hR1 : Rd w (some ⟨B, 0, none⟩) 1 2 (([x] : List Tg).flatMap tcells) := Rd.of_tblk hB rfl
  have hx1 : ∀ u ∈ ([x] : List Tg).flatMap tcells, u.oneCell' = true := tcells_one1 _
  have hl3 := flat_lengthT l
  rcases Nat.lt_or_ge i l.length with hil | hil
  · rcases hL.2 with ⟨_, h0⟩ | ⟨g, c, cur, rfl, hg, hnc, hcm, hcc, hct⟩
    · omega
    have hL0 := hL
    have hR0 := hL.rd
    have hcl := hg.lt
    have hgB : B ≠ g := fun h => hne ((fpV_some _ _ _ _).2 h)
    have hd1 : decide (((1 : Nat) : Int) = 0) = false := by decide
    have hd2 : decide ((i : Int) = (l.length : Int)) = false := decide_eq_false (by omega)
    have hw1 : IntKind.i64.wrap ((l.length : Int) + ((1 : Nat) : Int)) = ((l.length + 1 : Nat) : Int) := by rw [wrap_i64_in (by omega) (by omega)]; omega
    have hw2 : IntKind.i64.wrap (((l.length + 1 : Nat) : Int) - (i : Int)) = ((l.length + 1 - i : Nat) : Int) := by rw [wrap_i64_in (by omega) (by omega)]; omega
    have hw3 : IntKind.i64.wrap ((i : Int) + ((1 : Nat) : Int)) = ((i + 1 : Nat) : Int) := by rw [wrap_i64_in (by omega) (by omega)]; omega
    have hic : (c = i) = False := eq_false (by omega)
    refine calls_of_wpC mixed Tryz.func111 rfl (by kernel_rfl) ?_
    intro e he
    have he0 := he 0
    have he1 := he 1
    have he2 := he 2
    simp only [List.getD_cons_zero, List.getD_cons_succ] at he0 he1 he2
    clear he
    rw [c_assoc, c_assoc, c_assoc, c_assoc, c_assoc]
    refine c_seq_cut (fun e' w' => e' 0 = .slice (some ⟨g, 0, none⟩) l.length c ∧ e' 1 = .int .i64 i ∧ e' 2 = .slice (some ⟨B, 0, none⟩) 1 cv ∧ e' 7 = .int .i64 ((1 : Nat) : Int) ∧ e' 8 = .int .i64 l.length ∧ w = w') ?_ ?_
    · try simp -dsimp only [↓RE,↓c_seq,RU,RL,Nat.reduceLeDiff,Nat.reduceLT,pureOp,binPure,intBin,strBin,eqPure,isConstO,unPure,sliceLo,sliceHi,slicePure,lenPure,capPure,resK,endV,↓reduceIte,Nat.reduceEqDiff,reduceCtorEq,Nat.reduceAdd,Nat.reduceMul,Nat.reduceSub,Int.reduceLT,Int.reduceLE,Int.reduceToNat,Int.reduceAdd,Int.reduceSub,decide_true,decide_false,tf111, he0, he1, he2, hd1, hd2, ite_self, hic, Option.map_some, add_lit', Nat.zero_add]
      refine ⟨by omega, hold_intro ⟨?_, ?_, ?_, ?_, ?_, rfl⟩⟩
      · simp -dsimp only [↓RE,RU,RL,↓reduceIte,Nat.reduceEqDiff,reduceCtorEq,decide_true,decide_false, he0]
      · simp -dsimp only [↓RE,RU,RL,↓reduceIte,Nat.reduceEqDiff,reduceCtorEq,decide_true,decide_false, he1]
      · simp -dsimp only [↓RE,RU,RL,↓reduceIte,Nat.reduceEqDiff,reduceCtorEq,decide_true,decide_false, he2]
      · simp -dsimp only [↓RE,RU,RL,↓reduceIte,Nat.reduceEqDiff,reduceCtorEq,decide_true,decide_false, he2]
      · simp -dsimp only [↓RE,RU,RL,↓reduceIte,Nat.reduceEqDiff,reduceCtorEq,decide_true,decide_false, he0]
    clear he0 he1 he2 e
    rintro e w' ⟨he0, he1, he2, he7, he8, rfl⟩
    refine c_seq_cut (fun e' w' => (¬ (c : Int) < ((l.length + 1 : Nat) : Int)) ∧ e' 0 = .slice (some ⟨g, 0, none⟩) l.length c ∧ e' 1 = .int .i64 i ∧ e' 2 = .slice (some ⟨B, 0, none⟩) 1 cv ∧ e' 7 = .int .i64 ((1 : Nat) : Int) ∧ e' 8 = .int .i64 l.length ∧ w = w') ?_ ?_
    · try simp -dsimp only [↓RE,↓c_seq,RU,RL,Nat.reduceLeDiff,Nat.reduceLT,pureOp,binPure,intBin,strBin,eqPure,isConstO,unPure,sliceLo,sliceHi,slicePure,lenPure,capPure,resK,endV,↓reduceIte,Nat.reduceEqDiff,reduceCtorEq,Nat.reduceAdd,Nat.reduceMul,Nat.reduceSub,Int.reduceLT,Int.reduceLE,Int.reduceToNat,Int.reduceAdd,Int.reduceSub,decide_true,decide_false,tf111, he0, he1, he2, he7, he8, hd1, hd2, hw1, hw2, hw3, hic, add_zero', Nat.sub_zero, ite_self, Option.map_some, add_lit', Nat.zero_add]
      refine ⟨fun hgr => ⟨by omega, ?_⟩, fun hroom => hold_intro ⟨hroom, ?_, ?_, ?_, ?_, ?_, rfl⟩⟩
      · refine appK_zeros (e := 115) (bytes := 32) (by kernel_rfl) (by kernel_rfl) ((hL.pre (k := i) (by omega)).rd) (k := l.length + 1 - i) rfl (by omega) (by omega) (by simp only [maxLen]; omega) (by omega) (fun cur1 c1 w1 ht1 hc1 hn1 hm1 hb1 g1 => ?_)
        have hs1 : i + (l.length + 1 - i) = l.length + 1 := by omega
        have hic1 : (c1 = i) = False := eq_false (by omega)
        have hic2 : (c1 = i + 1) = False := eq_false (by omega)
        try simp -dsimp only [↓RE,↓c_seq,RU,RL,Nat.reduceLeDiff,Nat.reduceLT,pureOp,binPure,intBin,strBin,eqPure,isConstO,unPure,sliceLo,sliceHi,slicePure,lenPure,capPure,resK,endV,↓reduceIte,Nat.reduceEqDiff,reduceCtorEq,Nat.reduceAdd,Nat.reduceMul,Nat.reduceSub,Int.reduceLT,Int.reduceLE,Int.reduceToNat,Int.reduceAdd,Int.reduceSub,decide_true,decide_false,tf111, he0, he1, he2, he7, he8, hd1, hd2, hw1, hw2, hw3, hic, hs1, hic1, hic2, add_zero', Nat.sub_zero, ite_self, Option.map_some, add_lit', Nat.zero_add]
        have hT : (cur1.take (i * 2)).length = i * 2 := by rw [ht1, List.length_take, hl3]; omega
        refine ⟨by omega, genK_copy rfl (t := 22) (bytes := 32) (by kernel_rfl) (g := w.heap.size) (off := i * 2) (dl := l.length + 1 - i) (dc := c1 - i) (by simp -dsimp only [↓RE,RU,RL,↓reduceIte,Nat.reduceEqDiff,reduceCtorEq,decide_true,decide_false, he0, he1, he2, he7, he8, hd1, hd2, hw1, hw2, hw3, hic, hs1, hic1, hic2, add_zero', Nat.sub_zero, ite_self, Option.map_some, add_lit', Nat.zero_add]) (ad := ⟨B, 0, none⟩) (n := 1) (c := cv) (by simp -dsimp only [↓RE,RU,RL,↓reduceIte,Nat.reduceEqDiff,reduceCtorEq,decide_true,decide_false, he0, he1, he2, he7, he8, hd1, hd2, hw1, hw2, hw3, hic, hs1, hic1, hic2, add_zero', Nat.sub_zero, ite_self, Option.map_some, add_lit', Nat.zero_add]) (Nat.min_eq_left (by omega)) hb1 (hR1.grow g1) hx1 (by omega) (fun w2 hb2 hk2 => ?_)⟩
        try simp -dsimp only [↓RE,↓c_seq,RU,RL,Nat.reduceLeDiff,Nat.reduceLT,pureOp,binPure,intBin,strBin,eqPure,isConstO,unPure,sliceLo,sliceHi,slicePure,lenPure,capPure,resK,endV,↓reduceIte,Nat.reduceEqDiff,reduceCtorEq,Nat.reduceAdd,Nat.reduceMul,Nat.reduceSub,Int.reduceLT,Int.reduceLE,Int.reduceToNat,Int.reduceAdd,Int.reduceSub,decide_true,decide_false,tf111, he0, he1, he2, he7, he8, hd1, hd2, hw1, hw2, hw3, hic, hs1, hic1, hic2, add_zero', Nat.sub_zero, ite_self, Option.map_some, add_lit', Nat.zero_add]
        refine wpDraw_tail mixed 8 (by kernel_rfl) ?_
        try simp -dsimp only [↓RE,↓c_seq,RU,RL,Nat.reduceLeDiff,Nat.reduceLT,pureOp,binPure,intBin,strBin,eqPure,isConstO,unPure,sliceLo,sliceHi,slicePure,lenPure,capPure,resK,endV,↓reduceIte,Nat.reduceEqDiff,reduceCtorEq,Nat.reduceAdd,Nat.reduceMul,Nat.reduceSub,Int.reduceLT,Int.reduceLE,Int.reduceToNat,Int.reduceAdd,Int.reduceSub,decide_true,decide_false,tf111, he0, he1, he2, he7, he8, hd1, hd2, hw1, hw2, hw3, hic, hs1, hic1, hic2, add_zero', Nat.sub_zero, ite_self, Option.map_some, add_lit', Nat.zero_add]
        have hg2 : Grow w w2 := g1.above hk2 (fun k hk e => by omega)
        have hR2 : Rd w2.drew (some ⟨g, i * 2, none⟩) (l.length - i) 2 ((l.flatMap tcells).drop (i * 2)) := rd_atT (hR0.grow hg2) hi
        have hl2 : i * 2 + 1 * 2 + (l.length - i) * 2 ≤ (cur1.take (i * 2) ++ List.flatMap tcells [x] ++ cur1.drop (i * 2 + 1 * 2)).length := by
          simp only [List.length_append, hT, List.length_drop, flat_lengthT, List.length_cons, List.length_nil]; omega
        refine ⟨by omega, by omega, genK_copy rfl (t := 22) (bytes := 32) (by kernel_rfl) (g := w.heap.size) (off := (i + 1) * 2) (dl := l.length + 1 - (i + 1)) (dc := c1 - (i + 1)) (by simp -dsimp only [↓RE,RU,RL,↓reduceIte,Nat.reduceEqDiff,reduceCtorEq,decide_true,decide_false, he0, he1, he2, he7, he8, hd1, hd2, hw1, hw2, hw3, hic, hs1, hic1, hic2, add_zero', Nat.sub_zero, ite_self, Option.map_some, add_lit', Nat.zero_add]) (ad := ⟨g, i * 2, none⟩) (n := l.length - i) (c := c - i) (by simp -dsimp only [↓RE,RU,RL,↓reduceIte,Nat.reduceEqDiff,reduceCtorEq,decide_true,decide_false, he0, he1, he2, he7, he8, hd1, hd2, hw1, hw2, hw3, hic, hs1, hic1, hic2, add_zero', Nat.sub_zero, ite_self, Option.map_some, add_lit', Nat.zero_add])
          (m := l.length - i) (by rw [show l.length + 1 - (i + 1) = l.length - i by omega]; exact Nat.min_self _) hb2.drew hR2 (fun u hu => tcells_one1 l u (List.mem_of_mem_drop hu)) (by omega) (fun w3 hb3 hk3 => ?_)⟩
        try simp -dsimp only [↓RE,↓c_seq,RU,RL,Nat.reduceLeDiff,Nat.reduceLT,pureOp,binPure,intBin,strBin,eqPure,isConstO,unPure,sliceLo,sliceHi,slicePure,lenPure,capPure,resK,endV,↓reduceIte,Nat.reduceEqDiff,reduceCtorEq,Nat.reduceAdd,Nat.reduceMul,Nat.reduceSub,Int.reduceLT,Int.reduceLE,Int.reduceToNat,Int.reduceAdd,Int.reduceSub,decide_true,decide_false,tf111, he0, he1, he2, he7, he8, hd1, hd2, hw1, hw2, hw3, hic, hs1, hic1, hic2, add_zero', Nat.sub_zero, ite_self, Option.map_some, add_lit', Nat.zero_add]
        have hG3 : Grow w w3 := (hg2.trans (Grow.drew w2)).above hk3 (fun k hk e => by omega)
        have hnl : (l.take i ++ x :: l.drop i).length = l.length + 1 := by simp; omega
        refine h w3 _ ⟨by rw [flat_lengthT], .inr ⟨w.heap.size, c1, _, by rw [hnl], hb3, by omega, hm1, ?_, ?_⟩⟩ (hG3.mono (fun _ _ h => h.elim)) (fun k hk => .inr (by rw [fpV_some] at hk; simp only at hk; omega))
        · simp only [List.length_append, List.length_take, List.length_drop, hl3, flat_lengthT, List.length_cons, List.length_nil]; omega
        · have hA : (cur1.take (i * 2) ++ List.flatMap tcells [x] ++ cur1.drop (i * 2 + 1 * 2)).take ((i + 1) * 2) = (l.take i ++ [x]).flatMap tcells := by
            rw [put_takeT _ _ _ (by rw [hT, flat_lengthT, List.length_cons, List.length_nil]; omega), List.flatMap_append, flat_takeT, ht1]
          rw [hA, put_takeT _ _ _ (by rw [hnl, flat_lengthT, List.length_drop, hl3]; simp; omega), ← flat_dropT, ← List.flatMap_append, List.append_assoc]
          rfl
      · simp -dsimp only [↓RE,RU,RL,↓reduceIte,Nat.reduceEqDiff,reduceCtorEq,decide_true,decide_false, he0]
      · simp -dsimp only [↓RE,RU,RL,↓reduceIte,Nat.reduceEqDiff,reduceCtorEq,decide_true,decide_false, he1]
      · simp -dsimp only [↓RE,RU,RL,↓reduceIte,Nat.reduceEqDiff,reduceCtorEq,decide_true,decide_false, he2]
      · simp -dsimp only [↓RE,RU,RL,↓reduceIte,Nat.reduceEqDiff,reduceCtorEq,decide_true,decide_false, he7]
      · simp -dsimp only [↓RE,RU,RL,↓reduceIte,Nat.reduceEqDiff,reduceCtorEq,decide_true,decide_false, he8]
    clear he0 he1 he2 he7 he8 e
    rintro e w' ⟨hroom, he0, he1, he2, he7, he8, rfl⟩
    have hcc3 : l.length * 2 + 2 ≤ cur.length := by omega
    have hic1 : (c = i + 1) = False := eq_false (by omega)
    try simp -dsimp only [↓RE,↓c_seq,RU,RL,Nat.reduceLeDiff,Nat.reduceLT,pureOp,binPure,intBin,strBin,eqPure,isConstO,unPure,sliceLo,sliceHi,slicePure,lenPure,capPure,resK,endV,↓reduceIte,Nat.reduceEqDiff,reduceCtorEq,Nat.reduceAdd,Nat.reduceMul,Nat.reduceSub,Int.reduceLT,Int.reduceLE,Int.reduceToNat,Int.reduceAdd,Int.reduceSub,decide_true,decide_false,tf111, he0, he1, he2, he7, he8, hd1, hd2, hw1, hw2, hw3, hic, hic1, add_zero', Nat.sub_zero, ite_self, Option.map_some, add_lit', Nat.zero_add]
    refine ⟨by omega, by omega, ?_⟩
    refine overlaps_noT hB hg hgB (by intro h; rw [h] at hcc; simp at hcc; omega) ?_
    refine os_gen (fun e' => e' 0 = .slice (some ⟨g, 0, none⟩) (l.length + 1) c ∧ e' 1 = .int .i64 i ∧ e' 2 = .slice (some ⟨B, 0, none⟩) 1 cv ∧ e' 7 = .int .i64 ((1 : Nat) : Int) ∧ e' 67 = .bool false) ⟨?_, ?_, ?_, ?_, ?_⟩ ?_
    · simp -dsimp only [↓RE,RU,RL,↓reduceIte,Nat.reduceEqDiff,reduceCtorEq,decide_true,decide_false, he0, he8, hw1, Nat.sub_zero]
    · simp -dsimp only [↓RE,RU,RL,↓reduceIte,Nat.reduceEqDiff,reduceCtorEq,decide_true,decide_false, he1]
    · simp -dsimp only [↓RE,RU,RL,↓reduceIte,Nat.reduceEqDiff,reduceCtorEq,decide_true,decide_false, he2]
    · simp -dsimp only [↓RE,RU,RL,↓reduceIte,Nat.reduceEqDiff,reduceCtorEq,decide_true,decide_false, he7]
    · simp -dsimp only [↓RE,RU,RL,↓reduceIte,Nat.reduceEqDiff,reduceCtorEq,decide_true,decide_false, he7]
    clear he0 he1 he2 he7 he8 e
    rintro e ⟨he0, he1, he2, he7, he67⟩
    simp -dsimp only [↓RE,RU,RL,Nat.reduceLeDiff,Nat.reduceLT,pureOp,binPure,intBin,strBin,eqPure,isConstO,unPure,sliceLo,sliceHi,slicePure,lenPure,capPure,resK,endV,↓reduceIte,Nat.reduceEqDiff,reduceCtorEq,Nat.reduceAdd,Nat.reduceMul,Nat.reduceSub,Int.reduceLT,Int.reduceLE,Int.reduceToNat,Int.reduceAdd,Int.reduceSub,decide_true,decide_false,tf111, he0, he1, he2, he7, he67]
    rw [c_seq]
    simp -dsimp only [↓RE,RU,RL,Nat.reduceLeDiff,Nat.reduceLT,pureOp,binPure,intBin,strBin,eqPure,isConstO,unPure,sliceLo,sliceHi,slicePure,lenPure,capPure,resK,endV,↓reduceIte,Nat.reduceEqDiff,reduceCtorEq,Nat.reduceAdd,Nat.reduceMul,Nat.reduceSub,Int.reduceLT,Int.reduceLE,Int.reduceToNat,Int.reduceAdd,Int.reduceSub,decide_true,decide_false,tf111, he0]
    have hct' : cur.take (i * 2) = (l.flatMap tcells).take (i * 2) := by rw [← hct, List.take_take, Nat.min_eq_left (by omega)]
    have hT : (cur.take ((i + 1) * 2)).length = (i + 1) * 2 := by rw [List.length_take]; omega
    refine wpDraw_tail mixed 8 (by kernel_rfl) ?_
    try simp -dsimp only [↓RE,↓c_seq,RU,RL,Nat.reduceLeDiff,Nat.reduceLT,pureOp,binPure,intBin,strBin,eqPure,isConstO,unPure,sliceLo,sliceHi,slicePure,lenPure,capPure,resK,endV,↓reduceIte,Nat.reduceEqDiff,reduceCtorEq,Nat.reduceAdd,Nat.reduceMul,Nat.reduceSub,Int.reduceLT,Int.reduceLE,Int.reduceToNat,Int.reduceAdd,Int.reduceSub,decide_true,decide_false,tf111, he0, he1, he2, he7, he67, hd1, hd2, hw1, hw2, hw3, hic, hic1, add_zero', Nat.sub_zero, ite_self, Option.map_some, add_lit', Nat.zero_add]
    refine ⟨by omega, by omega, genK_copy rfl (t := 22) (bytes := 32) (by kernel_rfl) (g := g) (off := (i + 1) * 2) (dl := l.length + 1 - (i + 1)) (dc := c - (i + 1)) (by simp -dsimp only [↓RE,RU,RL,↓reduceIte,Nat.reduceEqDiff,reduceCtorEq,decide_true,decide_false, he0, he1, he2, he7, he67, hd1, hd2, hw1, hw2, hw3, hic, hic1, add_zero', Nat.sub_zero, ite_self, Option.map_some, add_lit', Nat.zero_add]) (ad := ⟨g, i * 2, none⟩) (n := l.length + 1 - i) (c := c - i) (by simp -dsimp only [↓RE,RU,RL,↓reduceIte,Nat.reduceEqDiff,reduceCtorEq,decide_true,decide_false, he0, he1, he2, he7, he67, hd1, hd2, hw1, hw2, hw3, hic, hic1, add_zero', Nat.sub_zero, ite_self, Option.map_some, add_lit', Nat.zero_add])
      (m := l.length - i) (by rw [show l.length + 1 - (i + 1) = l.length - i by omega]; exact Nat.min_eq_right (by omega)) hg.drew (rd_atT hR0 hi).drew (fun u hu => tcells_one1 l u (List.mem_of_mem_drop hu)) (by omega) (fun w2 hb2 hk2 => ?_)⟩
    try simp -dsimp only [↓RE,↓c_seq,RU,RL,Nat.reduceLeDiff,Nat.reduceLT,pureOp,binPure,intBin,strBin,eqPure,isConstO,unPure,sliceLo,sliceHi,slicePure,lenPure,capPure,resK,endV,↓reduceIte,Nat.reduceEqDiff,reduceCtorEq,Nat.reduceAdd,Nat.reduceMul,Nat.reduceSub,Int.reduceLT,Int.reduceLE,Int.reduceToNat,Int.reduceAdd,Int.reduceSub,decide_true,decide_false,tf111, he0, he1, he2, he7, he67, hd1, hd2, hw1, hw2, hw3, hic, hic1, add_zero', Nat.sub_zero, ite_self, Option.map_some, add_lit', Nat.zero_add]
    have hl2 : (cur.take ((i + 1) * 2) ++ (l.flatMap tcells).drop (i * 2) ++ cur.drop ((i + 1) * 2 + (l.length - i) * 2)).length = cur.length := by
      simp only [List.length_append, hT, List.length_drop, hl3]; omega
    have hgk2 : Keep (fun k => k = g) w w2 := (Grow.drew w).then hk2
    refine ⟨by omega, genK_copy rfl (t := 22) (bytes := 32) (by kernel_rfl) (g := g) (off := i * 2) (dl := l.length + 1 - i) (dc := c - i) (by simp -dsimp only [↓RE,RU,RL,↓reduceIte,Nat.reduceEqDiff,reduceCtorEq,decide_true,decide_false, he0, he1, he2, he7, he67, hd1, hd2, hw1, hw2, hw3, hic, hic1, add_zero', Nat.sub_zero, ite_self, Option.map_some, add_lit', Nat.zero_add]) (ad := ⟨B, 0, none⟩) (n := 1) (c := cv) (by simp -dsimp only [↓RE,RU,RL,↓reduceIte,Nat.reduceEqDiff,reduceCtorEq,decide_true,decide_false, he0, he1, he2, he7, he67, hd1, hd2, hw1, hw2, hw3, hic, hic1, add_zero', Nat.sub_zero, ite_self, Option.map_some, add_lit', Nat.zero_add]) (Nat.min_eq_left (by omega)) hb2
      (hR1.keep hgk2 (fun k hk e => by obtain ⟨_, he, rfl⟩ := hk; injection he with he; subst he; exact hgB e)) hx1 (by rw [hl2]; omega) (fun w3 hb3 hk3 => ?_)⟩
    try simp -dsimp only [↓RE,↓c_seq,RU,RL,Nat.reduceLeDiff,Nat.reduceLT,pureOp,binPure,intBin,strBin,eqPure,isConstO,unPure,sliceLo,sliceHi,slicePure,lenPure,capPure,resK,endV,↓reduceIte,Nat.reduceEqDiff,reduceCtorEq,Nat.reduceAdd,Nat.reduceMul,Nat.reduceSub,Int.reduceLT,Int.reduceLE,Int.reduceToNat,Int.reduceAdd,Int.reduceSub,decide_true,decide_false,tf111, he0, he1, he2, he7, he67, hd1, hd2, hw1, hw2, hw3, hic, hic1, add_zero', Nat.sub_zero, ite_self, Option.map_some, add_lit', Nat.zero_add]
    have hnl : (l.take i ++ x :: l.drop i).length = l.length + 1 := by simp; omega
    refine h w3 _ ⟨by rw [flat_lengthT], .inr ⟨g, c, _, by rw [hnl], hb3, by omega, hcm, ?_, ?_⟩⟩ ((hgk2.trans hk3 (fun _ _ h => h) (fun _ _ h => h)).mono (fun k _ hk => (fpV_some _ _ _ _).2 hk)) (fun k hk => .inl (by rw [fpV_some] at hk ⊢; exact hk))
    · rw [List.length_append, List.length_append, List.length_take, List.length_drop, hl2, flat_lengthT, List.length_cons, List.length_nil]; omega
    · exact (congrArg (fun k => List.take (k * 2) _) hnl).trans (ins_cellsT hi hct hcc3 rfl)
  · have hie : i = l.length := Nat.le_antisymm hi hil
    subst hie
    refine insert_endT hL hn hB (fun w' v' h1 h2 h3 => h w' v' ?_ h2 h3)
    rw [List.take_length, List.drop_length]
    exact h1

end Go.Proofs.YtljgnocpijniiaaGreatDoor

namespace Go.Proofs.YtljgnocpijniiaaGreatDoor
open Go

/-- tags by their keys alone. -/
def kT (a b : Tg) : Int := cmpS a.1 b.1
theorem kT_cmp : Cmp kT := cmpS_cmp.pull Prod.fst
def srtT (l : List Tg) : List Tg := gLoad kT [] l
theorem srtT_strict (l : List Tg) : StrictC kT (srtT l) := StrictC.load kT_cmp List.Pairwise.nil
theorem srtT_len (l : List Tg) : (srtT l).length ≤ l.length := by have := gLoad_len (cf := kT) l []; rw [List.length_nil, Nat.zero_add] at this; exact this
theorem srtT_snoc (l : List Tg) (t : Tg) : srtT (l ++ [t]) = gPut kT (srtT l) t := by rw [srtT, gLoad, List.foldl_append]; rfl
/-- the place of a tag: all ahead of it are less, the next one is not. -/
structure At (l : List Tg) (t : Tg) (i : Nat) : Prop where
  le : i ≤ l.length
  lo : ∀ k, k < i → kT (l.getD k t00) t < 0
  hi : i < l.length → ¬ kT (l.getD i t00) t < 0
theorem put_at : ∀ {l : List Tg} {t : Tg} {i : Nat}, At l t i → gPut kT l t = if i < l.length ∧ kT (l.getD i t00) t = 0 then l.set i t else l.take i ++ t :: l.drop i
  | [], t, i, h => by
    have := h.le
    obtain rfl : i = 0 := by simpa using this
    rw [if_neg (fun q => absurd q.1 (by simp))]
    rfl
  | a :: l, t, 0, h => by
    have h1 : ¬ kT a t < 0 := h.hi (by simp)
    have hn := kT_cmp.neg t a
    have e0 : (a :: l).getD 0 t00 = a := rfl
    rw [e0, gPut]
    by_cases h2 : kT a t = 0
    · rw [if_neg (by omega), if_pos (by omega), if_pos ⟨by simp, h2⟩]; rfl
    · rw [if_pos (by omega), if_neg (fun q => h2 q.2)]; rfl
  | a :: l, t, i + 1, h => by
    have h1 : kT a t < 0 := h.lo 0 (by omega)
    have hn := kT_cmp.neg t a
    have ih := put_at (l := l) (t := t) (i := i) ⟨by have := h.le; simp at this; omega, fun k hk => h.lo (k + 1) (by omega), fun hk => h.hi (by simp; omega)⟩
    have e1 : (a :: l).getD (i + 1) t00 = l.getD i t00 := rfl
    rw [gPut, if_neg (by omega), if_neg (by omega), ih, e1]
    by_cases hq : i < l.length ∧ kT (l.getD i t00) t = 0
    · rw [if_pos hq, if_pos ⟨by simp; omega, hq.2⟩]; rfl
    · rw [if_neg hq, if_neg (fun q => hq ⟨by have := q.1; simp at this; omega, q.2⟩)]; rfl
/-- does a tag of this key stand there? -/
def isT (l : List Tg) (t : Tg) (i : Nat) : Bool := decide (i < l.length ∧ kT (l.getD i t00) t = 0)
theorem getT_some {l : List Tg} {k : Nat} (h : k < l.length) : l[k]? = some (l.getD k t00) := by rw [List.getD_eq_getElem?_getD, List.getElem?_eq_getElem h]; rfl
theorem bykey_ok {w : World} {a b : Tg} {R : VWK} (h : ∀ w', Grow w w' → R (.int .i64 (kT a b)) w') : CallsV Tryz.prog 110 [.agg #[.string a.1, .string a.2], .agg #[.string b.1, .string b.2]] w R := by
  refine calls_of_wpC mixed Tryz.func110 rfl (by kernel_rfl) ?_
  intro e he
  have he0 := he 0
  have he1 := he 1
  simp only [List.getD_cons_zero, List.getD_cons_succ] at he0 he1
  clear he
  rw [c_seq]
  simp -dsimp only [↓RE,RU,RL,Nat.reduceLeDiff,Nat.reduceLT,pureOp,resK,endV,↓reduceIte,Nat.reduceEqDiff,reduceCtorEq,Nat.reduceAdd,Nat.reduceMul,Int.reduceLT,Int.reduceLE,Int.reduceToNat,decide_true,decide_false,tf110, he0, he1]
  refine c_gen2 (fun e' w' => ∃ p q, e' 2 = .pointer (some ⟨p, 0, none⟩) ∧ e' 3 = .pointer (some ⟨q, 0, none⟩) ∧ Blk w' p 115 [.string a.1, .string a.2] ∧ Blk w' q 115 [.string b.1, .string b.2] ∧ Grow w w') ⟨_, _, ?_, ?_, two_new w _ _ #[.string a.1, .string a.2] #[.string b.1, .string b.2]⟩ ?_
  · simp -dsimp only [↓RE,RU,RL,↓reduceIte,Nat.reduceEqDiff,reduceCtorEq,decide_true,decide_false, he0]
  · simp -dsimp only [↓RE,RU,RL,↓reduceIte,Nat.reduceEqDiff,reduceCtorEq,decide_true,decide_false, he0]
  clear he0 he1 e
  rintro e w1 ⟨p, q, he2, he3, hb1, hb2, g1⟩
  have x0 : w1.cell? ⟨p, 0, none⟩ = some (.string a.1) := (hb1.cell 0).trans rfl
  have y0 : w1.cell? ⟨q, 0, none⟩ = some (.string b.1) := (hb2.cell 0).trans rfl
  repeat (first | rw [c_seq] | simp -dsimp only [↓RE,RU,RL,Nat.reduceLeDiff,Nat.reduceLT,pureOp,resK,endV,↓reduceIte,Nat.reduceEqDiff,reduceCtorEq,Nat.reduceAdd,Nat.reduceMul,Int.reduceLT,Int.reduceLE,Int.reduceToNat,decide_true,decide_false,tf110, he2, he3, x0, y0, add_lit', Nat.zero_add])
  refine compareS_ok ?_
  repeat (first | rw [c_seq] | simp -dsimp only [↓RE,RU,RL,Nat.reduceLeDiff,Nat.reduceLT,pureOp,resK,endV,↓reduceIte,Nat.reduceEqDiff,reduceCtorEq,Nat.reduceAdd,Nat.reduceMul,Int.reduceLT,Int.reduceLE,Int.reduceToNat,decide_true,decide_false,tf110, he2])
  exact h w1 g1
theorem ltK {a b t : Tg} {l : List Tg} (hs : StrictC kT l) {i k : Nat} (hik : i < k) (hk : k < l.length) : kT (l.getD i t00) (l.getD k t00) < 0 := by
  rw [List.getD_eq_getElem?_getD, List.getD_eq_getElem?_getD, List.getElem?_eq_getElem hk, List.getElem?_eq_getElem (by omega)]
  exact List.pairwise_iff_getElem.1 hs i k (by omega) hk hik
set_option maxHeartbeats 1000000 in
theorem tsearch_ok {w : World} {A : Option Addr} {n c : Nat} {l : List Tg} (hR : RdT w A n l) (hn : n ≤ 1000000000000) (hr : StrictC kT l) {t : Tg} {R : VWK}
    (h : ∀ w' i, Grow w w' → At l t i → R (.tuple #[.int .i64 (i : Nat), .bool (isT l t i)]) w') :
    CallsV Tryz.prog 109 [.slice A n c, .agg #[.string t.1, .string t.2], .func (.func 110) #[] #[]] w R := by
  have hl := hR.tlen
  refine calls_of_wpC mixed Tryz.func109 rfl (by kernel_rfl) ?_
  intro e he
  have he0 := he 0
  have he1 := he 1
  have he2 := he 2
  simp only [List.getD_cons_zero, List.getD_cons_succ] at he0 he1 he2
  clear he
  rw [c_seq]
  simp -dsimp only [↓RE,RU,RL,forall_const,implies_true,Nat.reduceLeDiff,Nat.reduceLT,pureOp,binPure,intBin,strBin,eqPure,isConstO,lenPure,resK,endV,yieldE,↓reduceIte,Nat.reduceEqDiff,reduceCtorEq,Nat.reduceAdd,Nat.reduceMul,Int.reduceLT,Int.reduceLE,Int.reduceToNat,Int.reduceAdd,decide_true,decide_false,tf109, he0, he1, he2]
  refine c_gen2 (fun e' w' => e' 0 = .slice A n c ∧ e' 2 = .func (.func 110) #[] #[] ∧ ∃ b, e' 4 = .pointer (some ⟨b, 0, none⟩) ∧ Blk w' b 115 (tcells t) ∧ Grow w w') ⟨?_, ?_, w.heap.size, ?_, Blk.new' w _ #[.string t.1, .string t.2], Grow.alloc w _⟩ ?_
  · simp -dsimp only [↓RE,RU,RL,↓reduceIte,Nat.reduceEqDiff,reduceCtorEq,decide_true,decide_false, he0]
  · simp -dsimp only [↓RE,RU,RL,↓reduceIte,Nat.reduceEqDiff,reduceCtorEq,decide_true,decide_false, he2]
  · simp -dsimp only [↓RE,RU,RL,↓reduceIte,Nat.reduceEqDiff,reduceCtorEq,decide_true,decide_false, he0]
  clear he0 he1 he2 e
  rintro e w1 ⟨he0, he2, b, he4, hb, g1⟩
  rw [c_seq]
  simp -dsimp only [↓RE,RU,RL,forall_const,implies_true,Nat.reduceLeDiff,Nat.reduceLT,pureOp,binPure,intBin,strBin,eqPure,isConstO,lenPure,resK,endV,yieldE,↓reduceIte,Nat.reduceEqDiff,reduceCtorEq,Nat.reduceAdd,Nat.reduceMul,Int.reduceLT,Int.reduceLE,Int.reduceToNat,Int.reduceAdd,decide_true,decide_false,tf109, he0]
  rw [c_seq]
  simp -dsimp only [↓RE,RU,RL,forall_const,implies_true,Nat.reduceLeDiff,Nat.reduceLT,pureOp,binPure,intBin,strBin,eqPure,isConstO,lenPure,resK,endV,yieldE,↓reduceIte,Nat.reduceEqDiff,reduceCtorEq,Nat.reduceAdd,Nat.reduceMul,Int.reduceLT,Int.reduceLE,Int.reduceToNat,Int.reduceAdd,decide_true,decide_false,tf109, he0]
  refine c_seq_cut (fun e' w' => e' 0 = .slice A n c ∧ e' 2 = .func (.func 110) #[] #[] ∧ e' 4 = .pointer (some ⟨b, 0, none⟩) ∧ e' 8 = .int .i64 n ∧ Grow w1 w' ∧ ∃ i, e' 9 = .int .i64 (i : Nat) ∧ i ≤ n ∧ (∀ k, k < i → kT (l.getD k t00) t < 0) ∧ (∀ k, i ≤ k → k < n → ¬ kT (l.getD k t00) t < 0)) ?_ ?_
  · repeat (first | rw [c_seq] | simp -dsimp only [↓RE,RU,RL,forall_const,implies_true,Nat.reduceLeDiff,Nat.reduceLT,pureOp,binPure,intBin,strBin,eqPure,isConstO,lenPure,resK,endV,yieldE,↓reduceIte,Nat.reduceEqDiff,reduceCtorEq,Nat.reduceAdd,Nat.reduceMul,Int.reduceLT,Int.reduceLE,Int.reduceToNat,Int.reduceAdd,decide_true,decide_false,tf109, he0])
    refine wpLoop_intro (fun e' w' => e' 0 = .slice A n c ∧ e' 2 = .func (.func 110) #[] #[] ∧ e' 4 = .pointer (some ⟨b, 0, none⟩) ∧ e' 8 = .int .i64 n ∧ Grow w1 w' ∧ ∃ (i j : Nat), i ≤ j ∧ j ≤ n ∧ e' 9 = .int .i64 i ∧ e' 10 = .int .i64 j ∧
      (∀ k, k < i → kT (l.getD k t00) t < 0) ∧ (∀ k, j ≤ k → k < n → ¬ kT (l.getD k t00) t < 0)) (fun e' _ => (envInt (e' 10)).toNat - (envInt (e' 9)).toNat) ⟨?_, ?_, ?_, ?_, Keep.refl _ _, 0, n, Nat.zero_le _, Nat.le_refl _, ?_, ?_, fun k hk => absurd hk (by omega), fun k h1 h2 => absurd h2 (by omega)⟩ ?_
    · simp -dsimp only [↓RE,RU,RL,↓reduceIte,Nat.reduceEqDiff,reduceCtorEq,decide_true,decide_false, he0]
    · simp -dsimp only [↓RE,RU,RL,↓reduceIte,Nat.reduceEqDiff,reduceCtorEq,decide_true,decide_false, he2]
    · simp -dsimp only [↓RE,RU,RL,↓reduceIte,Nat.reduceEqDiff,reduceCtorEq,decide_true,decide_false, he4]
    · simp -dsimp only [↓RE,RU,RL,↓reduceIte,Nat.reduceEqDiff,reduceCtorEq,decide_true,decide_false, he0]
    · simp -dsimp only [↓RE,RU,RL,↓reduceIte,Nat.reduceEqDiff,reduceCtorEq,decide_true,decide_false, Int.cast_ofNat_Int]
    · simp -dsimp only [↓RE,RU,RL,↓reduceIte,Nat.reduceEqDiff,reduceCtorEq,decide_true,decide_false, he0]
    clear he0 he2 he4 e
    rintro e w' ⟨he0, he2, he4, he8, hg, i, j, hij, hjn, he9, he10, hlo, hhi⟩
    rcases Nat.lt_or_ge i j with hlt | hge
    · have hd : decide ((i : Int) < (j : Int)) = true := decide_eq_true (by omega)
      have hh := half_ok hlt (by omega)
      generalize hk : (i + j) / 2 = k at hh
      have hk1 : i ≤ k := by omega
      have hk2 : k < j := by omega
      have hRg := hR.grow (g1.trans hg)
      obtain ⟨ad, rfl⟩ : ∃ ad, A = some ad := by
        obtain ⟨ad, e, _⟩ := hRg.2 (by omega)
        exact ⟨ad, e⟩
      have hbg : ∀ w2, Grow w' w2 → ∀ (j : Nat) v, (tcells t)[j]? = some v → w2.cell? ((⟨b, 0, none⟩ : Addr).add j) = some v := fun w2 g j v hv => by rw [add_lit', Nat.zero_add, ((hb.grow hg).grow g).cell]; exact hv
      repeat (first | rw [c_seq] | simp -dsimp only [↓RE,RU,RL,forall_const,implies_true,Nat.reduceLeDiff,Nat.reduceLT,pureOp,binPure,intBin,strBin,eqPure,isConstO,lenPure,resK,endV,yieldE,↓reduceIte,Nat.reduceEqDiff,reduceCtorEq,Nat.reduceAdd,Nat.reduceMul,Int.reduceLT,Int.reduceLE,Int.reduceToNat,Int.reduceAdd,decide_true,decide_false,tf109, he0, he9, he10, hd, hh])
      refine wpDraw_by (Grow w' ·) [(0, true), (1, true), (2, true), (3, true), (4, true), (5, true), (6, false), (7, true)] (by kernel_rfl) (Grow.drew w') ?_
      simp only [planL, List.getElem?_toArray, List.getElem?_cons_zero, List.getElem?_cons_succ, Option.toList_some, List.map_cons, List.map_nil, List.cons_append, List.nil_append]
      repeat (first | rw [c_seq] | simp -dsimp only [↓RE,RU,RL,forall_const,implies_true,Nat.reduceLeDiff,Nat.reduceLT,pureOp,binPure,intBin,strBin,eqPure,isConstO,lenPure,resK,endV,yieldE,↓reduceIte,Nat.reduceEqDiff,reduceCtorEq,Nat.reduceAdd,Nat.reduceMul,Int.reduceLT,Int.reduceLE,Int.reduceToNat,Int.reduceAdd,decide_true,decide_false,tf109, he0, he2, he4, hh, Int.toNat_natCast])
      refine ⟨⟨by omega, by omega⟩, ?_⟩
      repeat (first | rw [c_seq] | simp -dsimp only [↓RE,RU,RL,forall_const,implies_true,Nat.reduceLeDiff,Nat.reduceLT,pureOp,binPure,intBin,strBin,eqPure,isConstO,lenPure,resK,endV,yieldE,↓reduceIte,Nat.reduceEqDiff,reduceCtorEq,Nat.reduceAdd,Nat.reduceMul,Int.reduceLT,Int.reduceLE,Int.reduceToNat,Int.reduceAdd,decide_true,decide_false,tf109, he4])
      refine ⟨tcells (l.getD k t00), rfl, fun w2 g2 j v hv => ?_, ?_⟩
      · obtain ⟨_, ad', hA, hc⟩ := ((hRg.grow g2)).flat (size := 2) (fun _ _ => rfl) (getT_some (l := l) (k := k) (by omega)) (by omega)
        injection hA with hA
        subst hA
        exact hc j v hv
      repeat (first | rw [c_seq] | simp -dsimp only [↓RE,RU,RL,forall_const,implies_true,Nat.reduceLeDiff,Nat.reduceLT,pureOp,binPure,intBin,strBin,eqPure,isConstO,lenPure,resK,endV,yieldE,↓reduceIte,Nat.reduceEqDiff,reduceCtorEq,Nat.reduceAdd,Nat.reduceMul,Int.reduceLT,Int.reduceLE,Int.reduceToNat,Int.reduceAdd,decide_true,decide_false,tf109, he4])
      refine ⟨tcells t, rfl, hbg, ?_⟩
      repeat (first | rw [c_seq] | simp -dsimp only [↓RE,RU,RL,forall_const,implies_true,Nat.reduceLeDiff,Nat.reduceLT,pureOp,binPure,intBin,strBin,eqPure,isConstO,lenPure,resK,endV,yieldE,↓reduceIte,Nat.reduceEqDiff,reduceCtorEq,Nat.reduceAdd,Nat.reduceMul,Int.reduceLT,Int.reduceLE,Int.reduceToNat,Int.reduceAdd,decide_true,decide_false,tf109, he4, he2])
      refine bykey_ok (fun w3 g3 => ?_)
      refine ⟨(Grow.drew w').trans g3, ?_⟩
      have gw := hg.trans ((Grow.drew w').trans g3)
      by_cases hc : kT (l.getD k t00) t < 0
      · have hd2 : decide (kT (l.getD k t00) t < 0) = true := decide_eq_true hc
        have hw1 : IntKind.i64.wrap ((k : Int) + 1) = ((k + 1 : Nat) : Int) := by rw [wrap_i64_in (by omega) (by omega)]; omega
        repeat (first | rw [c_seq] | simp -dsimp only [↓RE,RU,RL,forall_const,implies_true,Nat.reduceLeDiff,Nat.reduceLT,pureOp,binPure,intBin,strBin,eqPure,isConstO,lenPure,resK,endV,yieldE,↓reduceIte,Nat.reduceEqDiff,reduceCtorEq,Nat.reduceAdd,Nat.reduceMul,Int.reduceLT,Int.reduceLE,Int.reduceToNat,Int.reduceAdd,decide_true,decide_false,tf109, hd2, hh, hw1])
        refine hold_intro ⟨⟨?_, ?_, ?_, ?_, gw, k + 1, j, by omega, hjn, ?_, ?_, fun q hq => ?_, hhi⟩, ?_⟩
        · simp -dsimp only [↓RE,RU,RL,↓reduceIte,Nat.reduceEqDiff,reduceCtorEq,decide_true,decide_false, he0]
        · simp -dsimp only [↓RE,RU,RL,↓reduceIte,Nat.reduceEqDiff,reduceCtorEq,decide_true,decide_false, he2]
        · simp -dsimp only [↓RE,RU,RL,↓reduceIte,Nat.reduceEqDiff,reduceCtorEq,decide_true,decide_false, he4]
        · simp -dsimp only [↓RE,RU,RL,↓reduceIte,Nat.reduceEqDiff,reduceCtorEq,decide_true,decide_false, he8]
        · simp -dsimp only [↓RE,RU,RL,↓reduceIte,Nat.reduceEqDiff,reduceCtorEq,decide_true,decide_false, hw1, hh]
        · simp -dsimp only [↓RE,RU,RL,↓reduceIte,Nat.reduceEqDiff,reduceCtorEq,decide_true,decide_false, he10]
        · rcases Nat.lt_or_eq_of_le (Nat.lt_succ_iff.1 hq) with hq | rfl
          · exact kT_cmp.lt_le (ltK (a := t) (b := t) (t := t) hr hq (by omega)) (by omega)
          · exact hc
        · rw [he9, he10]
          simp -dsimp only [↓RE,↓c_seq,RU,RL,forall_const,implies_true,Nat.reduceLeDiff,Nat.reduceLT,pureOp,binPure,intBin,strBin,eqPure,isConstO,lenPure,resK,endV,yieldE,↓reduceIte,Nat.reduceEqDiff,reduceCtorEq,Nat.reduceAdd,Nat.reduceMul,Int.reduceLT,Int.reduceLE,Int.reduceToNat,Int.reduceAdd,decide_true,decide_false,tf109, hw1, hh, he10]
          simp only [envInt_int]; omega
      · have hd2 : decide (kT (l.getD k t00) t < 0) = false := decide_eq_false hc
        repeat (first | rw [c_seq] | simp -dsimp only [↓RE,RU,RL,forall_const,implies_true,Nat.reduceLeDiff,Nat.reduceLT,pureOp,binPure,intBin,strBin,eqPure,isConstO,lenPure,resK,endV,yieldE,↓reduceIte,Nat.reduceEqDiff,reduceCtorEq,Nat.reduceAdd,Nat.reduceMul,Int.reduceLT,Int.reduceLE,Int.reduceToNat,Int.reduceAdd,decide_true,decide_false,tf109, hd2, hh])
        refine hold_intro ⟨⟨?_, ?_, ?_, ?_, gw, i, k, by omega, by omega, ?_, ?_, hlo, fun q hq hqn => ?_⟩, ?_⟩
        · simp -dsimp only [↓RE,RU,RL,↓reduceIte,Nat.reduceEqDiff,reduceCtorEq,decide_true,decide_false, he0]
        · simp -dsimp only [↓RE,RU,RL,↓reduceIte,Nat.reduceEqDiff,reduceCtorEq,decide_true,decide_false, he2]
        · simp -dsimp only [↓RE,RU,RL,↓reduceIte,Nat.reduceEqDiff,reduceCtorEq,decide_true,decide_false, he4]
        · simp -dsimp only [↓RE,RU,RL,↓reduceIte,Nat.reduceEqDiff,reduceCtorEq,decide_true,decide_false, he8]
        · simp -dsimp only [↓RE,RU,RL,↓reduceIte,Nat.reduceEqDiff,reduceCtorEq,decide_true,decide_false, he9]
        · simp -dsimp only [↓RE,RU,RL,↓reduceIte,Nat.reduceEqDiff,reduceCtorEq,decide_true,decide_false, hh]
        · rcases Nat.lt_or_eq_of_le hq with hq | rfl
          · intro hlt2
            have := kT_cmp.lt_le (ltK (a := t) (b := t) (t := t) hr hq (by omega)) (by omega : kT (l.getD q t00) t ≤ 0)
            exact hc this
          · exact hc
        · rw [he9, he10]
          simp -dsimp only [↓RE,↓c_seq,RU,RL,forall_const,implies_true,Nat.reduceLeDiff,Nat.reduceLT,pureOp,binPure,intBin,strBin,eqPure,isConstO,lenPure,resK,endV,yieldE,↓reduceIte,Nat.reduceEqDiff,reduceCtorEq,Nat.reduceAdd,Nat.reduceMul,Int.reduceLT,Int.reduceLE,Int.reduceToNat,Int.reduceAdd,decide_true,decide_false,tf109, hh, he9]
          simp only [envInt_int]; omega
    · have hd : decide ((i : Int) < (j : Int)) = false := decide_eq_false (by omega)
      obtain rfl : i = j := by omega
      repeat (first | rw [c_seq] | simp -dsimp only [↓RE,RU,RL,forall_const,implies_true,Nat.reduceLeDiff,Nat.reduceLT,pureOp,binPure,intBin,strBin,eqPure,isConstO,lenPure,resK,endV,yieldE,↓reduceIte,Nat.reduceEqDiff,reduceCtorEq,Nat.reduceAdd,Nat.reduceMul,Int.reduceLT,Int.reduceLE,Int.reduceToNat,Int.reduceAdd,decide_true,decide_false,tf109, he9, he10, hd])
      refine hold_intro ⟨?_, ?_, ?_, ?_, hg, i, ?_, hjn, hlo, hhi⟩
      · simp -dsimp only [↓RE,RU,RL,↓reduceIte,Nat.reduceEqDiff,reduceCtorEq,decide_true,decide_false, he0]
      · simp -dsimp only [↓RE,RU,RL,↓reduceIte,Nat.reduceEqDiff,reduceCtorEq,decide_true,decide_false, he2]
      · simp -dsimp only [↓RE,RU,RL,↓reduceIte,Nat.reduceEqDiff,reduceCtorEq,decide_true,decide_false, he4]
      · simp -dsimp only [↓RE,RU,RL,↓reduceIte,Nat.reduceEqDiff,reduceCtorEq,decide_true,decide_false, he8]
      · simp -dsimp only [↓RE,RU,RL,↓reduceIte,Nat.reduceEqDiff,reduceCtorEq,decide_true,decide_false, he9]
  · clear he0 he2 he4 e
    rintro e w' ⟨he0, he2, he4, he8, hg, i, he9, hin, hlo, hhi⟩
    have hAt : At l t i := ⟨by omega, hlo, fun q => hhi i (Nat.le_refl _) (by omega)⟩
    rcases Nat.lt_or_ge i n with hlt | hge
    · have hd : decide ((i : Int) < (n : Int)) = true := decide_eq_true (by omega)
      have hRg := hR.grow (g1.trans hg)
      obtain ⟨ad, rfl⟩ : ∃ ad, A = some ad := by
        obtain ⟨ad, e, _⟩ := hRg.2 (by omega)
        exact ⟨ad, e⟩
      have hbg : ∀ w2, Grow w' w2 → ∀ (j : Nat) v, (tcells t)[j]? = some v → w2.cell? ((⟨b, 0, none⟩ : Addr).add j) = some v := fun w2 g j v hv => by rw [add_lit', Nat.zero_add, ((hb.grow hg).grow g).cell]; exact hv
      have hdi : decide (kT (l.getD i t00) t = 0) = isT l t i := by
        rw [isT, hl]
        simp only [hlt, true_and]
      repeat (first | rw [c_seq] | simp -dsimp only [↓RE,RU,RL,forall_const,implies_true,Nat.reduceLeDiff,Nat.reduceLT,pureOp,binPure,intBin,strBin,eqPure,isConstO,lenPure,resK,endV,yieldE,↓reduceIte,Nat.reduceEqDiff,reduceCtorEq,Nat.reduceAdd,Nat.reduceMul,Int.reduceLT,Int.reduceLE,Int.reduceToNat,Int.reduceAdd,decide_true,decide_false,tf109, he9])
      refine wpDraw_by (Grow w' ·) [(0, true), (1, true), (2, true), (3, true), (4, true), (5, true), (6, true), (7, true), (8, true), (9, true), (10, true), (11, false), (12, true), (13, true), (14, true), (15, true)] (by kernel_rfl) (Grow.drew w') ?_
      simp only [planL, List.getElem?_toArray, List.getElem?_cons_zero, List.getElem?_cons_succ, Option.toList_some, List.map_cons, List.map_nil, List.cons_append, List.nil_append]
      repeat (first | rw [c_seq] | simp -dsimp only [↓RE,RU,RL,forall_const,implies_true,Nat.reduceLeDiff,Nat.reduceLT,pureOp,binPure,intBin,strBin,eqPure,isConstO,lenPure,resK,endV,yieldE,↓reduceIte,Nat.reduceEqDiff,reduceCtorEq,Nat.reduceAdd,Nat.reduceMul,Int.reduceLT,Int.reduceLE,Int.reduceToNat,Int.reduceAdd,decide_true,decide_false,tf109, he0, he2, he4, he8, he9, hd, Int.toNat_natCast])
      refine ⟨⟨by omega, by omega⟩, ?_⟩
      repeat (first | rw [c_seq] | simp -dsimp only [↓RE,RU,RL,forall_const,implies_true,Nat.reduceLeDiff,Nat.reduceLT,pureOp,binPure,intBin,strBin,eqPure,isConstO,lenPure,resK,endV,yieldE,↓reduceIte,Nat.reduceEqDiff,reduceCtorEq,Nat.reduceAdd,Nat.reduceMul,Int.reduceLT,Int.reduceLE,Int.reduceToNat,Int.reduceAdd,decide_true,decide_false,tf109, he4, hd])
      refine ⟨tcells (l.getD i t00), rfl, fun w2 g2 j v hv => ?_, ?_⟩
      · obtain ⟨_, ad', hA, hc⟩ := ((hRg.grow g2)).flat (size := 2) (fun _ _ => rfl) (getT_some (l := l) (k := i) (by omega)) (by omega)
        injection hA with hA
        subst hA
        exact hc j v hv
      repeat (first | rw [c_seq] | simp -dsimp only [↓RE,RU,RL,forall_const,implies_true,Nat.reduceLeDiff,Nat.reduceLT,pureOp,binPure,intBin,strBin,eqPure,isConstO,lenPure,resK,endV,yieldE,↓reduceIte,Nat.reduceEqDiff,reduceCtorEq,Nat.reduceAdd,Nat.reduceMul,Int.reduceLT,Int.reduceLE,Int.reduceToNat,Int.reduceAdd,decide_true,decide_false,tf109, he4, hd])
      refine ⟨tcells t, rfl, hbg, ?_⟩
      repeat (first | rw [c_seq] | simp -dsimp only [↓RE,RU,RL,forall_const,implies_true,Nat.reduceLeDiff,Nat.reduceLT,pureOp,binPure,intBin,strBin,eqPure,isConstO,lenPure,resK,endV,yieldE,↓reduceIte,Nat.reduceEqDiff,reduceCtorEq,Nat.reduceAdd,Nat.reduceMul,Int.reduceLT,Int.reduceLE,Int.reduceToNat,Int.reduceAdd,decide_true,decide_false,tf109, he4, he2, hd])
      refine bykey_ok (fun w3 g3 => ?_)
      refine ⟨(Grow.drew w').trans g3, ?_⟩
      have gw := (g1.trans hg).trans ((Grow.drew w').trans g3)
      repeat (first | rw [c_seq] | simp -dsimp only [↓RE,RU,RL,forall_const,implies_true,Nat.reduceLeDiff,Nat.reduceLT,pureOp,binPure,intBin,strBin,eqPure,isConstO,lenPure,resK,endV,yieldE,↓reduceIte,Nat.reduceEqDiff,reduceCtorEq,Nat.reduceAdd,Nat.reduceMul,Int.reduceLT,Int.reduceLE,Int.reduceToNat,Int.reduceAdd,decide_true,decide_false,tf109, hdi, he9, hd])
      exact h w3 i gw hAt
    · have hd : decide ((i : Int) < (n : Int)) = false := decide_eq_false (by omega)
      have hdi : (false : Bool) = isT l t i := by
        rw [isT, hl]; symm; rw [decide_eq_false_iff_not]; omega
      have h := h w'.drew i ((g1.trans hg).trans (Grow.drew w')) hAt
      rw [← hdi] at h
      repeat (first | rw [c_seq] | simp -dsimp only [↓RE,RU,RL,forall_const,implies_true,Nat.reduceLeDiff,Nat.reduceLT,pureOp,binPure,intBin,strBin,eqPure,isConstO,lenPure,resK,endV,yieldE,↓reduceIte,Nat.reduceEqDiff,reduceCtorEq,Nat.reduceAdd,Nat.reduceMul,Int.reduceLT,Int.reduceLE,Int.reduceToNat,Int.reduceAdd,decide_true,decide_false,tf109, he9])
      refine wpDraw_by (Grow w' ·) [(0, true), (1, true), (2, true), (3, true), (4, true), (5, true), (6, true), (7, true), (8, true), (9, true), (10, true), (11, false), (12, true), (13, true), (14, true), (15, true)] (by kernel_rfl) (Grow.drew w') ?_
      simp only [planL, List.getElem?_toArray, List.getElem?_cons_zero, List.getElem?_cons_succ, Option.toList_some, List.map_cons, List.map_nil, List.cons_append, List.nil_append]
      repeat (first | rw [c_seq] | simp -dsimp only [↓RE,RU,RL,forall_const,implies_true,Nat.reduceLeDiff,Nat.reduceLT,pureOp,binPure,intBin,strBin,eqPure,isConstO,lenPure,resK,endV,yieldE,↓reduceIte,Nat.reduceEqDiff,reduceCtorEq,Nat.reduceAdd,Nat.reduceMul,Int.reduceLT,Int.reduceLE,Int.reduceToNat,Int.reduceAdd,decide_true,decide_false,tf109, he0, he2, he4, he8, he9, hd, undef])
      refine ⟨Grow.drew w', ?_⟩
      repeat (first | rw [c_seq] | simp -dsimp only [↓RE,RU,RL,forall_const,implies_true,Nat.reduceLeDiff,Nat.reduceLT,pureOp,binPure,intBin,strBin,eqPure,isConstO,lenPure,resK,endV,yieldE,↓reduceIte,Nat.reduceEqDiff,reduceCtorEq,Nat.reduceAdd,Nat.reduceMul,Int.reduceLT,Int.reduceLE,Int.reduceToNat,Int.reduceAdd,decide_true,decide_false,tf109, he9, hd, undef])
      exact h

end Go.Proofs.YtljgnocpijniiaaGreatDoor

namespace Go.Proofs.YtljgnocpijniiaaGreatDoor
open Go

theorem tset_one (a : Tg) : ∀ u ∈ tcells a, u.oneCell' = true := by
  intro u hu
  simp only [tcells, List.mem_cons, List.not_mem_nil, or_false] at hu
  rcases hu with rfl | rfl <;> rfl
/-- one tag more. -/
theorem app_t {w : World} {v : Value} {L : List Tg} (h : GRow w v L) {A : Option Addr} {n c : Nat} {xs : List Tg} (hX : RdT w A n xs) (hn : L.length + n ≤ 1000000000000) {ty : TypeId} {K : VWK} {tk : Tok K}
    (hK : ∀ A' c' w', LRow w' 115 2 (.slice A' (L.length + n) c') (L ++ xs).length ((L ++ xs).flatMap tcells) → Keep (fpV v) w w' → (∀ q, fpV (.slice A' (L.length + n) c') q → fpV v q ∨ q = w.heap.size) → K (.slice A' (L.length + n) c') w') :
    appK Tryz.prog [22, 22] ty [v, .slice A n c] w K tk := by
  have hl := hX.tlen
  refine appK_l (bytes := 32) (by kernel_rfl) h hX (tcells_one1 xs) (by simp only [maxLen]; omega) (by omega) (fun A' c' w' hL k1 f1 _ => hK A' c' w' ?_ k1 f1)
  rw [List.flatMap_append, List.length_append, hl]
  exact hL
theorem one_trow (w : World) (x : Tg) : RdT (w.alloc (.cells #[.string x.1, .string x.2] 115)) (some ⟨w.heap.size, 0, none⟩) 1 [x] := by
  have := Rd.of_own (own_new w 115 2 1 #[.string x.1, .string x.2] rfl (by simp [maxLen]))
  exact this
theorem tk_snoc {l : List Tg} {k : Nat} (h : k < l.length) : l.take (k + 1) = l.take k ++ [l.getD k t00] := by
  rw [List.take_succ_eq_append_getElem h, List.getD_eq_getElem?_getD, List.getElem?_eq_getElem h]; rfl
set_option maxHeartbeats 1000000 in
theorem ksort_ok {w : World} {A : Option Addr} {n c : Nat} {l : List Tg} (hR : RdT w A n l) (hn : n ≤ 100000000000) {R : VWK}
    (h : ∀ w' v, GRow w' v (srtT l) → Grow w w' → (∀ q, fpV v q → w.heap.size ≤ q) → R v w') : CallsV Tryz.prog 50 [.slice A n c] w R := by
  have hl := hR.tlen
  refine calls_of_wpC mixed Tryz.func50 rfl (by kernel_rfl) ?_
  intro e he
  have he0 := he 0
  simp only [List.getD_cons_zero, List.getD_cons_succ] at he0
  clear he
  repeat (first | rw [c_seq] | simp -dsimp only [↓RE,RU,RL,Nat.reduceLeDiff,Nat.reduceLT,pureOp,binPure,intBin,strBin,lenPure,resK,endV,↓reduceIte,Nat.reduceEqDiff,reduceCtorEq,Nat.reduceAdd,Nat.reduceMul,Int.reduceLT,Int.reduceLE,Int.reduceToNat,Int.reduceAdd,decide_true,decide_false,tf50, he0])
  refine wpLoop_intro (fun e' w' => Grow w w' ∧ e' 8 = .slice A n c ∧ e' 9 = .int .i64 (n : Int) ∧ ∃ (k : Nat) (v : Value), k ≤ n ∧ e' 10 = .int .i64 (k : Int) ∧ e' 3 = v ∧ GRow w' v (srtT (l.take k)) ∧ (∀ q, fpV v q → w.heap.size ≤ q))
    (fun e' _ => n - (envInt (e' 10)).toNat) ⟨Keep.refl _ _, ?_, ?_, 0, .slice none 0 0, Nat.zero_le _, ?_, ?_, LRow.nil _ _ _, fun q hq => (fpV_none _ hq).elim⟩ ?_
  · simp -dsimp only [↓RE,RU,RL,↓reduceIte,Nat.reduceEqDiff,reduceCtorEq,decide_true,decide_false, he0]
  · simp -dsimp only [↓RE,RU,RL,↓reduceIte,Nat.reduceEqDiff,reduceCtorEq,decide_true,decide_false, he0]
  · simp -dsimp only [↓RE,RU,RL,↓reduceIte,Nat.reduceEqDiff,reduceCtorEq,decide_true,decide_false, Int.cast_ofNat_Int]
  · simp -dsimp only [↓RE,RU,RL,↓reduceIte,Nat.reduceEqDiff,reduceCtorEq,decide_true,decide_false, he0]
  clear he0 e
  rintro e w1 ⟨g1, he8, he9, k, v, hk, he10, he3, hv, hF⟩
  rcases Nat.lt_or_ge k n with hlt | hge
  · have hd : decide ((k : Int) < (n : Int)) = true := decide_eq_true (by omega)
    have hw1 : IntKind.i64.wrap ((k : Int) + 1) = ((k + 1 : Nat) : Int) := by rw [wrap_i64_in (by omega) (by omega)]; omega
    have hRg := hR.grow g1
    obtain ⟨ad, rfl⟩ : ∃ ad, A = some ad := by
      obtain ⟨ad, e, _⟩ := hRg.2 (by omega)
      exact ⟨ad, e⟩
    obtain ⟨_, _, hag⟩ := hRg.tag' hlt
    have hsn := srtT_snoc (l.take k) (l.getD k t00)
    rw [← tk_snoc (by omega)] at hsn
    have hsl := srtT_len (l.take k)
    rw [List.length_take] at hsl
    have hst := srtT_strict (l.take k)
    generalize l.getD k t00 = t at hag hsn
    generalize srtT (l.take k) = S at hv hsn hsl hst
    repeat (first | rw [c_seq] | simp -dsimp only [↓RE,RU,RL,Nat.reduceLeDiff,Nat.reduceLT,pureOp,binPure,intBin,strBin,lenPure,resK,endV,↓reduceIte,Nat.reduceEqDiff,reduceCtorEq,Nat.reduceAdd,Nat.reduceMul,Int.reduceLT,Int.reduceLE,Int.reduceToNat,Int.reduceAdd,decide_true,decide_false,tf50, he8, he9, he10, hd, Int.toNat_natCast])
    refine ⟨⟨by omega, by omega⟩, hag ?_⟩
    repeat (first | rw [c_seq] | simp -dsimp only [↓RE,RU,RL,Nat.reduceLeDiff,Nat.reduceLT,pureOp,binPure,intBin,strBin,lenPure,resK,endV,↓reduceIte,Nat.reduceEqDiff,reduceCtorEq,Nat.reduceAdd,Nat.reduceMul,Int.reduceLT,Int.reduceLE,Int.reduceToNat,Int.reduceAdd,decide_true,decide_false,tf50, he10])
    refine new2 (fun w2 hb g2 => ?_) rfl rfl
    have hb : Blk w2 w1.heap.size 115 (tcells t) := hb
    have hblt := hb.lt
    have hbv : ∀ q, fpV v q → q ≠ w1.heap.size := fun q hq e => by have := hv.lt q hq; omega
    have hbw : w.heap.size ≤ w1.heap.size := g1.size
    generalize w1.heap.size = b at hb hblt hbv hbw
    have hv2 := hv.grow g2
    obtain ⟨Av, cv, rfl, hmc, hAv⟩ := hv2.form
    have hg2 := g1.trans g2
    clear hv hag hRg
    refine os_gen (fun e' => e' 3 = .slice Av S.length cv ∧ e' 5 = .pointer (some ⟨b, 0, none⟩) ∧ e' 8 = .slice (some ad) n c ∧ e' 9 = .int .i64 (n : Int) ∧ e' 10 = .int .i64 (k : Int)) ⟨?_, ?_, ?_, ?_, ?_⟩ ?_
    · simp -dsimp only [↓RE,RU,RL,↓reduceIte,Nat.reduceEqDiff,reduceCtorEq,decide_true,decide_false, he3]
    · simp -dsimp only [↓RE,RU,RL,↓reduceIte,Nat.reduceEqDiff,reduceCtorEq,decide_true,decide_false, he3]
    · simp -dsimp only [↓RE,RU,RL,↓reduceIte,Nat.reduceEqDiff,reduceCtorEq,decide_true,decide_false, he8]
    · simp -dsimp only [↓RE,RU,RL,↓reduceIte,Nat.reduceEqDiff,reduceCtorEq,decide_true,decide_false, he9]
    · simp -dsimp only [↓RE,RU,RL,↓reduceIte,Nat.reduceEqDiff,reduceCtorEq,decide_true,decide_false, he10]
    have hmu : (envInt (e 10)).toNat = k := by rw [he10]; exact Int.toNat_natCast k
    clear he3 he8 he9 he10
    rintro e1 ⟨he3, he5, he8, he9, he10⟩
    repeat (first | rw [c_seq] | simp -dsimp only [↓RE,RU,RL,Nat.reduceLeDiff,Nat.reduceLT,pureOp,binPure,intBin,strBin,lenPure,resK,endV,↓reduceIte,Nat.reduceEqDiff,reduceCtorEq,Nat.reduceAdd,Nat.reduceMul,Int.reduceLT,Int.reduceLE,Int.reduceToNat,Int.reduceAdd,decide_true,decide_false,tf50, he3, he5])
    refine ⟨[.string t.1, .string t.2], rfl, fun j u hu => by rw [add_lit', Nat.zero_add, hb.cell]; exact hu, ?_⟩
    repeat (first | rw [c_seq] | simp -dsimp only [↓RE,RU,RL,Nat.reduceLeDiff,Nat.reduceLT,pureOp,binPure,intBin,strBin,lenPure,resK,endV,↓reduceIte,Nat.reduceEqDiff,reduceCtorEq,Nat.reduceAdd,Nat.reduceMul,Int.reduceLT,Int.reduceLE,Int.reduceToNat,Int.reduceAdd,decide_true,decide_false,tf50, he3, he5])
    refine tsearch_ok hv2.rd (by omega) hst (fun w3 i g3 hAt => ?_)
    have hput := put_at hAt
    have hb3 := hb.grow g3
    have hv3 := hv2.grow g3
    have hg3 := hg2.trans g3
    have hile := hAt.le
    cases hth : isT S t i with
    | true =>
      have hq := of_decide_eq_true hth
      rw [if_pos hq] at hput
      rw [hput] at hsn
      obtain ⟨av, rfl⟩ : ∃ av, Av = some av := by
        obtain ⟨av, e, _⟩ := hv3.rd.2 (by omega)
        exact ⟨av, e⟩
      repeat (first | rw [c_seq] | simp -dsimp only [↓RE,RU,RL,Nat.reduceLeDiff,Nat.reduceLT,pureOp,binPure,intBin,strBin,lenPure,resK,endV,↓reduceIte,Nat.reduceEqDiff,reduceCtorEq,Nat.reduceAdd,Nat.reduceMul,Int.reduceLT,Int.reduceLE,Int.reduceToNat,Int.reduceAdd,decide_true,decide_false,tf50, he3, he5])
      refine ⟨[.string t.1, .string t.2], rfl, fun j u hu => by rw [add_lit', Nat.zero_add, hb3.cell]; exact hu, ?_⟩
      repeat (first | rw [c_seq] | simp -dsimp only [↓RE,RU,RL,Nat.reduceLeDiff,Nat.reduceLT,pureOp,binPure,intBin,strBin,lenPure,resK,endV,↓reduceIte,Nat.reduceEqDiff,reduceCtorEq,Nat.reduceAdd,Nat.reduceMul,Int.reduceLT,Int.reduceLE,Int.reduceToNat,Int.reduceAdd,decide_true,decide_false,tf50, he3, Int.toNat_natCast])
      refine ⟨⟨by omega, by omega⟩, LRow.stElem (f := tcells) (size := 2) (fun _ => rfl) tset_one hv3 rfl hq.1 t (fun w4 hv4 k4 => ?_)⟩
      have hF' := hF av.block ((fpV_some _ _ _ _).2 rfl)
      have hg4 : Grow w w4 := hg3.above k4 (fun q hq e => by omega)
      repeat (first | rw [c_seq] | simp -dsimp only [↓RE,RU,RL,Nat.reduceLeDiff,Nat.reduceLT,pureOp,binPure,intBin,strBin,lenPure,resK,endV,↓reduceIte,Nat.reduceEqDiff,reduceCtorEq,Nat.reduceAdd,Nat.reduceMul,Int.reduceLT,Int.reduceLE,Int.reduceToNat,Int.reduceAdd,decide_true,decide_false,tf50, he10, hw1])
      refine hold_intro ⟨⟨hg4, ?_, ?_, k + 1, .slice (some av) S.length cv, hlt, ?_, ?_, ?_, hF⟩, ?_⟩
      · simp -dsimp only [↓RE,RU,RL,↓reduceIte,Nat.reduceEqDiff,reduceCtorEq,decide_true,decide_false, he8]
      · simp -dsimp only [↓RE,RU,RL,↓reduceIte,Nat.reduceEqDiff,reduceCtorEq,decide_true,decide_false, he9]
      · simp -dsimp only [↓RE,RU,RL,↓reduceIte,Nat.reduceEqDiff,reduceCtorEq,decide_true,decide_false, hw1]
      · simp -dsimp only [↓RE,RU,RL,↓reduceIte,Nat.reduceEqDiff,reduceCtorEq,decide_true,decide_false, he3]
      · rw [hsn]
        show LRow _ _ _ _ (S.set i t).length _
        rw [List.length_set]
        exact hv4
      · rw [hmu]
        simp -dsimp only [↓RE,↓c_seq,RU,RL,Nat.reduceLeDiff,Nat.reduceLT,pureOp,binPure,intBin,strBin,lenPure,resK,endV,↓reduceIte,Nat.reduceEqDiff,reduceCtorEq,Nat.reduceAdd,Nat.reduceMul,Int.reduceLT,Int.reduceLE,Int.reduceToNat,Int.reduceAdd,decide_true,decide_false,tf50, hw1]
        simp only [envInt_int]; omega
    | false =>
      have hq := of_decide_eq_false hth
      rw [if_neg hq] at hput
      rw [hput] at hsn
      repeat (first | rw [c_seq] | simp -dsimp only [↓RE,RU,RL,Nat.reduceLeDiff,Nat.reduceLT,pureOp,binPure,intBin,strBin,lenPure,resK,endV,↓reduceIte,Nat.reduceEqDiff,reduceCtorEq,Nat.reduceAdd,Nat.reduceMul,Int.reduceLT,Int.reduceLE,Int.reduceToNat,Int.reduceAdd,decide_true,decide_false,tf50, he3, he5])
      refine ⟨[.string t.1, .string t.2], rfl, fun j u hu => by rw [add_lit', Nat.zero_add, hb3.cell]; exact hu, ?_⟩
      repeat (first | rw [c_seq] | simp -dsimp only [↓RE,RU,RL,Nat.reduceLeDiff,Nat.reduceLT,pureOp,binPure,intBin,strBin,lenPure,resK,endV,↓reduceIte,Nat.reduceEqDiff,reduceCtorEq,Nat.reduceAdd,Nat.reduceMul,Int.reduceLT,Int.reduceLE,Int.reduceToNat,Int.reduceAdd,decide_true,decide_false,tf50, he3])
      have ga := Grow.alloc w3 (.cells #[.string t.1, .string t.2] 115)
      have hb4 : Blk (w3.alloc (.cells #[.string t.1, .string t.2] 115)) w3.heap.size 115 (tcells t) := Blk.new' w3 _ #[.string t.1, .string t.2]
      refine insert_okT (l := S) (hv3.grow ga) hile (by omega) hb4 (fun e => by have := hv3.lt _ e; omega) (fun w4 v4 hv4 k4 f4 => ?_)
      have hg4 : Grow w w4 := (hg3.trans ga).above k4 (fun q hq e => by have := hF q e; omega)
      have hs3 := hg3.size
      have hsa := ga.size
      repeat (first | rw [c_seq] | simp -dsimp only [↓RE,RU,RL,Nat.reduceLeDiff,Nat.reduceLT,pureOp,binPure,intBin,strBin,lenPure,resK,endV,↓reduceIte,Nat.reduceEqDiff,reduceCtorEq,Nat.reduceAdd,Nat.reduceMul,Int.reduceLT,Int.reduceLE,Int.reduceToNat,Int.reduceAdd,decide_true,decide_false,tf50, he10, hw1])
      refine hold_intro ⟨⟨hg4, ?_, ?_, k + 1, v4, hlt, ?_, ?_, ?_, fun q hq => ?_⟩, ?_⟩
      · simp -dsimp only [↓RE,RU,RL,↓reduceIte,Nat.reduceEqDiff,reduceCtorEq,decide_true,decide_false, he8]
      · simp -dsimp only [↓RE,RU,RL,↓reduceIte,Nat.reduceEqDiff,reduceCtorEq,decide_true,decide_false, he9]
      · simp -dsimp only [↓RE,RU,RL,↓reduceIte,Nat.reduceEqDiff,reduceCtorEq,decide_true,decide_false, hw1]
      · simp -dsimp only [↓RE,RU,RL,↓reduceIte,Nat.reduceEqDiff,reduceCtorEq,decide_true,decide_false, he3]
      · rw [hsn]; exact hv4
      · rcases f4 q hq with e | e
        · exact hF q e
        · omega
      · rw [hmu]
        simp -dsimp only [↓RE,↓c_seq,RU,RL,Nat.reduceLeDiff,Nat.reduceLT,pureOp,binPure,intBin,strBin,lenPure,resK,endV,↓reduceIte,Nat.reduceEqDiff,reduceCtorEq,Nat.reduceAdd,Nat.reduceMul,Int.reduceLT,Int.reduceLE,Int.reduceToNat,Int.reduceAdd,decide_true,decide_false,tf50, hw1]
        simp only [envInt_int]; omega
  · have hd : decide ((k : Int) < (n : Int)) = false := decide_eq_false (by omega)
    rw [List.take_of_length_le (by omega)] at hv
    repeat (first | rw [c_seq] | simp -dsimp only [↓RE,RU,RL,Nat.reduceLeDiff,Nat.reduceLT,pureOp,binPure,intBin,strBin,lenPure,resK,endV,↓reduceIte,Nat.reduceEqDiff,reduceCtorEq,Nat.reduceAdd,Nat.reduceMul,Int.reduceLT,Int.reduceLE,Int.reduceToNat,Int.reduceAdd,decide_true,decide_false,tf50, he8, he9, he10, hd, he3])
    exact h w1 v hv g1 hF
theorem tk_pred {S : List Tg} {j : Nat} (h0 : 0 < j) (hj : j ≤ S.length) : S.take j = S.take (j - 1) ++ [S.getD (j - 1) t00] := by
  have := tk_snoc (l := S) (k := j - 1) (by omega)
  rwa [show j - 1 + 1 = j by omega] at this
theorem shift_get {S : List Tg} {x : Tg} {j : Nat} (h0 : 0 < j) (hj : j ≤ S.length) : (S.take j ++ x :: S.drop j)[j - 1]? = some (S.getD (j - 1) t00) := by
  rw [List.getElem?_append_left (by simp; omega), List.getElem?_take, if_pos (by omega), getT_some (by omega)]
theorem shift_end {S : List Tg} {x t : Tg} {i : Nat} (hi : i ≤ S.length) : (S.take i ++ x :: S.drop i).set i t = S.take i ++ t :: S.drop i := by
  rw [List.set_append_right _ _ (by simp; omega)]
  simp [Nat.min_eq_left hi]
theorem shift_set {S : List Tg} {x : Tg} {j : Nat} (h0 : 0 < j) (hj : j ≤ S.length) : (S.take j ++ x :: S.drop j).set j (S.getD (j - 1) t00) = S.take (j - 1) ++ S.getD (j - 1) t00 :: S.drop (j - 1) := by
  have e2 : S.drop (j - 1) = S.getD (j - 1) t00 :: S.drop j := by
    rw [List.drop_eq_getElem_cons (by omega), List.getD_eq_getElem?_getD, List.getElem?_eq_getElem (by omega), show j - 1 + 1 = j by omega]; rfl
  rw [shift_end hj, e2, tk_pred h0 hj]
  simp
set_option maxHeartbeats 2000000 in
theorem rsort_ok {w : World} {A : Option Addr} {n c : Nat} {l : List Tg} (hR : RdT w A n l) (hn : n ≤ 100000000000) {R : VWK}
    (h : ∀ w' v, GRow w' v (srtT l) → Grow w w' → (∀ q, fpV v q → w.heap.size ≤ q) → R v w') : CallsV Tryz.prog 51 [.slice A n c] w R := by
  have hl := hR.tlen
  refine calls_of_wpC mixed Tryz.func51 rfl (by kernel_rfl) ?_
  intro e he
  have he0 := he 0
  simp only [List.getD_cons_zero, List.getD_cons_succ] at he0
  clear he
  repeat (first | rw [c_seq] | simp -dsimp only [↓RE,RU,RL,forall_const,implies_true,Nat.reduceLeDiff,Nat.reduceLT,pureOp,binPure,intBin,strBin,eqPure,isConstO,lenPure,buildP,resK,endV,yieldE,↓reduceIte,Nat.reduceEqDiff,reduceCtorEq,Nat.reduceAdd,Nat.reduceMul,Int.reduceLT,Int.reduceLE,Int.reduceToNat,Int.reduceAdd,Int.reduceSub,decide_true,decide_false,tf51, he0])
  refine wpLoop_intro (fun e' w' => Grow w w' ∧ e' 0 = .slice A n c ∧ ∃ (k : Nat) (v : Value), k ≤ n ∧ e' 4 = .int .i64 (k : Int) ∧ e' 3 = v ∧ GRow w' v (srtT (l.take k)) ∧ (∀ q, fpV v q → w.heap.size ≤ q))
    (fun e' _ => n - (envInt (e' 4)).toNat) ⟨Keep.refl _ _, ?_, 0, .slice none 0 0, Nat.zero_le _, ?_, ?_, LRow.nil _ _ _, fun q hq => (fpV_none _ hq).elim⟩ ?_
  · simp -dsimp only [↓RE,RU,RL,↓reduceIte,Nat.reduceEqDiff,reduceCtorEq,decide_true,decide_false, he0]
  · simp -dsimp only [↓RE,RU,RL,↓reduceIte,Nat.reduceEqDiff,reduceCtorEq,decide_true,decide_false, Int.cast_ofNat_Int]
  · simp -dsimp only [↓RE,RU,RL,↓reduceIte,Nat.reduceEqDiff,reduceCtorEq,decide_true,decide_false, he0]
  clear he0 e
  rintro e w1 ⟨g1, he0, k, v, hk, he4, he3, hv, hF⟩
  rcases Nat.lt_or_ge k n with hlt | hge
  · have hd : decide ((k : Int) < (n : Int)) = true := decide_eq_true (by omega)
    have hw1 : IntKind.i64.wrap ((k : Int) + 1) = ((k + 1 : Nat) : Int) := by rw [wrap_i64_in (by omega) (by omega)]; omega
    have hRg := hR.grow g1
    obtain ⟨ad, rfl⟩ : ∃ ad, A = some ad := by
      obtain ⟨ad, e, _⟩ := hRg.2 (by omega)
      exact ⟨ad, e⟩
    have hta : ∀ w', Grow w1 w' → w'.cell? (ad.add (k * 2)) = some (.string (l.getD k t00).1) := fun w' g => ((hRg.grow g).tag' hlt).1
    have htb : ∀ w', Grow w1 w' → w'.cell? ((ad.add (k * 2)).add 1) = some (.string (l.getD k t00).2) := fun w' g => ((hRg.grow g).tag' hlt).2.1
    have htl : RdT w (some ad) n l := hR
    have hsn := srtT_snoc (l.take k) (l.getD k t00)
    rw [← tk_snoc (by omega)] at hsn
    have hsl := srtT_len (l.take k)
    rw [List.length_take] at hsl
    have htc : ∀ w', Grow w w' → ∀ {K : VK} {tk : Tok K}, K (.agg #[.string (l.getD k t00).1, .string (l.getD k t00).2]) → aggK w' (ad.add (k * 2)) (some 2) K tk := fun w' g => ((hR.grow g).tag' hlt).2.2
    generalize l.getD k t00 = t at hta htb hsn htc
    generalize srtT (l.take k) = S at hv hsn hsl
    obtain ⟨Av, cv, rfl, hmc, hAv⟩ := hv.form
    have hmu : (envInt (e 4)).toNat = k := by rw [he4]; exact Int.toNat_natCast k
    rw [c_seq, c_seq]
    simp -dsimp only [↓RE,RU,RL,forall_const,implies_true,Nat.reduceLeDiff,Nat.reduceLT,pureOp,binPure,intBin,strBin,eqPure,isConstO,lenPure,buildP,resK,endV,yieldE,↓reduceIte,Nat.reduceEqDiff,reduceCtorEq,Nat.reduceAdd,Nat.reduceMul,Int.reduceLT,Int.reduceLE,Int.reduceToNat,Int.reduceAdd,Int.reduceSub,decide_true,decide_false,tf51, he0, he4, hd]
    rw [c_seq]
    refine c_cut (fun e' w' => Grow w w' ∧ e' 0 = .slice (some ad) n c ∧ e' 4 = .int .i64 (k : Int) ∧ ∃ v', e' 3 = v' ∧ GRow w' v' (gPut kT S t) ∧ (∀ q, fpV v' q → w.heap.size ≤ q)) ?_ ?_
    · simp -dsimp only [↓RE,RU,RL,forall_const,implies_true,Nat.reduceLeDiff,Nat.reduceLT,pureOp,binPure,intBin,strBin,eqPure,isConstO,lenPure,buildP,resK,endV,yieldE,↓reduceIte,Nat.reduceEqDiff,reduceCtorEq,Nat.reduceAdd,Nat.reduceMul,Int.reduceLT,Int.reduceLE,Int.reduceToNat,Int.reduceAdd,Int.reduceSub,decide_true,decide_false,tf51, he0]
      rw [c_seq]
      simp -dsimp only [↓RE,RU,RL,forall_const,implies_true,Nat.reduceLeDiff,Nat.reduceLT,pureOp,binPure,intBin,strBin,eqPure,isConstO,lenPure,buildP,resK,endV,yieldE,↓reduceIte,Nat.reduceEqDiff,reduceCtorEq,Nat.reduceAdd,Nat.reduceMul,Int.reduceLT,Int.reduceLE,Int.reduceToNat,Int.reduceAdd,Int.reduceSub,decide_true,decide_false,tf51, he0]
      refine c_seq_cut (fun e' w' => Grow w1 w' ∧ e' 0 = .slice (some ad) n c ∧ e' 3 = .slice Av S.length cv ∧ e' 4 = .int .i64 (k : Int) ∧ ∃ (i : Nat), e' 5 = .int .i64 (i : Int) ∧ At S t i) ?_ ?_
      · simp -dsimp only [↓RE,RU,RL,forall_const,implies_true,Nat.reduceLeDiff,Nat.reduceLT,pureOp,binPure,intBin,strBin,eqPure,isConstO,lenPure,buildP,resK,endV,yieldE,↓reduceIte,Nat.reduceEqDiff,reduceCtorEq,Nat.reduceAdd,Nat.reduceMul,Int.reduceLT,Int.reduceLE,Int.reduceToNat,Int.reduceAdd,Int.reduceSub,decide_true,decide_false,tf51, he0]
        refine wpLoop_intro (fun e' w' => Grow w1 w' ∧ e' 0 = .slice (some ad) n c ∧ e' 3 = .slice Av S.length cv ∧ e' 4 = .int .i64 (k : Int) ∧ ∃ (i : Nat), i ≤ S.length ∧ e' 5 = .int .i64 (i : Int) ∧ ∀ q, q < i → kT (S.getD q t00) t < 0)
          (fun e' _ => S.length - (envInt (e' 5)).toNat) ⟨Keep.refl _ _, ?_, ?_, ?_, 0, Nat.zero_le _, ?_, fun q hq => absurd hq (by omega)⟩ ?_
        · simp -dsimp only [↓RE,RU,RL,↓reduceIte,Nat.reduceEqDiff,reduceCtorEq,decide_true,decide_false, he0]
        · simp -dsimp only [↓RE,RU,RL,↓reduceIte,Nat.reduceEqDiff,reduceCtorEq,decide_true,decide_false, he3]
        · simp -dsimp only [↓RE,RU,RL,↓reduceIte,Nat.reduceEqDiff,reduceCtorEq,decide_true,decide_false, he4]
        · simp -dsimp only [↓RE,RU,RL,↓reduceIte,Nat.reduceEqDiff,reduceCtorEq,decide_true,decide_false, Int.cast_ofNat_Int]
        clear he0 he3 he4
        rintro e2 w2 ⟨g2, he0, he3, he4, i, hi, he5, hlo⟩
        have hcal : Grow w1 w2.drew := g2.trans (Grow.drew w2)
        have hta2 := hta _ hcal
        have hv2 := hv.grow hcal
        rcases Nat.lt_or_ge i S.length with hil | hil
        · have hdi : decide ((i : Int) < (S.length : Int)) = true := decide_eq_true (by omega)
          have hw2 : IntKind.i64.wrap ((i : Int) + 1) = ((i + 1 : Nat) : Int) := by rw [wrap_i64_in (by omega) (by omega)]; omega
          obtain ⟨av, rfl⟩ : ∃ av, Av = some av := by
            obtain ⟨av, e, _⟩ := hv2.rd.2 (by omega)
            exact ⟨av, e⟩
          obtain ⟨hsa, _, _⟩ := hv2.rd.tag' hil
          by_cases hc : kT (S.getD i t00) t < 0
          · have hbl := cmpS_ltT hc
            repeat (first | rw [c_seq] | simp -dsimp only [↓RE,RU,RL,forall_const,implies_true,Nat.reduceLeDiff,Nat.reduceLT,pureOp,binPure,intBin,strBin,eqPure,isConstO,lenPure,buildP,resK,endV,yieldE,↓reduceIte,Nat.reduceEqDiff,reduceCtorEq,Nat.reduceAdd,Nat.reduceMul,Int.reduceLT,Int.reduceLE,Int.reduceToNat,Int.reduceAdd,Int.reduceSub,decide_true,decide_false,tf51, he5])
            refine wpDraw_still (by kernel_rfl) ?_
            repeat (first | rw [c_seq] | simp -dsimp only [↓RE,RU,RL,forall_const,implies_true,Nat.reduceLeDiff,Nat.reduceLT,pureOp,binPure,intBin,strBin,eqPure,isConstO,lenPure,buildP,resK,endV,yieldE,↓reduceIte,Nat.reduceEqDiff,reduceCtorEq,Nat.reduceAdd,Nat.reduceMul,Int.reduceLT,Int.reduceLE,Int.reduceToNat,Int.reduceAdd,Int.reduceSub,decide_true,decide_false,tf51, he0, he3, he4, he5, hdi, hsa, hta2, hbl, add_zero', Int.toNat_natCast])
            refine ⟨⟨by omega, by omega⟩, ?_⟩
            repeat (first | rw [c_seq] | simp -dsimp only [↓RE,RU,RL,forall_const,implies_true,Nat.reduceLeDiff,Nat.reduceLT,pureOp,binPure,intBin,strBin,eqPure,isConstO,lenPure,buildP,resK,endV,yieldE,↓reduceIte,Nat.reduceEqDiff,reduceCtorEq,Nat.reduceAdd,Nat.reduceMul,Int.reduceLT,Int.reduceLE,Int.reduceToNat,Int.reduceAdd,Int.reduceSub,decide_true,decide_false,tf51, he0, he3, he4, he5, hdi, hsa, hta2, hbl, add_zero', Int.toNat_natCast])
            refine ⟨⟨by omega, by omega⟩, ?_⟩
            repeat (first | rw [c_seq] | simp -dsimp only [↓RE,RU,RL,forall_const,implies_true,Nat.reduceLeDiff,Nat.reduceLT,pureOp,binPure,intBin,strBin,eqPure,isConstO,lenPure,buildP,resK,endV,yieldE,↓reduceIte,Nat.reduceEqDiff,reduceCtorEq,Nat.reduceAdd,Nat.reduceMul,Int.reduceLT,Int.reduceLE,Int.reduceToNat,Int.reduceAdd,Int.reduceSub,decide_true,decide_false,tf51, he0, he3, he4, he5, hdi, hsa, hta2, hbl, add_zero', Int.toNat_natCast, hw2])
            refine hold_intro ⟨⟨hcal, ?_, ?_, ?_, i + 1, hil, ?_, fun q hq => ?_⟩, ?_⟩
            · simp -dsimp only [↓RE,RU,RL,↓reduceIte,Nat.reduceEqDiff,reduceCtorEq,decide_true,decide_false, he0]
            · simp -dsimp only [↓RE,RU,RL,↓reduceIte,Nat.reduceEqDiff,reduceCtorEq,decide_true,decide_false, he3]
            · simp -dsimp only [↓RE,RU,RL,↓reduceIte,Nat.reduceEqDiff,reduceCtorEq,decide_true,decide_false, he4]
            · simp -dsimp only [↓RE,RU,RL,↓reduceIte,Nat.reduceEqDiff,reduceCtorEq,decide_true,decide_false, hw2]
            · rcases Nat.lt_or_eq_of_le (Nat.lt_succ_iff.1 hq) with hq | rfl
              · exact hlo q hq
              · exact hc
            · rw [he5]
              simp -dsimp only [↓RE,↓c_seq,RU,RL,forall_const,implies_true,Nat.reduceLeDiff,Nat.reduceLT,pureOp,binPure,intBin,strBin,eqPure,isConstO,lenPure,buildP,resK,endV,yieldE,↓reduceIte,Nat.reduceEqDiff,reduceCtorEq,Nat.reduceAdd,Nat.reduceMul,Int.reduceLT,Int.reduceLE,Int.reduceToNat,Int.reduceAdd,Int.reduceSub,decide_true,decide_false,tf51, hw2]
              simp only [envInt_int]; omega
          · have hbl := cmpS_geF hc
            have hAt : At S t i := ⟨hi, hlo, fun _ => hc⟩
            repeat (first | rw [c_seq] | simp -dsimp only [↓RE,RU,RL,forall_const,implies_true,Nat.reduceLeDiff,Nat.reduceLT,pureOp,binPure,intBin,strBin,eqPure,isConstO,lenPure,buildP,resK,endV,yieldE,↓reduceIte,Nat.reduceEqDiff,reduceCtorEq,Nat.reduceAdd,Nat.reduceMul,Int.reduceLT,Int.reduceLE,Int.reduceToNat,Int.reduceAdd,Int.reduceSub,decide_true,decide_false,tf51, he5])
            refine wpDraw_still (by kernel_rfl) ?_
            repeat (first | rw [c_seq] | simp -dsimp only [↓RE,RU,RL,forall_const,implies_true,Nat.reduceLeDiff,Nat.reduceLT,pureOp,binPure,intBin,strBin,eqPure,isConstO,lenPure,buildP,resK,endV,yieldE,↓reduceIte,Nat.reduceEqDiff,reduceCtorEq,Nat.reduceAdd,Nat.reduceMul,Int.reduceLT,Int.reduceLE,Int.reduceToNat,Int.reduceAdd,Int.reduceSub,decide_true,decide_false,tf51, he0, he3, he4, he5, hdi, hsa, hta2, hbl, add_zero', Int.toNat_natCast])
            refine ⟨⟨by omega, by omega⟩, ?_⟩
            repeat (first | rw [c_seq] | simp -dsimp only [↓RE,RU,RL,forall_const,implies_true,Nat.reduceLeDiff,Nat.reduceLT,pureOp,binPure,intBin,strBin,eqPure,isConstO,lenPure,buildP,resK,endV,yieldE,↓reduceIte,Nat.reduceEqDiff,reduceCtorEq,Nat.reduceAdd,Nat.reduceMul,Int.reduceLT,Int.reduceLE,Int.reduceToNat,Int.reduceAdd,Int.reduceSub,decide_true,decide_false,tf51, he0, he3, he4, he5, hdi, hsa, hta2, hbl, add_zero', Int.toNat_natCast])
            refine ⟨⟨by omega, by omega⟩, ?_⟩
            repeat (first | rw [c_seq] | simp -dsimp only [↓RE,RU,RL,forall_const,implies_true,Nat.reduceLeDiff,Nat.reduceLT,pureOp,binPure,intBin,strBin,eqPure,isConstO,lenPure,buildP,resK,endV,yieldE,↓reduceIte,Nat.reduceEqDiff,reduceCtorEq,Nat.reduceAdd,Nat.reduceMul,Int.reduceLT,Int.reduceLE,Int.reduceToNat,Int.reduceAdd,Int.reduceSub,decide_true,decide_false,tf51, he0, he3, he4, he5, hdi, hsa, hta2, hbl, add_zero', Int.toNat_natCast, hw2])
            refine hold_intro ⟨hcal, ?_, ?_, ?_, i, ?_, hAt⟩
            · simp -dsimp only [↓RE,RU,RL,↓reduceIte,Nat.reduceEqDiff,reduceCtorEq,decide_true,decide_false, he0]
            · simp -dsimp only [↓RE,RU,RL,↓reduceIte,Nat.reduceEqDiff,reduceCtorEq,decide_true,decide_false, he3]
            · simp -dsimp only [↓RE,RU,RL,↓reduceIte,Nat.reduceEqDiff,reduceCtorEq,decide_true,decide_false, he4]
            · simp -dsimp only [↓RE,RU,RL,↓reduceIte,Nat.reduceEqDiff,reduceCtorEq,decide_true,decide_false, he5]
        · have hdi : decide ((i : Int) < (S.length : Int)) = false := decide_eq_false (by omega)
          have hAt : At S t i := ⟨hi, hlo, fun q => by omega⟩
          repeat (first | rw [c_seq] | simp -dsimp only [↓RE,RU,RL,forall_const,implies_true,Nat.reduceLeDiff,Nat.reduceLT,pureOp,binPure,intBin,strBin,eqPure,isConstO,lenPure,buildP,resK,endV,yieldE,↓reduceIte,Nat.reduceEqDiff,reduceCtorEq,Nat.reduceAdd,Nat.reduceMul,Int.reduceLT,Int.reduceLE,Int.reduceToNat,Int.reduceAdd,Int.reduceSub,decide_true,decide_false,tf51, he5])
          refine wpDraw_still (by kernel_rfl) ?_
          repeat (first | rw [c_seq] | simp -dsimp only [↓RE,RU,RL,forall_const,implies_true,Nat.reduceLeDiff,Nat.reduceLT,pureOp,binPure,intBin,strBin,eqPure,isConstO,lenPure,buildP,resK,endV,yieldE,↓reduceIte,Nat.reduceEqDiff,reduceCtorEq,Nat.reduceAdd,Nat.reduceMul,Int.reduceLT,Int.reduceLE,Int.reduceToNat,Int.reduceAdd,Int.reduceSub,decide_true,decide_false,tf51, he0, he3, he4, he5, hdi, undef])
          refine hold_intro ⟨hcal, ?_, ?_, ?_, i, ?_, hAt⟩
          · simp -dsimp only [↓RE,RU,RL,↓reduceIte,Nat.reduceEqDiff,reduceCtorEq,decide_true,decide_false, he0]
          · simp -dsimp only [↓RE,RU,RL,↓reduceIte,Nat.reduceEqDiff,reduceCtorEq,decide_true,decide_false, he3]
          · simp -dsimp only [↓RE,RU,RL,↓reduceIte,Nat.reduceEqDiff,reduceCtorEq,decide_true,decide_false, he4]
          · simp -dsimp only [↓RE,RU,RL,↓reduceIte,Nat.reduceEqDiff,reduceCtorEq,decide_true,decide_false, he5]
      clear he0 he3 he4
      rintro e2 w2 ⟨g2, he0, he3, he4, i, he5, hAt⟩
      have hput := put_at hAt
      have hile := hAt.le
      have hcal : Grow w1 w2.drew := g2.trans (Grow.drew w2)
      have hta2 := hta _ hcal
      have htb2 := htb _ hcal
      have hv2 := hv.grow hcal
      have gw2 := g1.trans hcal
      refine c_seq_cut (fun e' w' => w' = w2.drew ∧ isT S t i = false ∧ e' 0 = .slice (some ad) n c ∧ e' 3 = .slice Av S.length cv ∧ e' 4 = .int .i64 (k : Int) ∧ e' 5 = .int .i64 (i : Int)) ?_ ?_
      · rcases Nat.lt_or_ge i S.length with hil | hil
        · have hdi : decide ((i : Int) < (S.length : Int)) = true := decide_eq_true (by omega)
          obtain ⟨av, rfl⟩ : ∃ av, Av = some av := by
            obtain ⟨av, e, _⟩ := hv2.rd.2 (by omega)
            exact ⟨av, e⟩
          obtain ⟨hsa, _, _⟩ := hv2.rd.tag' hil
          by_cases hc : kT (S.getD i t00) t = 0
          · have hbe : ((S.getD i t00).1.toList == t.1.toList) = true := by rw [beqS]; exact decide_eq_true hc
            rw [if_pos ⟨hil, hc⟩] at hput
            have hF' := hF av.block ((fpV_some _ _ _ _).2 rfl)
            repeat (first | rw [c_seq] | simp -dsimp only [↓RE,RU,RL,forall_const,implies_true,Nat.reduceLeDiff,Nat.reduceLT,pureOp,binPure,intBin,strBin,eqPure,isConstO,lenPure,buildP,resK,endV,yieldE,↓reduceIte,Nat.reduceEqDiff,reduceCtorEq,Nat.reduceAdd,Nat.reduceMul,Int.reduceLT,Int.reduceLE,Int.reduceToNat,Int.reduceAdd,Int.reduceSub,decide_true,decide_false,tf51, he5])
            refine wpDraw_still (by kernel_rfl) ?_
            repeat (first | rw [c_seq] | simp -dsimp only [↓RE,RU,RL,forall_const,implies_true,Nat.reduceLeDiff,Nat.reduceLT,pureOp,binPure,intBin,strBin,eqPure,isConstO,lenPure,buildP,resK,endV,yieldE,↓reduceIte,Nat.reduceEqDiff,reduceCtorEq,Nat.reduceAdd,Nat.reduceMul,Int.reduceLT,Int.reduceLE,Int.reduceToNat,Int.reduceAdd,Int.reduceSub,decide_true,decide_false,tf51, he0, he3, he4, he5, hdi, hsa, hta2, hbe, add_zero', Int.toNat_natCast])
            refine ⟨⟨by omega, by omega⟩, ?_⟩
            repeat (first | rw [c_seq] | simp -dsimp only [↓RE,RU,RL,forall_const,implies_true,Nat.reduceLeDiff,Nat.reduceLT,pureOp,binPure,intBin,strBin,eqPure,isConstO,lenPure,buildP,resK,endV,yieldE,↓reduceIte,Nat.reduceEqDiff,reduceCtorEq,Nat.reduceAdd,Nat.reduceMul,Int.reduceLT,Int.reduceLE,Int.reduceToNat,Int.reduceAdd,Int.reduceSub,decide_true,decide_false,tf51, he0, he3, he4, he5, hdi, hsa, hta2, hbe, add_zero', Int.toNat_natCast])
            refine ⟨⟨by omega, by omega⟩, ?_⟩
            repeat (first | rw [c_seq] | simp -dsimp only [↓RE,RU,RL,forall_const,implies_true,Nat.reduceLeDiff,Nat.reduceLT,pureOp,binPure,intBin,strBin,eqPure,isConstO,lenPure,buildP,resK,endV,yieldE,↓reduceIte,Nat.reduceEqDiff,reduceCtorEq,Nat.reduceAdd,Nat.reduceMul,Int.reduceLT,Int.reduceLE,Int.reduceToNat,Int.reduceAdd,Int.reduceSub,decide_true,decide_false,tf51, he0, he3, he4, he5, hdi, hsa, hta2, hbe, add_zero', Int.toNat_natCast])
            refine ⟨⟨by omega, by omega⟩, ?_⟩
            repeat (first | rw [c_seq] | simp -dsimp only [↓RE,RU,RL,forall_const,implies_true,Nat.reduceLeDiff,Nat.reduceLT,pureOp,binPure,intBin,strBin,eqPure,isConstO,lenPure,buildP,resK,endV,yieldE,↓reduceIte,Nat.reduceEqDiff,reduceCtorEq,Nat.reduceAdd,Nat.reduceMul,Int.reduceLT,Int.reduceLE,Int.reduceToNat,Int.reduceAdd,Int.reduceSub,decide_true,decide_false,tf51, he0, he3, he4, he5, htb2, add_zero', Int.toNat_natCast])
            refine ⟨⟨by omega, by omega⟩, LRow.stCell (f := tcells) (size := 2) (fun _ => rfl) hv2 rfl hil (getT_some hil) (x' := t) (o := 1) (by omega) ?_ (fun w4 hv4 k4 => ?_)⟩
            · have hk1 := (cmpS_eq _ _).1 hc
              rw [tcells, tcells, ← hk1]
              rfl
            have hg4 : Grow w w4 := gw2.above k4 (fun q hq e => by omega)
            try simp -dsimp only [↓RE,↓c_seq,RU,RL,forall_const,implies_true,Nat.reduceLeDiff,Nat.reduceLT,pureOp,binPure,intBin,strBin,eqPure,isConstO,lenPure,buildP,resK,endV,yieldE,↓reduceIte,Nat.reduceEqDiff,reduceCtorEq,Nat.reduceAdd,Nat.reduceMul,Int.reduceLT,Int.reduceLE,Int.reduceToNat,Int.reduceAdd,Int.reduceSub,decide_true,decide_false,tf51, he0]
            refine hold_intro ⟨hg4, ?_, ?_, .slice (some av) S.length cv, ?_, ?_, hF⟩
            · simp -dsimp only [↓RE,RU,RL,↓reduceIte,Nat.reduceEqDiff,reduceCtorEq,decide_true,decide_false, he0]
            · simp -dsimp only [↓RE,RU,RL,↓reduceIte,Nat.reduceEqDiff,reduceCtorEq,decide_true,decide_false, he4]
            · simp -dsimp only [↓RE,RU,RL,↓reduceIte,Nat.reduceEqDiff,reduceCtorEq,decide_true,decide_false, he3]
            · rw [hput]
              show LRow _ _ _ _ (S.set i t).length _
              rw [List.length_set]
              exact hv4
          · have hbe : ((S.getD i t00).1.toList == t.1.toList) = false := by rw [beqS]; exact decide_eq_false hc
            repeat (first | rw [c_seq] | simp -dsimp only [↓RE,RU,RL,forall_const,implies_true,Nat.reduceLeDiff,Nat.reduceLT,pureOp,binPure,intBin,strBin,eqPure,isConstO,lenPure,buildP,resK,endV,yieldE,↓reduceIte,Nat.reduceEqDiff,reduceCtorEq,Nat.reduceAdd,Nat.reduceMul,Int.reduceLT,Int.reduceLE,Int.reduceToNat,Int.reduceAdd,Int.reduceSub,decide_true,decide_false,tf51, he5])
            refine wpDraw_still (by kernel_rfl) ?_
            repeat (first | rw [c_seq] | simp -dsimp only [↓RE,RU,RL,forall_const,implies_true,Nat.reduceLeDiff,Nat.reduceLT,pureOp,binPure,intBin,strBin,eqPure,isConstO,lenPure,buildP,resK,endV,yieldE,↓reduceIte,Nat.reduceEqDiff,reduceCtorEq,Nat.reduceAdd,Nat.reduceMul,Int.reduceLT,Int.reduceLE,Int.reduceToNat,Int.reduceAdd,Int.reduceSub,decide_true,decide_false,tf51, he0, he3, he4, he5, hdi, hsa, hta2, hbe, add_zero', Int.toNat_natCast])
            refine ⟨⟨by omega, by omega⟩, ?_⟩
            repeat (first | rw [c_seq] | simp -dsimp only [↓RE,RU,RL,forall_const,implies_true,Nat.reduceLeDiff,Nat.reduceLT,pureOp,binPure,intBin,strBin,eqPure,isConstO,lenPure,buildP,resK,endV,yieldE,↓reduceIte,Nat.reduceEqDiff,reduceCtorEq,Nat.reduceAdd,Nat.reduceMul,Int.reduceLT,Int.reduceLE,Int.reduceToNat,Int.reduceAdd,Int.reduceSub,decide_true,decide_false,tf51, he0, he3, he4, he5, hdi, hsa, hta2, hbe, add_zero', Int.toNat_natCast])
            refine ⟨⟨by omega, by omega⟩, ?_⟩
            repeat (first | rw [c_seq] | simp -dsimp only [↓RE,RU,RL,forall_const,implies_true,Nat.reduceLeDiff,Nat.reduceLT,pureOp,binPure,intBin,strBin,eqPure,isConstO,lenPure,buildP,resK,endV,yieldE,↓reduceIte,Nat.reduceEqDiff,reduceCtorEq,Nat.reduceAdd,Nat.reduceMul,Int.reduceLT,Int.reduceLE,Int.reduceToNat,Int.reduceAdd,Int.reduceSub,decide_true,decide_false,tf51, he0, he3, he4, he5, hdi, hsa, hta2, hbe, add_zero', Int.toNat_natCast])
            refine hold_intro ⟨rfl, decide_eq_false (fun q => hc q.2), ?_, ?_, ?_, ?_⟩
            · simp -dsimp only [↓RE,RU,RL,↓reduceIte,Nat.reduceEqDiff,reduceCtorEq,decide_true,decide_false, he0]
            · simp -dsimp only [↓RE,RU,RL,↓reduceIte,Nat.reduceEqDiff,reduceCtorEq,decide_true,decide_false, he3]
            · simp -dsimp only [↓RE,RU,RL,↓reduceIte,Nat.reduceEqDiff,reduceCtorEq,decide_true,decide_false, he4]
            · simp -dsimp only [↓RE,RU,RL,↓reduceIte,Nat.reduceEqDiff,reduceCtorEq,decide_true,decide_false, he5]
        · have hdi : decide ((i : Int) < (S.length : Int)) = false := decide_eq_false (by omega)
          repeat (first | rw [c_seq] | simp -dsimp only [↓RE,RU,RL,forall_const,implies_true,Nat.reduceLeDiff,Nat.reduceLT,pureOp,binPure,intBin,strBin,eqPure,isConstO,lenPure,buildP,resK,endV,yieldE,↓reduceIte,Nat.reduceEqDiff,reduceCtorEq,Nat.reduceAdd,Nat.reduceMul,Int.reduceLT,Int.reduceLE,Int.reduceToNat,Int.reduceAdd,Int.reduceSub,decide_true,decide_false,tf51, he5])
          refine wpDraw_still (by kernel_rfl) ?_
          repeat (first | rw [c_seq] | simp -dsimp only [↓RE,RU,RL,forall_const,implies_true,Nat.reduceLeDiff,Nat.reduceLT,pureOp,binPure,intBin,strBin,eqPure,isConstO,lenPure,buildP,resK,endV,yieldE,↓reduceIte,Nat.reduceEqDiff,reduceCtorEq,Nat.reduceAdd,Nat.reduceMul,Int.reduceLT,Int.reduceLE,Int.reduceToNat,Int.reduceAdd,Int.reduceSub,decide_true,decide_false,tf51, he0, he3, he4, he5, hdi, undef])
          refine hold_intro ⟨rfl, decide_eq_false (fun q => by omega), ?_, ?_, ?_, ?_⟩
          · simp -dsimp only [↓RE,RU,RL,↓reduceIte,Nat.reduceEqDiff,reduceCtorEq,decide_true,decide_false, he0]
          · simp -dsimp only [↓RE,RU,RL,↓reduceIte,Nat.reduceEqDiff,reduceCtorEq,decide_true,decide_false, he3]
          · simp -dsimp only [↓RE,RU,RL,↓reduceIte,Nat.reduceEqDiff,reduceCtorEq,decide_true,decide_false, he4]
          · simp -dsimp only [↓RE,RU,RL,↓reduceIte,Nat.reduceEqDiff,reduceCtorEq,decide_true,decide_false, he5]
      clear he0 he3 he4 he5
      rintro e3 w3 ⟨rfl, his, he0, he3, he4, he5⟩
      rw [if_neg (of_decide_eq_false his)] at hput
      generalize w2.drew = w3 at hcal hta2 htb2 hv2 gw2
      have ga := Grow.alloc w3 (.cells #[.string .empty, .string .empty] 115)
      rw [c_seq]
      simp -dsimp only [↓RE,RU,RL,forall_const,implies_true,Nat.reduceLeDiff,Nat.reduceLT,pureOp,binPure,intBin,strBin,eqPure,isConstO,lenPure,buildP,resK,endV,yieldE,↓reduceIte,Nat.reduceEqDiff,reduceCtorEq,Nat.reduceAdd,Nat.reduceMul,Int.reduceLT,Int.reduceLE,Int.reduceToNat,Int.reduceAdd,Int.reduceSub,decide_true,decide_false,tf51, he3]
      refine app_t (hv2.grow ga) (one_trow w3 (.empty, .empty)) (by omega) (fun A' c' w4 hL4 k4 f4 => ?_)
      have hg4 : Grow w w4 := (gw2.trans ga).above k4 (fun q hq e => by have := hF q e; omega)
      have hF4 : ∀ q, fpV (.slice A' (S.length + 1) c') q → w.heap.size ≤ q := fun q hq => by
        rcases f4 q hq with e | e
        · exact hF q e
        · have := gw2.size; have := ga.size; omega
      have hml : (S ++ [((.empty, .empty) : Tg)]).length = S.length + 1 := by simp
      rw [hml] at hL4
      simp -dsimp only [↓RE,RU,RL,forall_const,implies_true,Nat.reduceLeDiff,Nat.reduceLT,pureOp,binPure,intBin,strBin,eqPure,isConstO,lenPure,buildP,resK,endV,yieldE,↓reduceIte,Nat.reduceEqDiff,reduceCtorEq,Nat.reduceAdd,Nat.reduceMul,Int.reduceLT,Int.reduceLE,Int.reduceToNat,Int.reduceAdd,Int.reduceSub,decide_true,decide_false,tf51, he3]
      refine c_seq_cut (fun e' w' => Grow w w' ∧ e' 0 = .slice (some ad) n c ∧ e' 3 = .slice A' (S.length + 1) c' ∧ e' 4 = .int .i64 (k : Int) ∧ e' 5 = .int .i64 (i : Int) ∧ ∃ x, LRow w' 115 2 (.slice A' (S.length + 1) c') (S.length + 1) ((S.take i ++ x :: S.drop i).flatMap tcells)) ?_ ?_
      · have hw3 : IntKind.i64.wrap (((S.length + 1 : Nat) : Int) - 1) = (S.length : Int) := by rw [wrap_i64_in (by omega) (by omega)]; omega
        rw [c_seq]
        simp -dsimp only [↓RE,RU,RL,forall_const,implies_true,Nat.reduceLeDiff,Nat.reduceLT,pureOp,binPure,intBin,strBin,eqPure,isConstO,lenPure,buildP,resK,endV,yieldE,↓reduceIte,Nat.reduceEqDiff,reduceCtorEq,Nat.reduceAdd,Nat.reduceMul,Int.reduceLT,Int.reduceLE,Int.reduceToNat,Int.reduceAdd,Int.reduceSub,decide_true,decide_false,tf51, he3]
        refine wpLoop_intro (fun e' w' => Grow w w' ∧ e' 0 = .slice (some ad) n c ∧ e' 3 = .slice A' (S.length + 1) c' ∧ e' 4 = .int .i64 (k : Int) ∧ e' 5 = .int .i64 (i : Int) ∧ ∃ (j : Nat) (x : Tg), i ≤ j ∧ j ≤ S.length ∧ e' 6 = .int .i64 (j : Int) ∧ LRow w' 115 2 (.slice A' (S.length + 1) c') (S.length + 1) ((S.take j ++ x :: S.drop j).flatMap tcells))
          (fun e' _ => (envInt (e' 6)).toNat) ⟨hg4, ?_, ?_, ?_, ?_, S.length, (.empty, .empty), hile, Nat.le_refl _, ?_, ?_⟩ ?_
        · simp -dsimp only [↓RE,RU,RL,↓reduceIte,Nat.reduceEqDiff,reduceCtorEq,decide_true,decide_false, he0]
        · simp -dsimp only [↓RE,RU,RL,↓reduceIte,Nat.reduceEqDiff,reduceCtorEq,decide_true,decide_false, he3]
        · simp -dsimp only [↓RE,RU,RL,↓reduceIte,Nat.reduceEqDiff,reduceCtorEq,decide_true,decide_false, he4]
        · simp -dsimp only [↓RE,RU,RL,↓reduceIte,Nat.reduceEqDiff,reduceCtorEq,decide_true,decide_false, he5]
        · simp -dsimp only [↓RE,RU,RL,↓reduceIte,Nat.reduceEqDiff,reduceCtorEq,decide_true,decide_false, hw3]
        · rw [List.take_length, List.drop_length]; exact hL4
        clear he0 he3 he4 he5 hL4 hg4
        rintro e4 w5 ⟨g5, he0, he3, he4, he5, j, x, hij, hjm, he6, hr5⟩
        have hjl : (S.take j ++ x :: S.drop j).length = S.length + 1 := by simp; omega
        rcases Nat.lt_or_ge i j with hlt2 | hge2
        · have hdj : decide ((i : Int) < (j : Int)) = true := decide_eq_true (by omega)
          have hw4 : IntKind.i64.wrap ((j : Int) - 1) = ((j - 1 : Nat) : Int) := by rw [wrap_i64_in (by omega) (by omega)]; omega
          obtain ⟨ap, rfl⟩ : ∃ ap, A' = some ap := by
            obtain ⟨ap, e, _⟩ := hr5.rd.2 (by omega)
            exact ⟨ap, e⟩
          have hp := hF4 ap.block ((fpV_some _ _ _ _).2 rfl)
          repeat (first | rw [c_seq] | simp -dsimp only [↓RE,RU,RL,forall_const,implies_true,Nat.reduceLeDiff,Nat.reduceLT,pureOp,binPure,intBin,strBin,eqPure,isConstO,lenPure,buildP,resK,endV,yieldE,↓reduceIte,Nat.reduceEqDiff,reduceCtorEq,Nat.reduceAdd,Nat.reduceMul,Int.reduceLT,Int.reduceLE,Int.reduceToNat,Int.reduceAdd,Int.reduceSub,decide_true,decide_false,tf51, he3, he5, he6, hdj, hw4, Int.toNat_natCast])
          refine ⟨⟨by omega, by omega⟩, LRow.elem (f := tcells) (size := 2) (fun _ => rfl) (by omega) hr5 (shift_get (x := x) (by omega) hjm) ?_⟩
          repeat (first | rw [c_seq] | simp -dsimp only [↓RE,RU,RL,forall_const,implies_true,Nat.reduceLeDiff,Nat.reduceLT,pureOp,binPure,intBin,strBin,eqPure,isConstO,lenPure,buildP,resK,endV,yieldE,↓reduceIte,Nat.reduceEqDiff,reduceCtorEq,Nat.reduceAdd,Nat.reduceMul,Int.reduceLT,Int.reduceLE,Int.reduceToNat,Int.reduceAdd,Int.reduceSub,decide_true,decide_false,tf51, he3, he5, he6, hdj, hw4, Int.toNat_natCast])
          refine ⟨⟨by omega, by omega⟩, rfl, LRow.stElem (f := tcells) (size := 2) (fun _ => rfl) tset_one hr5 hjl (k := j) (by omega) (S.getD (j - 1) t00) (fun w6 hr6 k6 => ?_)⟩
          rw [shift_set (by omega) hjm] at hr6
          repeat (first | rw [c_seq] | simp -dsimp only [↓RE,RU,RL,forall_const,implies_true,Nat.reduceLeDiff,Nat.reduceLT,pureOp,binPure,intBin,strBin,eqPure,isConstO,lenPure,buildP,resK,endV,yieldE,↓reduceIte,Nat.reduceEqDiff,reduceCtorEq,Nat.reduceAdd,Nat.reduceMul,Int.reduceLT,Int.reduceLE,Int.reduceToNat,Int.reduceAdd,Int.reduceSub,decide_true,decide_false,tf51, he6, hw4])
          refine hold_intro ⟨⟨g5.above k6 (fun q hq e => by omega), ?_, ?_, ?_, ?_, j - 1, _, by omega, by omega, ?_, hr6⟩, ?_⟩
          · simp -dsimp only [↓RE,RU,RL,↓reduceIte,Nat.reduceEqDiff,reduceCtorEq,decide_true,decide_false, he0]
          · simp -dsimp only [↓RE,RU,RL,↓reduceIte,Nat.reduceEqDiff,reduceCtorEq,decide_true,decide_false, he3]
          · simp -dsimp only [↓RE,RU,RL,↓reduceIte,Nat.reduceEqDiff,reduceCtorEq,decide_true,decide_false, he4]
          · simp -dsimp only [↓RE,RU,RL,↓reduceIte,Nat.reduceEqDiff,reduceCtorEq,decide_true,decide_false, he5]
          · simp -dsimp only [↓RE,RU,RL,↓reduceIte,Nat.reduceEqDiff,reduceCtorEq,decide_true,decide_false, hw4]
          · rw [he6]
            simp -dsimp only [↓RE,↓c_seq,RU,RL,forall_const,implies_true,Nat.reduceLeDiff,Nat.reduceLT,pureOp,binPure,intBin,strBin,eqPure,isConstO,lenPure,buildP,resK,endV,yieldE,↓reduceIte,Nat.reduceEqDiff,reduceCtorEq,Nat.reduceAdd,Nat.reduceMul,Int.reduceLT,Int.reduceLE,Int.reduceToNat,Int.reduceAdd,Int.reduceSub,decide_true,decide_false,tf51, hw4]
            simp only [envInt_int]; omega
        · have hdj : decide ((i : Int) < (j : Int)) = false := decide_eq_false (by omega)
          obtain rfl : i = j := by omega
          repeat (first | rw [c_seq] | simp -dsimp only [↓RE,RU,RL,forall_const,implies_true,Nat.reduceLeDiff,Nat.reduceLT,pureOp,binPure,intBin,strBin,eqPure,isConstO,lenPure,buildP,resK,endV,yieldE,↓reduceIte,Nat.reduceEqDiff,reduceCtorEq,Nat.reduceAdd,Nat.reduceMul,Int.reduceLT,Int.reduceLE,Int.reduceToNat,Int.reduceAdd,Int.reduceSub,decide_true,decide_false,tf51, he3, he5, he6, hdj])
          refine hold_intro ⟨g5, ?_, ?_, ?_, ?_, x, hr5⟩
          · simp -dsimp only [↓RE,RU,RL,↓reduceIte,Nat.reduceEqDiff,reduceCtorEq,decide_true,decide_false, he0]
          · simp -dsimp only [↓RE,RU,RL,↓reduceIte,Nat.reduceEqDiff,reduceCtorEq,decide_true,decide_false, he3]
          · simp -dsimp only [↓RE,RU,RL,↓reduceIte,Nat.reduceEqDiff,reduceCtorEq,decide_true,decide_false, he4]
          · simp -dsimp only [↓RE,RU,RL,↓reduceIte,Nat.reduceEqDiff,reduceCtorEq,decide_true,decide_false, he5]
      clear he0 he3 he4 he5 hL4 hg4
      rintro e4 w5 ⟨g5, he0, he3, he4, he5, x, hr5⟩
      have hjl : (S.take i ++ x :: S.drop i).length = S.length + 1 := by simp; omega
      obtain ⟨ap, rfl⟩ : ∃ ap, A' = some ap := by
        obtain ⟨ap, e, _⟩ := hr5.rd.2 (by omega)
        exact ⟨ap, e⟩
      have hp := hF4 ap.block ((fpV_some _ _ _ _).2 rfl)
      repeat (first | rw [c_seq] | simp -dsimp only [↓RE,RU,RL,forall_const,implies_true,Nat.reduceLeDiff,Nat.reduceLT,pureOp,binPure,intBin,strBin,eqPure,isConstO,lenPure,buildP,resK,endV,yieldE,↓reduceIte,Nat.reduceEqDiff,reduceCtorEq,Nat.reduceAdd,Nat.reduceMul,Int.reduceLT,Int.reduceLE,Int.reduceToNat,Int.reduceAdd,Int.reduceSub,decide_true,decide_false,tf51, he0, he3, he4, he5, Int.toNat_natCast])
      refine ⟨⟨by omega, by omega⟩, htc w5 g5 ?_⟩
      repeat (first | rw [c_seq] | simp -dsimp only [↓RE,RU,RL,forall_const,implies_true,Nat.reduceLeDiff,Nat.reduceLT,pureOp,binPure,intBin,strBin,eqPure,isConstO,lenPure,buildP,resK,endV,yieldE,↓reduceIte,Nat.reduceEqDiff,reduceCtorEq,Nat.reduceAdd,Nat.reduceMul,Int.reduceLT,Int.reduceLE,Int.reduceToNat,Int.reduceAdd,Int.reduceSub,decide_true,decide_false,tf51, he0, he3, he4, he5, Int.toNat_natCast])
      refine ⟨⟨by omega, by omega⟩, LRow.stElem (f := tcells) (size := 2) (fun _ => rfl) tset_one hr5 hjl (by omega) t (fun w6 hr6 k6 => ?_)⟩
      rw [shift_end hile] at hr6
      try simp -dsimp only [↓RE,↓c_seq,RU,RL,forall_const,implies_true,Nat.reduceLeDiff,Nat.reduceLT,pureOp,binPure,intBin,strBin,eqPure,isConstO,lenPure,buildP,resK,endV,yieldE,↓reduceIte,Nat.reduceEqDiff,reduceCtorEq,Nat.reduceAdd,Nat.reduceMul,Int.reduceLT,Int.reduceLE,Int.reduceToNat,Int.reduceAdd,Int.reduceSub,decide_true,decide_false,tf51, he0]
      refine hold_intro ⟨g5.above k6 (fun q hq e => by omega), ?_, ?_, _, ?_, ?_, hF4⟩
      · simp -dsimp only [↓RE,RU,RL,↓reduceIte,Nat.reduceEqDiff,reduceCtorEq,decide_true,decide_false, he0]
      · simp -dsimp only [↓RE,RU,RL,↓reduceIte,Nat.reduceEqDiff,reduceCtorEq,decide_true,decide_false, he4]
      · simp -dsimp only [↓RE,RU,RL,↓reduceIte,Nat.reduceEqDiff,reduceCtorEq,decide_true,decide_false, he3]
      · rw [hput]
        show LRow _ _ _ _ (S.take i ++ t :: S.drop i).length _
        rw [show (S.take i ++ t :: S.drop i).length = S.length + 1 by simp; omega]
        exact hr6
    · clear he0 he3 he4
      rintro e3 w3 ⟨g3, he0, he4, v', he3, hv', hF'⟩
      repeat (first | rw [c_seq] | simp -dsimp only [↓RE,RU,RL,forall_const,implies_true,Nat.reduceLeDiff,Nat.reduceLT,pureOp,binPure,intBin,strBin,eqPure,isConstO,lenPure,buildP,resK,endV,yieldE,↓reduceIte,Nat.reduceEqDiff,reduceCtorEq,Nat.reduceAdd,Nat.reduceMul,Int.reduceLT,Int.reduceLE,Int.reduceToNat,Int.reduceAdd,Int.reduceSub,decide_true,decide_false,tf51, he4, hw1])
      refine hold_intro ⟨⟨g3, ?_, k + 1, v', hlt, ?_, ?_, by rw [hsn]; exact hv', hF'⟩, ?_⟩
      · simp -dsimp only [↓RE,RU,RL,↓reduceIte,Nat.reduceEqDiff,reduceCtorEq,decide_true,decide_false, he0]
      · simp -dsimp only [↓RE,RU,RL,↓reduceIte,Nat.reduceEqDiff,reduceCtorEq,decide_true,decide_false, hw1]
      · simp -dsimp only [↓RE,RU,RL,↓reduceIte,Nat.reduceEqDiff,reduceCtorEq,decide_true,decide_false, he3]
      · rw [hmu]
        simp -dsimp only [↓RE,↓c_seq,RU,RL,forall_const,implies_true,Nat.reduceLeDiff,Nat.reduceLT,pureOp,binPure,intBin,strBin,eqPure,isConstO,lenPure,buildP,resK,endV,yieldE,↓reduceIte,Nat.reduceEqDiff,reduceCtorEq,Nat.reduceAdd,Nat.reduceMul,Int.reduceLT,Int.reduceLE,Int.reduceToNat,Int.reduceAdd,Int.reduceSub,decide_true,decide_false,tf51, hw1]
        simp only [envInt_int]; omega
  · have hd : decide ((k : Int) < (n : Int)) = false := decide_eq_false (by omega)
    rw [List.take_of_length_le (by omega)] at hv
    repeat (first | rw [c_seq] | simp -dsimp only [↓RE,RU,RL,forall_const,implies_true,Nat.reduceLeDiff,Nat.reduceLT,pureOp,binPure,intBin,strBin,eqPure,isConstO,lenPure,buildP,resK,endV,yieldE,↓reduceIte,Nat.reduceEqDiff,reduceCtorEq,Nat.reduceAdd,Nat.reduceMul,Int.reduceLT,Int.reduceLE,Int.reduceToNat,Int.reduceAdd,Int.reduceSub,decide_true,decide_false,tf51, he0, he4, hd, he3])
    exact h w1 v hv g1 hF

end Go.Proofs.YtljgnocpijniiaaGreatDoor
