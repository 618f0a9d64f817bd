/- slices.Insert of a sample. -/
import Derived.Test.YtcnebgokbjpjnaaGreatSer
set_option linter.unusedVariables false
set_option linter.unusedSimpArgs false
set_option maxRecDepth 100000
namespace Go.Proofs.YtcnebgokbjpjnaaGreat
open Go

theorem ins_cells {l : List Smp} {x : Smp} {i : Nat} (hi : i ≤ l.length) {cur : List Value} (hct : cur.take (l.length * 3) = l.flatMap scells) (hcc : l.length * 3 + 3 ≤ cur.length) {c1 : List Value}
    (h1 : c1 = cur.take ((i + 1) * 3) ++ (l.flatMap scells).drop (i * 3) ++ cur.drop ((i + 1) * 3 + (l.length - i) * 3)) :
    (c1.take (i * 3) ++ List.flatMap scells [x] ++ c1.drop (i * 3 + 1 * 3)).take ((l.length + 1) * 3) = (l.take i ++ x :: l.drop i).flatMap scells := by
  have hA : ((l.take i).flatMap scells).length = i * 3 := by rw [flat_length, List.length_take]; omega
  have hD : ((l.drop i).flatMap scells).length = (l.length - i) * 3 := by rw [flat_length, List.length_drop]
  have hX : (List.flatMap scells [x]).length = 3 := rfl
  have e1 : cur.take ((i + 1) * 3) = (l.take i).flatMap scells ++ (cur.take ((i + 1) * 3)).drop (i * 3) := by
    have h : (l.take i).flatMap scells = (cur.take ((i + 1) * 3)).take (i * 3) := by
      rw [flat_take, ← hct, List.take_take, List.take_take, Nat.min_eq_left (show i * 3 ≤ l.length * 3 by omega), Nat.min_eq_left (show i * 3 ≤ (i + 1) * 3 by omega)]
    rw [h, List.take_append_drop]
  obtain ⟨T, hT, hTl⟩ : ∃ T, cur.take ((i + 1) * 3) = (l.take i).flatMap scells ++ T ∧ T.length = 3 := ⟨_, e1, by rw [List.length_drop, List.length_take]; omega⟩
  obtain ⟨r, hr⟩ : ∃ r, r = cur.drop ((i + 1) * 3 + (l.length - i) * 3) := ⟨_, rfl⟩
  rw [hT, ← hr, ← flat_drop, List.append_assoc, List.append_assoc] at h1
  have e2 : c1.take (i * 3) = (l.take i).flatMap scells := by rw [h1]; exact List.take_left' hA
  have e3 : c1.drop (i * 3 + 1 * 3) = (l.drop i).flatMap scells ++ r := by
    rw [h1, ← List.append_assoc]; exact List.drop_left' (by rw [List.length_append, hA, hTl])
  have hX1 : List.flatMap scells [x] = scells x := List.append_nil _
  rw [hX1] at hX ⊢
  rw [e2, e3, ← List.append_assoc, List.flatMap_append, List.flatMap_cons, ← List.append_assoc]
  exact List.take_left' (by rw [List.length_append, List.length_append, hA, hD, hX]; omega)
theorem insert_end {w : World} {v : Value} {l : List Smp} (hL : SRow w v l) (hn : l.length < 5864062014634) {x : Smp} {B : Nat} {cv : Nat} (hB : Blk w B 89 (scells x)) {R : VWK}
    (h : ∀ w' v', SRow w' v' (l ++ [x]) → Keep (fpV v) w w' → (∀ k, fpV v' k → fpV v k ∨ w.heap.size ≤ k) → R v' w') :
    CallsV Tryz.prog 75 [v, .int .i64 l.length, .slice (some ⟨B, 0, none⟩) 1 cv] w R := by
  have hR1 : Rd w (some ⟨B, 0, none⟩) 1 3 (([x] : List Smp).flatMap scells) := Rd.of_sblk hB rfl
  have hx1 : ∀ u ∈ ([x] : List Smp).flatMap scells, u.oneCell' = true := scells_one _
  obtain ⟨A, c, rfl, hnc, hA⟩ := hL.form
  have hd1 : decide (((1 : Nat) : Int) = 0) = false := by decide
  refine calls_of_wpC mixed Tryz.func75 rfl (by kernel_rfl) ?_
  intro e he
  have he0 := he 0
  have he1 := he 1
  have he2 := he 2
  simp only [List.getD_cons_zero, List.getD_cons_succ] at he0 he1 he2
  clear he
  try simp -dsimp only [↓RE,↓c_seq,RU,RL,if_true,if_false,forall_const,implies_true,Nat.reduceLeDiff,Nat.reduceLT,pureOp,binPure,intBin,strBin,eqPure,isConstO,unPure,sliceLo,sliceHi,slicePure,slice3Pure,lenPure,capPure,minPure,maxPure,buildP,resK,endV,yieldE,↓reduceIte,Nat.reduceEqDiff,reduceCtorEq,Nat.reduceAdd,Nat.reduceMul,Nat.reduceSub,Int.reduceLT,Int.reduceLE,Int.reduceToNat,Int.reduceAdd,Int.reduceSub,Int.reduceMul,ne_eq,decide_true,decide_false,tf75, he0, he1, he2, hd1]
  refine ⟨by omega, ?_⟩
  refine appK_l (bytes := 24) (by kernel_rfl) hL hR1 hx1 (by simp only [maxLen]; omega) (by omega) (fun A' c' w' hL' hK hF _ => ?_)
  try simp -dsimp only [↓RE,↓c_seq,RU,RL,if_true,if_false,forall_const,implies_true,Nat.reduceLeDiff,Nat.reduceLT,pureOp,binPure,intBin,strBin,eqPure,isConstO,unPure,sliceLo,sliceHi,slicePure,slice3Pure,lenPure,capPure,minPure,maxPure,buildP,resK,endV,yieldE,↓reduceIte,Nat.reduceEqDiff,reduceCtorEq,Nat.reduceAdd,Nat.reduceMul,Nat.reduceSub,Int.reduceLT,Int.reduceLE,Int.reduceToNat,Int.reduceAdd,Int.reduceSub,Int.reduceMul,ne_eq,decide_true,decide_false,tf75, he0, he1, he2]
  refine h w' _ ?_ hK (fun k hk => (hF k hk).imp id (fun h => by omega))
  show LRow _ _ _ _ (l ++ [x]).length _
  rw [List.flatMap_append, List.length_append]
  exact hL'
theorem insert_ok {w : World} {v : Value} {l : List Smp} (hL : SRow w v l) {i : Nat} (hi : i ≤ l.length) (hn : l.length < 5864062014634) {x : Smp} {B : Nat} {cv : Nat} (hB : Blk w B 89 (scells x)) (hne : ¬ fpV v B) {R : VWK}
    (h : ∀ w' v', SRow w' v' (l.take i ++ x :: l.drop i) → Keep (fpV v) w w' → (∀ k, fpV v' k → fpV v k ∨ w.heap.size ≤ k) → R v' w') :
    CallsV Tryz.prog 75 [v, .int .i64 i, .slice (some ⟨B, 0, none⟩) 1 cv] w R := by
  have hR1 : Rd w (some ⟨B, 0, none⟩) 1 3 (([x] : List Smp).flatMap scells) := Rd.of_sblk hB rfl
  have hx1 : ∀ u ∈ ([x] : List Smp).flatMap scells, u.oneCell' = true := scells_one _
  have hl3 := flat_length l
  rcases Nat.lt_or_ge i l.length with hil | hil
  · rcases hL.2 with ⟨_, h0⟩ | ⟨g, c, cur, rfl, hg, hnc, hcm, hcc, hct⟩
    · omega
    have hL0 := hL
    have hR0 := hL.rd
    have hcl := hg.lt
    have hgB : B ≠ g := fun h => hne ((fpV_some _ _ _ _).2 h)
    have hd1 : decide (((1 : Nat) : Int) = 0) = false := by decide
    have hd2 : decide ((i : Int) = (l.length : Int)) = false := decide_eq_false (by omega)
    have hw1 : IntKind.i64.wrap ((l.length : Int) + ((1 : Nat) : Int)) = ((l.length + 1 : Nat) : Int) := by rw [wrap_i64_in (by omega) (by omega)]; omega
    have hw2 : IntKind.i64.wrap (((l.length + 1 : Nat) : Int) - (i : Int)) = ((l.length + 1 - i : Nat) : Int) := by rw [wrap_i64_in (by omega) (by omega)]; omega
    have hw3 : IntKind.i64.wrap ((i : Int) + ((1 : Nat) : Int)) = ((i + 1 : Nat) : Int) := by rw [wrap_i64_in (by omega) (by omega)]; omega
    have hic : (c = i) = False := eq_false (by omega)
    refine calls_of_wpC mixed Tryz.func75 rfl (by kernel_rfl) ?_
    intro e he
    have he0 := he 0
    have he1 := he 1
    have he2 := he 2
    simp only [List.getD_cons_zero, List.getD_cons_succ] at he0 he1 he2
    clear he
    rw [c_assoc, c_assoc, c_assoc, c_assoc, c_assoc]
    refine c_seq_cut (fun e' w' => e' 0 = .slice (some ⟨g, 0, none⟩) l.length c ∧ e' 1 = .int .i64 i ∧ e' 2 = .slice (some ⟨B, 0, none⟩) 1 cv ∧ e' 7 = .int .i64 ((1 : Nat) : Int) ∧ e' 8 = .int .i64 l.length ∧ w = w') ?_ ?_
    · try simp -dsimp only [↓RE,↓c_seq,RU,RL,if_true,if_false,forall_const,implies_true,Nat.reduceLeDiff,Nat.reduceLT,pureOp,binPure,intBin,strBin,eqPure,isConstO,unPure,sliceLo,sliceHi,slicePure,slice3Pure,lenPure,capPure,minPure,maxPure,buildP,resK,endV,yieldE,↓reduceIte,Nat.reduceEqDiff,reduceCtorEq,Nat.reduceAdd,Nat.reduceMul,Nat.reduceSub,Int.reduceLT,Int.reduceLE,Int.reduceToNat,Int.reduceAdd,Int.reduceSub,Int.reduceMul,ne_eq,decide_true,decide_false,tf75, he0, he1, he2, hd1, hd2, ite_self, hic, Option.map_some, add_lit', Nat.zero_add]
      refine ⟨by omega, hold_intro ⟨?_, ?_, ?_, ?_, ?_, rfl⟩⟩
      · simp -dsimp only [↓RE,RU,RL,if_true,if_false,↓reduceIte,Nat.reduceEqDiff,reduceCtorEq,decide_true,decide_false, he0]
      · simp -dsimp only [↓RE,RU,RL,if_true,if_false,↓reduceIte,Nat.reduceEqDiff,reduceCtorEq,decide_true,decide_false, he1]
      · simp -dsimp only [↓RE,RU,RL,if_true,if_false,↓reduceIte,Nat.reduceEqDiff,reduceCtorEq,decide_true,decide_false, he2]
      · simp -dsimp only [↓RE,RU,RL,if_true,if_false,↓reduceIte,Nat.reduceEqDiff,reduceCtorEq,decide_true,decide_false, he2]
      · simp -dsimp only [↓RE,RU,RL,if_true,if_false,↓reduceIte,Nat.reduceEqDiff,reduceCtorEq,decide_true,decide_false, he0]
    clear he0 he1 he2 e
    rintro e w' ⟨he0, he1, he2, he7, he8, rfl⟩
    refine c_seq_cut (fun e' w' => (¬ (c : Int) < ((l.length + 1 : Nat) : Int)) ∧ e' 0 = .slice (some ⟨g, 0, none⟩) l.length c ∧ e' 1 = .int .i64 i ∧ e' 2 = .slice (some ⟨B, 0, none⟩) 1 cv ∧ e' 7 = .int .i64 ((1 : Nat) : Int) ∧ e' 8 = .int .i64 l.length ∧ w = w') ?_ ?_
    · try simp -dsimp only [↓RE,↓c_seq,RU,RL,if_true,if_false,forall_const,implies_true,Nat.reduceLeDiff,Nat.reduceLT,pureOp,binPure,intBin,strBin,eqPure,isConstO,unPure,sliceLo,sliceHi,slicePure,slice3Pure,lenPure,capPure,minPure,maxPure,buildP,resK,endV,yieldE,↓reduceIte,Nat.reduceEqDiff,reduceCtorEq,Nat.reduceAdd,Nat.reduceMul,Nat.reduceSub,Int.reduceLT,Int.reduceLE,Int.reduceToNat,Int.reduceAdd,Int.reduceSub,Int.reduceMul,ne_eq,decide_true,decide_false,tf75, he0, he1, he2, he7, he8, hd1, hd2, hw1, hw2, hw3, hic, add_zero', Nat.sub_zero, ite_self, Option.map_some, add_lit', Nat.zero_add]
      refine ⟨fun hgr => ⟨by omega, ?_⟩, fun hroom => hold_intro ⟨hroom, ?_, ?_, ?_, ?_, ?_, rfl⟩⟩
      · refine appK_zeros (e := 89) (bytes := 24) (by kernel_rfl) (by kernel_rfl) ((hL.pre (k := i) (by omega)).rd) (k := l.length + 1 - i) rfl (by omega) (by omega) (by simp only [maxLen]; omega) (by omega) (fun cur1 c1 w1 ht1 hc1 hn1 hm1 hb1 g1 => ?_)
        have hs1 : i + (l.length + 1 - i) = l.length + 1 := by omega
        have hic1 : (c1 = i) = False := eq_false (by omega)
        have hic2 : (c1 = i + 1) = False := eq_false (by omega)
        try simp -dsimp only [↓RE,↓c_seq,RU,RL,if_true,if_false,forall_const,implies_true,Nat.reduceLeDiff,Nat.reduceLT,pureOp,binPure,intBin,strBin,eqPure,isConstO,unPure,sliceLo,sliceHi,slicePure,slice3Pure,lenPure,capPure,minPure,maxPure,buildP,resK,endV,yieldE,↓reduceIte,Nat.reduceEqDiff,reduceCtorEq,Nat.reduceAdd,Nat.reduceMul,Nat.reduceSub,Int.reduceLT,Int.reduceLE,Int.reduceToNat,Int.reduceAdd,Int.reduceSub,Int.reduceMul,ne_eq,decide_true,decide_false,tf75, he0, he1, he2, he7, he8, hd1, hd2, hw1, hw2, hw3, hic, hs1, hic1, hic2, add_zero', Nat.sub_zero, ite_self, Option.map_some, add_lit', Nat.zero_add]
        have hT : (cur1.take (i * 3)).length = i * 3 := by rw [ht1, List.length_take, hl3]; omega
        refine ⟨by omega, genK_copy rfl (t := 62) (bytes := 24) (by kernel_rfl) (g := w.heap.size) (off := i * 3) (dl := l.length + 1 - i) (dc := c1 - i) (by simp -dsimp only [↓RE,RU,RL,if_true,if_false,↓reduceIte,Nat.reduceEqDiff,reduceCtorEq,decide_true,decide_false, he0, he1, he2, he7, he8, hd1, hd2, hw1, hw2, hw3, hic, hs1, hic1, hic2, add_zero', Nat.sub_zero, ite_self, Option.map_some, add_lit', Nat.zero_add]) (ad := ⟨B, 0, none⟩) (n := 1) (c := cv) (by simp -dsimp only [↓RE,RU,RL,if_true,if_false,↓reduceIte,Nat.reduceEqDiff,reduceCtorEq,decide_true,decide_false, he0, he1, he2, he7, he8, hd1, hd2, hw1, hw2, hw3, hic, hs1, hic1, hic2, add_zero', Nat.sub_zero, ite_self, Option.map_some, add_lit', Nat.zero_add]) (Nat.min_eq_left (by omega)) hb1 (hR1.grow g1) hx1 (by omega) (fun w2 hb2 hk2 => ?_)⟩
        try simp -dsimp only [↓RE,↓c_seq,RU,RL,if_true,if_false,forall_const,implies_true,Nat.reduceLeDiff,Nat.reduceLT,pureOp,binPure,intBin,strBin,eqPure,isConstO,unPure,sliceLo,sliceHi,slicePure,slice3Pure,lenPure,capPure,minPure,maxPure,buildP,resK,endV,yieldE,↓reduceIte,Nat.reduceEqDiff,reduceCtorEq,Nat.reduceAdd,Nat.reduceMul,Nat.reduceSub,Int.reduceLT,Int.reduceLE,Int.reduceToNat,Int.reduceAdd,Int.reduceSub,Int.reduceMul,ne_eq,decide_true,decide_false,tf75, he0, he1, he2, he7, he8, hd1, hd2, hw1, hw2, hw3, hic, hs1, hic1, hic2, add_zero', Nat.sub_zero, ite_self, Option.map_some, add_lit', Nat.zero_add]
        refine wpDraw_tail mixed 8 (by kernel_rfl) ?_
        try simp -dsimp only [↓RE,↓c_seq,RU,RL,if_true,if_false,forall_const,implies_true,Nat.reduceLeDiff,Nat.reduceLT,pureOp,binPure,intBin,strBin,eqPure,isConstO,unPure,sliceLo,sliceHi,slicePure,slice3Pure,lenPure,capPure,minPure,maxPure,buildP,resK,endV,yieldE,↓reduceIte,Nat.reduceEqDiff,reduceCtorEq,Nat.reduceAdd,Nat.reduceMul,Nat.reduceSub,Int.reduceLT,Int.reduceLE,Int.reduceToNat,Int.reduceAdd,Int.reduceSub,Int.reduceMul,ne_eq,decide_true,decide_false,tf75, he0, he1, he2, he7, he8, hd1, hd2, hw1, hw2, hw3, hic, hs1, hic1, hic2, add_zero', Nat.sub_zero, ite_self, Option.map_some, add_lit', Nat.zero_add]
        have hg2 : Grow w w2 := g1.above hk2 (fun k hk e => by omega)
        have hR2 : Rd w2.drew (some ⟨g, i * 3, none⟩) (l.length - i) 3 ((l.flatMap scells).drop (i * 3)) := rd_at (hR0.grow hg2) hi
        have hl2 : i * 3 + 1 * 3 + (l.length - i) * 3 ≤ (cur1.take (i * 3) ++ List.flatMap scells [x] ++ cur1.drop (i * 3 + 1 * 3)).length := by
          simp only [List.length_append, hT, List.length_drop, flat_length, List.length_cons, List.length_nil]; omega
        refine ⟨by omega, by omega, genK_copy rfl (t := 62) (bytes := 24) (by kernel_rfl) (g := w.heap.size) (off := (i + 1) * 3) (dl := l.length + 1 - (i + 1)) (dc := c1 - (i + 1)) (by simp -dsimp only [↓RE,RU,RL,if_true,if_false,↓reduceIte,Nat.reduceEqDiff,reduceCtorEq,decide_true,decide_false, he0, he1, he2, he7, he8, hd1, hd2, hw1, hw2, hw3, hic, hs1, hic1, hic2, add_zero', Nat.sub_zero, ite_self, Option.map_some, add_lit', Nat.zero_add]) (ad := ⟨g, i * 3, none⟩) (n := l.length - i) (c := c - i) (by simp -dsimp only [↓RE,RU,RL,if_true,if_false,↓reduceIte,Nat.reduceEqDiff,reduceCtorEq,decide_true,decide_false, he0, he1, he2, he7, he8, hd1, hd2, hw1, hw2, hw3, hic, hs1, hic1, hic2, add_zero', Nat.sub_zero, ite_self, Option.map_some, add_lit', Nat.zero_add])
          (m := l.length - i) (by rw [show l.length + 1 - (i + 1) = l.length - i by omega]; exact Nat.min_self _) hb2.drew hR2 (fun u hu => scells_one l u (List.mem_of_mem_drop hu)) (by omega) (fun w3 hb3 hk3 => ?_)⟩
        try simp -dsimp only [↓RE,↓c_seq,RU,RL,if_true,if_false,forall_const,implies_true,Nat.reduceLeDiff,Nat.reduceLT,pureOp,binPure,intBin,strBin,eqPure,isConstO,unPure,sliceLo,sliceHi,slicePure,slice3Pure,lenPure,capPure,minPure,maxPure,buildP,resK,endV,yieldE,↓reduceIte,Nat.reduceEqDiff,reduceCtorEq,Nat.reduceAdd,Nat.reduceMul,Nat.reduceSub,Int.reduceLT,Int.reduceLE,Int.reduceToNat,Int.reduceAdd,Int.reduceSub,Int.reduceMul,ne_eq,decide_true,decide_false,tf75, he0, he1, he2, he7, he8, hd1, hd2, hw1, hw2, hw3, hic, hs1, hic1, hic2, add_zero', Nat.sub_zero, ite_self, Option.map_some, add_lit', Nat.zero_add]
        have hG3 : Grow w w3 := (hg2.trans (Grow.drew w2)).above hk3 (fun k hk e => by omega)
        have hnl : (l.take i ++ x :: l.drop i).length = l.length + 1 := by simp; omega
        refine h w3 _ ⟨by rw [flat_length], .inr ⟨w.heap.size, c1, _, by rw [hnl], hb3, by omega, hm1, ?_, ?_⟩⟩ (hG3.mono (fun _ _ h => h.elim)) (fun k hk => .inr (by rw [fpV_some] at hk; simp only at hk; omega))
        · simp only [List.length_append, List.length_take, List.length_drop, hl3, flat_length, List.length_cons, List.length_nil]; omega
        · have hA : (cur1.take (i * 3) ++ List.flatMap scells [x] ++ cur1.drop (i * 3 + 1 * 3)).take ((i + 1) * 3) = (l.take i ++ [x]).flatMap scells := by
            rw [put_take _ _ _ (by rw [hT, flat_length, List.length_cons, List.length_nil]; omega), List.flatMap_append, flat_take, ht1]
          rw [hA, put_take _ _ _ (by rw [hnl, flat_length, List.length_drop, hl3]; simp; omega), ← flat_drop, ← List.flatMap_append, List.append_assoc]
          rfl
      · simp -dsimp only [↓RE,RU,RL,if_true,if_false,↓reduceIte,Nat.reduceEqDiff,reduceCtorEq,decide_true,decide_false, he0]
      · simp -dsimp only [↓RE,RU,RL,if_true,if_false,↓reduceIte,Nat.reduceEqDiff,reduceCtorEq,decide_true,decide_false, he1]
      · simp -dsimp only [↓RE,RU,RL,if_true,if_false,↓reduceIte,Nat.reduceEqDiff,reduceCtorEq,decide_true,decide_false, he2]
      · simp -dsimp only [↓RE,RU,RL,if_true,if_false,↓reduceIte,Nat.reduceEqDiff,reduceCtorEq,decide_true,decide_false, he7]
      · simp -dsimp only [↓RE,RU,RL,if_true,if_false,↓reduceIte,Nat.reduceEqDiff,reduceCtorEq,decide_true,decide_false, he8]
    clear he0 he1 he2 he7 he8 e
    rintro e w' ⟨hroom, he0, he1, he2, he7, he8, rfl⟩
    have hcc3 : l.length * 3 + 3 ≤ cur.length := by omega
    have hic1 : (c = i + 1) = False := eq_false (by omega)
    try simp -dsimp only [↓RE,↓c_seq,RU,RL,if_true,if_false,forall_const,implies_true,Nat.reduceLeDiff,Nat.reduceLT,pureOp,binPure,intBin,strBin,eqPure,isConstO,unPure,sliceLo,sliceHi,slicePure,slice3Pure,lenPure,capPure,minPure,maxPure,buildP,resK,endV,yieldE,↓reduceIte,Nat.reduceEqDiff,reduceCtorEq,Nat.reduceAdd,Nat.reduceMul,Nat.reduceSub,Int.reduceLT,Int.reduceLE,Int.reduceToNat,Int.reduceAdd,Int.reduceSub,Int.reduceMul,ne_eq,decide_true,decide_false,tf75, he0, he1, he2, he7, he8, hd1, hd2, hw1, hw2, hw3, hic, hic1, add_zero', Nat.sub_zero, ite_self, Option.map_some, add_lit', Nat.zero_add]
    refine ⟨by omega, by omega, ?_⟩
    refine overlaps_no hB hg hgB (by intro h; rw [h] at hcc; simp at hcc; omega) ?_
    refine os_gen (fun e' => e' 0 = .slice (some ⟨g, 0, none⟩) (l.length + 1) c ∧ e' 1 = .int .i64 i ∧ e' 2 = .slice (some ⟨B, 0, none⟩) 1 cv ∧ e' 7 = .int .i64 ((1 : Nat) : Int) ∧ e' 67 = .bool false) ⟨?_, ?_, ?_, ?_, ?_⟩ ?_
    · simp -dsimp only [↓RE,RU,RL,if_true,if_false,↓reduceIte,Nat.reduceEqDiff,reduceCtorEq,decide_true,decide_false, he0, he8, hw1, Nat.sub_zero]
    · simp -dsimp only [↓RE,RU,RL,if_true,if_false,↓reduceIte,Nat.reduceEqDiff,reduceCtorEq,decide_true,decide_false, he1]
    · simp -dsimp only [↓RE,RU,RL,if_true,if_false,↓reduceIte,Nat.reduceEqDiff,reduceCtorEq,decide_true,decide_false, he2]
    · simp -dsimp only [↓RE,RU,RL,if_true,if_false,↓reduceIte,Nat.reduceEqDiff,reduceCtorEq,decide_true,decide_false, he7]
    · simp -dsimp only [↓RE,RU,RL,if_true,if_false,↓reduceIte,Nat.reduceEqDiff,reduceCtorEq,decide_true,decide_false, he7]
    clear he0 he1 he2 he7 he8 e
    rintro e ⟨he0, he1, he2, he7, he67⟩
    simp -dsimp only [↓RE,RU,RL,if_true,if_false,forall_const,implies_true,Nat.reduceLeDiff,Nat.reduceLT,pureOp,binPure,intBin,strBin,eqPure,isConstO,unPure,sliceLo,sliceHi,slicePure,slice3Pure,lenPure,capPure,minPure,maxPure,buildP,resK,endV,yieldE,↓reduceIte,Nat.reduceEqDiff,reduceCtorEq,Nat.reduceAdd,Nat.reduceMul,Nat.reduceSub,Int.reduceLT,Int.reduceLE,Int.reduceToNat,Int.reduceAdd,Int.reduceSub,Int.reduceMul,ne_eq,decide_true,decide_false,tf75, he0, he1, he2, he7, he67]
    rw [c_seq]
    simp -dsimp only [↓RE,RU,RL,if_true,if_false,forall_const,implies_true,Nat.reduceLeDiff,Nat.reduceLT,pureOp,binPure,intBin,strBin,eqPure,isConstO,unPure,sliceLo,sliceHi,slicePure,slice3Pure,lenPure,capPure,minPure,maxPure,buildP,resK,endV,yieldE,↓reduceIte,Nat.reduceEqDiff,reduceCtorEq,Nat.reduceAdd,Nat.reduceMul,Nat.reduceSub,Int.reduceLT,Int.reduceLE,Int.reduceToNat,Int.reduceAdd,Int.reduceSub,Int.reduceMul,ne_eq,decide_true,decide_false,tf75, he0]
    have hct' : cur.take (i * 3) = (l.flatMap scells).take (i * 3) := by rw [← hct, List.take_take, Nat.min_eq_left (by omega)]
    have hT : (cur.take ((i + 1) * 3)).length = (i + 1) * 3 := by rw [List.length_take]; omega
    refine wpDraw_tail mixed 8 (by kernel_rfl) ?_
    try simp -dsimp only [↓RE,↓c_seq,RU,RL,if_true,if_false,forall_const,implies_true,Nat.reduceLeDiff,Nat.reduceLT,pureOp,binPure,intBin,strBin,eqPure,isConstO,unPure,sliceLo,sliceHi,slicePure,slice3Pure,lenPure,capPure,minPure,maxPure,buildP,resK,endV,yieldE,↓reduceIte,Nat.reduceEqDiff,reduceCtorEq,Nat.reduceAdd,Nat.reduceMul,Nat.reduceSub,Int.reduceLT,Int.reduceLE,Int.reduceToNat,Int.reduceAdd,Int.reduceSub,Int.reduceMul,ne_eq,decide_true,decide_false,tf75, he0, he1, he2, he7, he67, hd1, hd2, hw1, hw2, hw3, hic, hic1, add_zero', Nat.sub_zero, ite_self, Option.map_some, add_lit', Nat.zero_add]
    refine ⟨by omega, by omega, genK_copy rfl (t := 62) (bytes := 24) (by kernel_rfl) (g := g) (off := (i + 1) * 3) (dl := l.length + 1 - (i + 1)) (dc := c - (i + 1)) (by simp -dsimp only [↓RE,RU,RL,if_true,if_false,↓reduceIte,Nat.reduceEqDiff,reduceCtorEq,decide_true,decide_false, he0, he1, he2, he7, he67, hd1, hd2, hw1, hw2, hw3, hic, hic1, add_zero', Nat.sub_zero, ite_self, Option.map_some, add_lit', Nat.zero_add]) (ad := ⟨g, i * 3, none⟩) (n := l.length + 1 - i) (c := c - i) (by simp -dsimp only [↓RE,RU,RL,if_true,if_false,↓reduceIte,Nat.reduceEqDiff,reduceCtorEq,decide_true,decide_false, he0, he1, he2, he7, he67, hd1, hd2, hw1, hw2, hw3, hic, hic1, add_zero', Nat.sub_zero, ite_self, Option.map_some, add_lit', Nat.zero_add])
      (m := l.length - i) (by rw [show l.length + 1 - (i + 1) = l.length - i by omega]; exact Nat.min_eq_right (by omega)) hg.drew (rd_at hR0 hi).drew (fun u hu => scells_one l u (List.mem_of_mem_drop hu)) (by omega) (fun w2 hb2 hk2 => ?_)⟩
    try simp -dsimp only [↓RE,↓c_seq,RU,RL,if_true,if_false,forall_const,implies_true,Nat.reduceLeDiff,Nat.reduceLT,pureOp,binPure,intBin,strBin,eqPure,isConstO,unPure,sliceLo,sliceHi,slicePure,slice3Pure,lenPure,capPure,minPure,maxPure,buildP,resK,endV,yieldE,↓reduceIte,Nat.reduceEqDiff,reduceCtorEq,Nat.reduceAdd,Nat.reduceMul,Nat.reduceSub,Int.reduceLT,Int.reduceLE,Int.reduceToNat,Int.reduceAdd,Int.reduceSub,Int.reduceMul,ne_eq,decide_true,decide_false,tf75, he0, he1, he2, he7, he67, hd1, hd2, hw1, hw2, hw3, hic, hic1, add_zero', Nat.sub_zero, ite_self, Option.map_some, add_lit', Nat.zero_add]
    have hl2 : (cur.take ((i + 1) * 3) ++ (l.flatMap scells).drop (i * 3) ++ cur.drop ((i + 1) * 3 + (l.length - i) * 3)).length = cur.length := by
      simp only [List.length_append, hT, List.length_drop, hl3]; omega
    have hgk2 : Keep (fun k => k = g) w w2 := (Grow.drew w).then hk2
    refine ⟨by omega, genK_copy rfl (t := 62) (bytes := 24) (by kernel_rfl) (g := g) (off := i * 3) (dl := l.length + 1 - i) (dc := c - i) (by simp -dsimp only [↓RE,RU,RL,if_true,if_false,↓reduceIte,Nat.reduceEqDiff,reduceCtorEq,decide_true,decide_false, he0, he1, he2, he7, he67, hd1, hd2, hw1, hw2, hw3, hic, hic1, add_zero', Nat.sub_zero, ite_self, Option.map_some, add_lit', Nat.zero_add]) (ad := ⟨B, 0, none⟩) (n := 1) (c := cv) (by simp -dsimp only [↓RE,RU,RL,if_true,if_false,↓reduceIte,Nat.reduceEqDiff,reduceCtorEq,decide_true,decide_false, he0, he1, he2, he7, he67, hd1, hd2, hw1, hw2, hw3, hic, hic1, add_zero', Nat.sub_zero, ite_self, Option.map_some, add_lit', Nat.zero_add]) (Nat.min_eq_left (by omega)) hb2
      (hR1.keep hgk2 (fun k hk e => by obtain ⟨_, he, rfl⟩ := hk; injection he with he; subst he; exact hgB e)) hx1 (by rw [hl2]; omega) (fun w3 hb3 hk3 => ?_)⟩
    try simp -dsimp only [↓RE,↓c_seq,RU,RL,if_true,if_false,forall_const,implies_true,Nat.reduceLeDiff,Nat.reduceLT,pureOp,binPure,intBin,strBin,eqPure,isConstO,unPure,sliceLo,sliceHi,slicePure,slice3Pure,lenPure,capPure,minPure,maxPure,buildP,resK,endV,yieldE,↓reduceIte,Nat.reduceEqDiff,reduceCtorEq,Nat.reduceAdd,Nat.reduceMul,Nat.reduceSub,Int.reduceLT,Int.reduceLE,Int.reduceToNat,Int.reduceAdd,Int.reduceSub,Int.reduceMul,ne_eq,decide_true,decide_false,tf75, he0, he1, he2, he7, he67, hd1, hd2, hw1, hw2, hw3, hic, hic1, add_zero', Nat.sub_zero, ite_self, Option.map_some, add_lit', Nat.zero_add]
    have hnl : (l.take i ++ x :: l.drop i).length = l.length + 1 := by simp; omega
    refine h w3 _ ⟨by rw [flat_length], .inr ⟨g, c, _, by rw [hnl], hb3, by omega, hcm, ?_, ?_⟩⟩ ((hgk2.trans hk3 (fun _ _ h => h) (fun _ _ h => h)).mono (fun k _ hk => (fpV_some _ _ _ _).2 hk)) (fun k hk => .inl (by rw [fpV_some] at hk ⊢; exact hk))
    · rw [List.length_append, List.length_append, List.length_take, List.length_drop, hl2, flat_length, List.length_cons, List.length_nil]; omega
    · exact (congrArg (fun k => List.take (k * 3) _) hnl).trans (ins_cells hi hct hcc3 rfl)
  · have hie : i = l.length := Nat.le_antisymm hi hil
    subst hie
    refine insert_end hL hn hB (fun w' v' h1 h2 h3 => h w' v' ?_ h2 h3)
    rw [List.take_length, List.drop_length]
    exact h1

end Go.Proofs.YtcnebgokbjpjnaaGreat
