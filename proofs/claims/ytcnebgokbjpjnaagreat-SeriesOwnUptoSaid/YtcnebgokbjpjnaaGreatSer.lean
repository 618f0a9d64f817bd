/- slices.Insert, Delete, Clone of samples, and the program's series. -/
import Derived.Test.YtcnebgokbjpjnaaGreatFind
import Derived.Test.YtcnebgokbjpjnaaGreatRow
set_option linter.unusedVariables false
set_option linter.unusedSimpArgs false
set_option maxRecDepth 100000
namespace Go.Proofs.YtcnebgokbjpjnaaGreat
open Go

theorem flat_take (l : List Smp) (k : Nat) : (l.take k).flatMap scells = (l.flatMap scells).take (k * 3) := by
  induction l generalizing k with
  | nil => simp
  | cons x l ih =>
    cases k with
    | zero => simp
    | succ k =>
      rw [List.take_succ_cons, List.flatMap_cons, List.flatMap_cons, ih, List.take_append, scells_len, List.take_of_length_le (l := scells x) (by rw [scells_len]; omega), show (k + 1) * 3 - 3 = k * 3 by omega]
theorem flat_drop (l : List Smp) (k : Nat) : (l.drop k).flatMap scells = (l.flatMap scells).drop (k * 3) := by
  induction l generalizing k with
  | nil => simp
  | cons x l ih =>
    cases k with
    | zero => simp
    | succ k =>
      rw [List.drop_succ_cons, List.flatMap_cons, ih, List.drop_append, scells_len, List.drop_of_length_le (l := scells x) (by rw [scells_len]; omega), List.nil_append, show (k + 1) * 3 - 3 = k * 3 by omega]
theorem flat_length (l : List Smp) : (l.flatMap scells).length = l.length * 3 := flat_len scells l (fun _ _ => rfl)
theorem Rd.of_sblk {w : World} {g n size : Nat} {t : TypeId} {cs : List Value} (h : Blk w g t cs) (hl : cs.length = n * size) : Rd w (some ⟨g, 0, none⟩) n size cs :=
  ⟨hl, fun _ => ⟨_, rfl, fun j u hu => by rw [add_lit', Nat.zero_add, h.cell]; exact hu⟩⟩
/-- a row of samples of one's own. -/
abbrev SRow (w : World) (v : Value) (l : List Smp) : Prop := LRow w 89 3 v l.length (l.flatMap scells)

theorem rd_at {w : World} {g n : Nat} {xs : List Value} (h : Rd w (some ⟨g, 0, none⟩) n 3 xs) {i : Nat} (hi : i ≤ n) : Rd w (some ⟨g, i * 3, none⟩) (n - i) 3 (xs.drop (i * 3)) := by
  refine ⟨by rw [List.length_drop, h.1, Nat.sub_mul], fun h0 => ?_⟩
  obtain ⟨ad, he, hc⟩ := h.2 (by omega)
  injection he with he
  subst he
  refine ⟨_, rfl, fun j u hu => ?_⟩
  rw [List.getElem?_drop] at hu
  have := hc _ u hu
  rw [add_lit', Nat.zero_add] at this
  rw [add_lit']; exact this
theorem put_take {α : Type} (a b c : List α) {k : Nat} (h : k = a.length + b.length) : (a ++ b ++ c).take k = a ++ b := by
  subst h; rw [← List.length_append]; exact List.take_left
theorem put_drop {α : Type} (a b c : List α) {k : Nat} (h : k = a.length) : (a ++ b ++ c).drop k = b ++ c := by
  subst h; rw [List.append_assoc]; exact List.drop_left
theorem put_take1 {α : Type} (a b c : List α) {k : Nat} (h : k ≤ a.length) : (a ++ b ++ c).take k = a.take k := by
  rw [List.append_assoc, List.take_append_of_le_length h]
theorem overlaps_no {w : World} {ga gb oa ob la ca lb cb : Nat} {ta tb : TypeId} {ra rb : List Value} (ha : Blk w ga ta ra) (hbk : Blk w gb tb rb) (hne : ga ≠ gb) (hrb : rb ≠ [])
    {K : VWK} {tk : Tok K} (hk : K (.bool false) w) : extK Tryz.prog 87 [.slice (some ⟨ga, oa, none⟩) la ca, .slice (some ⟨gb, ob, none⟩) lb cb] w K tk :=
  extK_overlaps Tryz.func87 (by kernel_rfl) (by kernel_rfl) (by kernel_rfl) (by kernel_rfl) (tS := 62) (tR := 4) (e := 89) (size := 3) (bytes := 24) (by kernel_rfl) ha hbk hne hrb hk
theorem sclone_ok {w : World} {A : Option Addr} {n c : Nat} {l : List Smp} (hR : Rd w A n 3 (l.flatMap scells)) (hn : n ≤ 5864062014634) {R : VWK}
    (h : ∀ w' A' c', SRow w' (.slice A' n c') l → Grow w w' → (∀ k, fpA A' k → w.heap.size ≤ k) → (A' = none ↔ A = none) → R (.slice A' n c') w') :
    CallsV Tryz.prog 22 [.slice A n c] w R := by
  have hl := hR.flat3
  rcases A with _ | ad
  · have h0 : n = 0 := by
      rcases Nat.eq_zero_or_pos n with h0 | h0
      · exact h0
      · obtain ⟨ad, h, _⟩ := hR.2 h0; cases h
    subst h0
    obtain rfl := List.eq_nil_of_length_eq_zero hl
    refine calls_of_wpC mixed Tryz.func22 rfl (by kernel_rfl) ?_
    intro e he
    have he0 := he 0
    simp only [List.getD_cons_zero, List.getD_cons_succ] at he0
    clear he
    try simp -dsimp only [↓RE,↓c_seq,RU,RL,if_true,if_false,forall_const,implies_true,Nat.reduceLeDiff,Nat.reduceLT,pureOp,binPure,intBin,strBin,eqPure,isConstO,unPure,sliceLo,sliceHi,slicePure,slice3Pure,lenPure,capPure,minPure,maxPure,buildP,resK,endV,yieldE,↓reduceIte,Nat.reduceEqDiff,reduceCtorEq,Nat.reduceAdd,Nat.reduceMul,Nat.reduceSub,Int.reduceLT,Int.reduceLE,Int.reduceToNat,Int.reduceAdd,Int.reduceSub,Int.reduceMul,ne_eq,decide_true,decide_false,tf22, he0]
    exact h w none 0 (LRow.nil _ _ _) (Keep.refl _ _) (fun k hk => by obtain ⟨_, h, _⟩ := hk; cases h) Iff.rfl
  refine calls_of_wpC mixed Tryz.func22 rfl (by kernel_rfl) ?_
  intro e he
  have he0 := he 0
  simp only [List.getD_cons_zero, List.getD_cons_succ] at he0
  clear he
  try simp -dsimp only [↓RE,↓c_seq,RU,RL,if_true,if_false,forall_const,implies_true,Nat.reduceLeDiff,Nat.reduceLT,pureOp,binPure,intBin,strBin,eqPure,isConstO,unPure,sliceLo,sliceHi,slicePure,slice3Pure,lenPure,capPure,minPure,maxPure,buildP,resK,endV,yieldE,↓reduceIte,Nat.reduceEqDiff,reduceCtorEq,Nat.reduceAdd,Nat.reduceMul,Nat.reduceSub,Int.reduceLT,Int.reduceLE,Int.reduceToNat,Int.reduceAdd,Int.reduceSub,Int.reduceMul,ne_eq,decide_true,decide_false,tf22, he0]
  have hown := LRow.of_own (own_new w 89 3 0 #[] rfl (by simp [maxLen]))
  have ga := Grow.alloc w (.cells #[] 89)
  refine appK_l (bytes := 24) (by kernel_rfl) hown (hR.grow ga) (scells_one l) (by simp only [maxLen]; omega) (by omega) (fun A' c' w' hL hK hF hN => ?_)
  try simp -dsimp only [↓RE,↓c_seq,RU,RL,if_true,if_false,forall_const,implies_true,Nat.reduceLeDiff,Nat.reduceLT,pureOp,binPure,intBin,strBin,eqPure,isConstO,unPure,sliceLo,sliceHi,slicePure,slice3Pure,lenPure,capPure,minPure,maxPure,buildP,resK,endV,yieldE,↓reduceIte,Nat.reduceEqDiff,reduceCtorEq,Nat.reduceAdd,Nat.reduceMul,Nat.reduceSub,Int.reduceLT,Int.reduceLE,Int.reduceToNat,Int.reduceAdd,Int.reduceSub,Int.reduceMul,ne_eq,decide_true,decide_false,tf22, he0]
  rw [Nat.zero_add] at hL hF
  refine h w' A' c' (by unfold SRow; rw [hl]; simpa using hL) (ga.above hK (fun k hk hf => ?_)) (fun k hk => ?_) ⟨fun h => ?_, fun h => by cases h⟩
  · rw [fpV_some] at hf; simp only at hf; omega
  · rcases hF k ((fpV_fpA _ _ _ _).2 hk) with hf | hf
    · rw [fpV_some] at hf; simp only at hf; omega
    · have := ga.size; omega
  · obtain ⟨_, _, h1⟩ := hN h
    cases h1

end Go.Proofs.YtcnebgokbjpjnaaGreat
