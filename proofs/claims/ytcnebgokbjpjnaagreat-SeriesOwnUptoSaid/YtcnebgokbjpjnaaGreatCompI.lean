/- slices.Compact of int64s. -/
import Derived.Test.YtcnebgokbjpjnaaGreatSortL
import Derived.Test.YtcnebgokbjpjnaaGreatSdel
set_option linter.unusedVariables false
set_option linter.unusedSimpArgs false
set_option maxRecDepth 100000
namespace Go.Proofs.YtcnebgokbjpjnaaGreat
open Go

/-- of like neighbours one. -/
def cptS (acc : List Int) (x : Int) : List Int := if acc.getLast? = some x then acc else acc ++ [x]
def cpt (l : List Int) : List Int := l.foldl cptS []
theorem cpt_snoc (l : List Int) (x : Int) : cpt (l ++ [x]) = cptS (cpt l) x := by rw [cpt, List.foldl_append]; rfl
theorem snoc_ind {p : List Int → Prop} (h0 : p []) (h1 : ∀ l x, p l → p (l ++ [x])) (l : List Int) : p l := by
  have : ∀ n (l : List Int), l.length = n → p l := by
    intro n
    induction n with
    | zero => intro l h; rw [List.eq_nil_of_length_eq_zero h]; exact h0
    | succ n ih =>
      intro l h
      have hne : l ≠ [] := by intro e; rw [e] at h; cases h
      rw [← List.dropLast_concat_getLast hne]
      exact h1 _ _ (ih _ (by rw [List.length_dropLast]; omega))
  exact this _ l rfl
theorem cpt_last (l : List Int) : (cpt l).getLast? = l.getLast? := by
  refine snoc_ind (p := fun l => (cpt l).getLast? = l.getLast?) rfl (fun l x ih => ?_) l
  rw [cpt_snoc, cptS]
  split
  · rename_i h; rw [h, List.getLast?_concat]
  · rw [List.getLast?_concat, List.getLast?_concat]
theorem cpt_len (l : List Int) : (cpt l).length ≤ l.length := by
  refine snoc_ind (p := fun l => (cpt l).length ≤ l.length) (Nat.le_refl _) (fun l x ih => ?_) l
  rw [cpt_snoc, cptS, List.length_append]
  split
  · omega
  · rw [List.length_append]; exact Nat.add_le_add_right ih 1
theorem last_take {l : List Int} {m : Nat} (h0 : 0 < m) (hm : m ≤ l.length) : (l.take m).getLast? = some (l.getD (m - 1) 0) := by
  rw [List.getLast?_eq_getElem?, List.length_take, Nat.min_eq_left hm, List.getElem?_take, if_pos (by omega), List.getElem?_eq_getElem (by omega), List.getD_eq_getElem?_getD, List.getElem?_eq_getElem (by omega)]
  rfl
theorem cpt_step {l : List Int} {m : Nat} (h0 : 0 < m) (hm : m < l.length) : cpt (l.take (m + 1)) = if l.getD (m - 1) 0 = l.getD m 0 then cpt (l.take m) else cpt (l.take m) ++ [l.getD m 0] := by
  rw [take_snoc 0 hm, cpt_snoc, cptS, cpt_last, last_take h0 (by omega)]
  by_cases h : l.getD (m - 1) 0 = l.getD m 0
  · rw [if_pos h, if_pos (by rw [h])]
  · rw [if_neg h, if_neg (fun e => h (by injection e))]
theorem cpt_one {l : List Int} (h : 1 ≤ l.length) : cpt (l.take 1) = l.take 1 := by
  cases l with
  | nil => simp at h
  | cons a l => rfl
theorem irow_get {w : World} {A : Option Addr} {c : Nat} {l : List Int} (h : IRow w (.slice A l.length c) l) {k : Nat} (hk : k < l.length) : ∃ ad, A = some ad ∧ w.cell? (ad.add k) = some (.int .i64 (l.getD k 0)) := h.rd.int hk
theorem compact_ok {w : World} {v : Value} {l : List Int} (hL : IRow w v l) (hn : l.length ≤ 17592186044416) {R : VWK}
    (h : ∀ w' v', IRow w' v' (cpt l) → Keep (fpV v) w w' → (∀ q, fpV v' q → fpV v q) → R v' w') :
    CallsV Tryz.prog 28 [v] w R := by
  rcases Nat.lt_or_ge l.length 2 with h2 | h2
  · have hc : cpt l = l := by
      match l, h2 with
      | [], _ => rfl
      | [a], _ => rfl
    obtain ⟨A, c, rfl, hnc, hA⟩ := hL.form
    have hd : decide ((l.length : Int) < 2) = true := decide_eq_true (by omega)
    refine calls_of_wpC mixed Tryz.func28 rfl (by kernel_rfl) ?_
    intro e he
    have he0 := he 0
    simp only [List.getD_cons_zero, List.getD_cons_succ] at he0
    clear he
    try simp -dsimp only [↓RE,↓c_seq,RU,RL,if_true,if_false,forall_const,implies_true,Nat.reduceLeDiff,Nat.reduceLT,pureOp,binPure,intBin,strBin,eqPure,isConstO,unPure,sliceLo,sliceHi,slicePure,slice3Pure,lenPure,capPure,minPure,maxPure,buildP,resK,endV,yieldE,↓reduceIte,Nat.reduceEqDiff,reduceCtorEq,Nat.reduceAdd,Nat.reduceMul,Nat.reduceSub,Int.reduceLT,Int.reduceLE,Int.reduceToNat,Int.reduceAdd,Int.reduceSub,Int.reduceMul,ne_eq,decide_true,decide_false,tf28, he0, hd]
    exact h w _ (by rw [hc]; exact hL) (Keep.refl _ _) (fun q hq => hq)
  rcases hL.2 with ⟨_, h0⟩ | ⟨g, c, cur, rfl, hg, hnc, hcm, hcc, hct⟩
  · omega
  rw [Nat.mul_one] at hct hcc
  have hlc : l.length ≤ cur.length := by omega
  have hcur : ∀ j, j < l.length → cur[j]? = some (.int .i64 (l.getD j 0)) := fun j hj => by
    have h1 : (cur.take l.length)[j]? = some (.int .i64 (l.getD j 0)) := by
      rw [hct, List.getElem?_map, List.getElem?_eq_getElem hj, List.getD_eq_getElem?_getD, List.getElem?_eq_getElem hj]; rfl
    rwa [List.getElem?_take, if_pos hj] at h1
  have hd : decide ((l.length : Int) < 2) = false := decide_eq_false (by omega)
  refine calls_of_wpC mixed Tryz.func28 rfl (by kernel_rfl) ?_
  intro e he
  have he0 := he 0
  simp only [List.getD_cons_zero, List.getD_cons_succ] at he0
  clear he
  rw [c_seq]
  simp -dsimp only [↓RE,RU,RL,if_true,if_false,forall_const,implies_true,Nat.reduceLeDiff,Nat.reduceLT,pureOp,binPure,intBin,strBin,eqPure,isConstO,unPure,sliceLo,sliceHi,slicePure,slice3Pure,lenPure,capPure,minPure,maxPure,buildP,resK,endV,yieldE,↓reduceIte,Nat.reduceEqDiff,reduceCtorEq,Nat.reduceAdd,Nat.reduceMul,Nat.reduceSub,Int.reduceLT,Int.reduceLE,Int.reduceToNat,Int.reduceAdd,Int.reduceSub,Int.reduceMul,ne_eq,decide_true,decide_false,tf28, he0]
  rw [c_seq, c_seq]
  simp -dsimp only [↓RE,RU,RL,if_true,if_false,forall_const,implies_true,Nat.reduceLeDiff,Nat.reduceLT,pureOp,binPure,intBin,strBin,eqPure,isConstO,unPure,sliceLo,sliceHi,slicePure,slice3Pure,lenPure,capPure,minPure,maxPure,buildP,resK,endV,yieldE,↓reduceIte,Nat.reduceEqDiff,reduceCtorEq,Nat.reduceAdd,Nat.reduceMul,Nat.reduceSub,Int.reduceLT,Int.reduceLE,Int.reduceToNat,Int.reduceAdd,Int.reduceSub,Int.reduceMul,ne_eq,decide_true,decide_false,tf28, he0, hd]
  refine c_seq_cut (fun e' w' => e' 0 = .slice (some ⟨g, 0, none⟩) l.length c ∧ cpt l = l ∧ Grow w w') ?_ ?_
  · rw [c_seq]
    simp -dsimp only [↓RE,RU,RL,if_true,if_false,forall_const,implies_true,Nat.reduceLeDiff,Nat.reduceLT,pureOp,binPure,intBin,strBin,eqPure,isConstO,unPure,sliceLo,sliceHi,slicePure,slice3Pure,lenPure,capPure,minPure,maxPure,buildP,resK,endV,yieldE,↓reduceIte,Nat.reduceEqDiff,reduceCtorEq,Nat.reduceAdd,Nat.reduceMul,Nat.reduceSub,Int.reduceLT,Int.reduceLE,Int.reduceToNat,Int.reduceAdd,Int.reduceSub,Int.reduceMul,ne_eq,decide_true,decide_false,tf28, he0]
    refine wpLoop_intro (fun e' w' => e' 0 = .slice (some ⟨g, 0, none⟩) l.length c ∧ ∃ k : Nat, 1 ≤ k ∧ k ≤ l.length ∧ e' 3 = .int .i64 k ∧ cpt (l.take k) = l.take k ∧ Grow w w')
      (fun e' _ => l.length - (envInt (e' 3)).toNat) ⟨?_, 1, Nat.le_refl _, by omega, ?_, cpt_one (by omega), Keep.refl _ _⟩ ?_
    · simp -dsimp only [↓RE,RU,RL,if_true,if_false,↓reduceIte,Nat.reduceEqDiff,reduceCtorEq,decide_true,decide_false, he0]
    · simp -dsimp only [↓RE,RU,RL,if_true,if_false,↓reduceIte,Nat.reduceEqDiff,reduceCtorEq,decide_true,decide_false, he0, Int.cast_ofNat_Int]
    clear he0
    rintro e' w' ⟨he0, k, hk1, hkn, he3, hck, hgw⟩
    rw [c_seq, c_seq]
    simp -dsimp only [↓RE,RU,RL,if_true,if_false,forall_const,implies_true,Nat.reduceLeDiff,Nat.reduceLT,pureOp,binPure,intBin,strBin,eqPure,isConstO,unPure,sliceLo,sliceHi,slicePure,slice3Pure,lenPure,capPure,minPure,maxPure,buildP,resK,endV,yieldE,↓reduceIte,Nat.reduceEqDiff,reduceCtorEq,Nat.reduceAdd,Nat.reduceMul,Nat.reduceSub,Int.reduceLT,Int.reduceLE,Int.reduceToNat,Int.reduceAdd,Int.reduceSub,Int.reduceMul,ne_eq,decide_true,decide_false,tf28, he0, he3]
    refine ⟨fun hlt => ?_, fun hge => ?_⟩
    · have hkl : k < l.length := by omega
      have hk0 : IntKind.i64.wrap ((k : Int) - 1) = ((k - 1 : Nat) : Int) := by rw [wrap_i64_in (by omega) (by omega)]; omega
      have hw1 : IntKind.i64.wrap ((k : Int) + 1) = ((k + 1 : Nat) : Int) := by rw [wrap_i64_in (by omega) (by omega)]; omega
      have ha : w'.drew.cell? ⟨g, k, none⟩ = some (.int .i64 (l.getD k 0)) := ((hg.grow hgw).drew.cell k).trans (hcur k hkl)
      have hb : w'.drew.cell? ⟨g, k - 1, none⟩ = some (.int .i64 (l.getD (k - 1) 0)) := ((hg.grow hgw).drew.cell (k - 1)).trans (hcur (k - 1) (by omega))
      have hst := cpt_step (l := l) (m := k) (by omega) hkl
      rw [c_seq]
      simp -dsimp only [↓RE,RU,RL,if_true,if_false,forall_const,implies_true,Nat.reduceLeDiff,Nat.reduceLT,pureOp,binPure,intBin,strBin,eqPure,isConstO,unPure,sliceLo,sliceHi,slicePure,slice3Pure,lenPure,capPure,minPure,maxPure,buildP,resK,endV,yieldE,↓reduceIte,Nat.reduceEqDiff,reduceCtorEq,Nat.reduceAdd,Nat.reduceMul,Nat.reduceSub,Int.reduceLT,Int.reduceLE,Int.reduceToNat,Int.reduceAdd,Int.reduceSub,Int.reduceMul,ne_eq,decide_true,decide_false,tf28, he0]
      rw [c_seq]
      simp -dsimp only [↓RE,RU,RL,if_true,if_false,forall_const,implies_true,Nat.reduceLeDiff,Nat.reduceLT,pureOp,binPure,intBin,strBin,eqPure,isConstO,unPure,sliceLo,sliceHi,slicePure,slice3Pure,lenPure,capPure,minPure,maxPure,buildP,resK,endV,yieldE,↓reduceIte,Nat.reduceEqDiff,reduceCtorEq,Nat.reduceAdd,Nat.reduceMul,Nat.reduceSub,Int.reduceLT,Int.reduceLE,Int.reduceToNat,Int.reduceAdd,Int.reduceSub,Int.reduceMul,ne_eq,decide_true,decide_false,tf28, he0]
      refine wpDraw_still (by kernel_rfl) ?_
      simp -dsimp only [↓RE,RU,RL,if_true,if_false,forall_const,implies_true,Nat.reduceLeDiff,Nat.reduceLT,pureOp,binPure,intBin,strBin,eqPure,isConstO,unPure,sliceLo,sliceHi,slicePure,slice3Pure,lenPure,capPure,minPure,maxPure,buildP,resK,endV,yieldE,↓reduceIte,Nat.reduceEqDiff,reduceCtorEq,Nat.reduceAdd,Nat.reduceMul,Nat.reduceSub,Int.reduceLT,Int.reduceLE,Int.reduceToNat,Int.reduceAdd,Int.reduceSub,Int.reduceMul,ne_eq,decide_true,decide_false,tf28, he0, he3, hk0, add_lit', Nat.zero_add, ha, hb, Nat.mul_one]
      refine ⟨by omega, by omega, fun hq => ?_, fun hq => ?_⟩
      · rw [if_pos hq.symm, hck] at hst
        have hck' : (c = k) = False := eq_false (by omega)
        have hgd : Blk w'.drew g 2 cur := (hg.grow hgw).drew
        rw [c_seq]
        simp -dsimp only [↓RE,RU,RL,if_true,if_false,forall_const,implies_true,Nat.reduceLeDiff,Nat.reduceLT,pureOp,binPure,intBin,strBin,eqPure,isConstO,unPure,sliceLo,sliceHi,slicePure,slice3Pure,lenPure,capPure,minPure,maxPure,buildP,resK,endV,yieldE,↓reduceIte,Nat.reduceEqDiff,reduceCtorEq,Nat.reduceAdd,Nat.reduceMul,Nat.reduceSub,Int.reduceLT,Int.reduceLE,Int.reduceToNat,Int.reduceAdd,Int.reduceSub,Int.reduceMul,ne_eq,decide_true,decide_false,tf28, he0, he3, hck', add_lit', Nat.zero_add, Nat.mul_one, Option.map_some]
        refine ⟨by omega, ?_⟩
        refine c_seq_cut (fun e' w2 => e' 0 = .slice (some ⟨g, 0, none⟩) l.length c ∧ e' 3 = .int .i64 ((cpt l).length : Nat) ∧ (cpt l).length < l.length ∧ Blk w2 g 2 ((cpt l).map (Value.int .i64) ++ cur.drop (cpt l).length) ∧ Keep (fun q => q = g) w w2) ?_ ?_
        · rw [c_seq]
          simp -dsimp only [↓RE,RU,RL,if_true,if_false,forall_const,implies_true,Nat.reduceLeDiff,Nat.reduceLT,pureOp,binPure,intBin,strBin,eqPure,isConstO,unPure,sliceLo,sliceHi,slicePure,slice3Pure,lenPure,capPure,minPure,maxPure,buildP,resK,endV,yieldE,↓reduceIte,Nat.reduceEqDiff,reduceCtorEq,Nat.reduceAdd,Nat.reduceMul,Nat.reduceSub,Int.reduceLT,Int.reduceLE,Int.reduceToNat,Int.reduceAdd,Int.reduceSub,Int.reduceMul,ne_eq,decide_true,decide_false,tf28, he0]
          refine wpLoop_intro (fun e' w2 => e' 0 = .slice (some ⟨g, 0, none⟩) l.length c ∧ e' 4 = .slice (some ⟨g, k, none⟩) (l.length - k) (c - k) ∧ ∃ j : Nat, 1 ≤ j ∧ k + j ≤ l.length ∧ e' 5 = .int .i64 j ∧ e' 3 = .int .i64 ((cpt (l.take (k + j))).length : Nat) ∧ (cpt (l.take (k + j))).length ≤ k + j - 1 ∧
              Blk w2 g 2 ((cpt (l.take (k + j))).map (Value.int .i64) ++ cur.drop (cpt (l.take (k + j))).length) ∧ Keep (fun q => q = g) w w2)
            (fun e' _ => l.length - (envInt (e' 5)).toNat) ⟨?_, ?_, 1, Nat.le_refl _, by omega, ?_, ?_, ?_, ?_, (hgw.trans (Grow.drew w')).mono (fun _ _ h => h.elim)⟩ ?_
          · simp -dsimp only [↓RE,RU,RL,if_true,if_false,↓reduceIte,Nat.reduceEqDiff,reduceCtorEq,decide_true,decide_false, he0]
          · simp -dsimp only [↓RE,RU,RL,if_true,if_false,↓reduceIte,Nat.reduceEqDiff,reduceCtorEq,decide_true,decide_false, he0]
          · simp -dsimp only [↓RE,RU,RL,if_true,if_false,↓reduceIte,Nat.reduceEqDiff,reduceCtorEq,decide_true,decide_false, he0, Int.cast_ofNat_Int]
          · rw [hst, List.length_take, Nat.min_eq_left (by omega)]
            simp -dsimp only [↓RE,↓c_seq,RU,RL,if_true,if_false,forall_const,implies_true,Nat.reduceLeDiff,Nat.reduceLT,pureOp,binPure,intBin,strBin,eqPure,isConstO,unPure,sliceLo,sliceHi,slicePure,slice3Pure,lenPure,capPure,minPure,maxPure,buildP,resK,endV,yieldE,↓reduceIte,Nat.reduceEqDiff,reduceCtorEq,Nat.reduceAdd,Nat.reduceMul,Nat.reduceSub,Int.reduceLT,Int.reduceLE,Int.reduceToNat,Int.reduceAdd,Int.reduceSub,Int.reduceMul,ne_eq,decide_true,decide_false,tf28, he3]
          · rw [hst, List.length_take]; omega
          · rw [hst, List.length_take, Nat.min_eq_left (by omega)]
            have e1 : (l.take k).map (Value.int .i64) = cur.take k := by
              rw [List.map_take, ← hct, List.take_take, Nat.min_eq_left (by omega)]
            rw [e1, List.take_append_drop]
            exact hgd
          clear he0 he3
          rintro e w2 ⟨he0, he4, j, hj1, hjn, he5, he3, hkl2, hB, hK⟩
          generalize hm : (cpt (l.take (k + j))).length = m at he3 hkl2 hB
          rw [c_seq, c_seq]
          simp -dsimp only [↓RE,RU,RL,if_true,if_false,forall_const,implies_true,Nat.reduceLeDiff,Nat.reduceLT,pureOp,binPure,intBin,strBin,eqPure,isConstO,unPure,sliceLo,sliceHi,slicePure,slice3Pure,lenPure,capPure,minPure,maxPure,buildP,resK,endV,yieldE,↓reduceIte,Nat.reduceEqDiff,reduceCtorEq,Nat.reduceAdd,Nat.reduceMul,Nat.reduceSub,Int.reduceLT,Int.reduceLE,Int.reduceToNat,Int.reduceAdd,Int.reduceSub,Int.reduceMul,ne_eq,decide_true,decide_false,tf28, he4, he5]
          refine ⟨fun hlt2 => ?_, fun hge2 => ?_⟩
          · have hjl : k + j < l.length := by omega
            have hj0 : IntKind.i64.wrap ((j : Int) - 1) = ((j - 1 : Nat) : Int) := by rw [wrap_i64_in (by omega) (by omega)]; omega
            have hj2 : IntKind.i64.wrap ((j : Int) + 1) = ((j + 1 : Nat) : Int) := by rw [wrap_i64_in (by omega) (by omega)]; omega
            have hm2 : IntKind.i64.wrap ((m : Int) + 1) = ((m + 1 : Nat) : Int) := by rw [wrap_i64_in (by omega) (by omega)]; omega
            have hat : ∀ q, m ≤ q → q < l.length → w2.drew.cell? ⟨g, q, none⟩ = some (.int .i64 (l.getD q 0)) := fun q h1 h2 => by
              rw [hB.drew.cell, List.getElem?_append_right (by rw [List.length_map]; omega), List.length_map, hm, List.getElem?_drop, show m + (q - m) = q by omega]
              exact hcur q h2
            have ha2 := hat (k + j) (by omega) hjl
            have hb2 := hat (k + (j - 1)) (by omega) (by omega)
            have hst2 := cpt_step (l := l) (m := k + j) (by omega) hjl
            rw [show k + j - 1 = k + (j - 1) by omega] at hst2
            rw [c_seq]
            simp -dsimp only [↓RE,RU,RL,if_true,if_false,forall_const,implies_true,Nat.reduceLeDiff,Nat.reduceLT,pureOp,binPure,intBin,strBin,eqPure,isConstO,unPure,sliceLo,sliceHi,slicePure,slice3Pure,lenPure,capPure,minPure,maxPure,buildP,resK,endV,yieldE,↓reduceIte,Nat.reduceEqDiff,reduceCtorEq,Nat.reduceAdd,Nat.reduceMul,Nat.reduceSub,Int.reduceLT,Int.reduceLE,Int.reduceToNat,Int.reduceAdd,Int.reduceSub,Int.reduceMul,ne_eq,decide_true,decide_false,tf28, he0]
            rw [c_seq]
            simp -dsimp only [↓RE,RU,RL,if_true,if_false,forall_const,implies_true,Nat.reduceLeDiff,Nat.reduceLT,pureOp,binPure,intBin,strBin,eqPure,isConstO,unPure,sliceLo,sliceHi,slicePure,slice3Pure,lenPure,capPure,minPure,maxPure,buildP,resK,endV,yieldE,↓reduceIte,Nat.reduceEqDiff,reduceCtorEq,Nat.reduceAdd,Nat.reduceMul,Nat.reduceSub,Int.reduceLT,Int.reduceLE,Int.reduceToNat,Int.reduceAdd,Int.reduceSub,Int.reduceMul,ne_eq,decide_true,decide_false,tf28, he0]
            refine wpDraw_still (by kernel_rfl) ?_
            simp -dsimp only [↓RE,RU,RL,if_true,if_false,forall_const,implies_true,Nat.reduceLeDiff,Nat.reduceLT,pureOp,binPure,intBin,strBin,eqPure,isConstO,unPure,sliceLo,sliceHi,slicePure,slice3Pure,lenPure,capPure,minPure,maxPure,buildP,resK,endV,yieldE,↓reduceIte,Nat.reduceEqDiff,reduceCtorEq,Nat.reduceAdd,Nat.reduceMul,Nat.reduceSub,Int.reduceLT,Int.reduceLE,Int.reduceToNat,Int.reduceAdd,Int.reduceSub,Int.reduceMul,ne_eq,decide_true,decide_false,tf28, he4, he5, hj0, add_lit', Nat.zero_add, ha2, hb2, Nat.mul_one]
            refine ⟨by omega, by omega, ?_⟩
            by_cases hq2 : l.getD (k + j) 0 = l.getD (k + (j - 1)) 0
            · rw [if_pos hq2.symm] at hst2
              refine ⟨fun hn2 => absurd hq2 hn2, fun _ => ?_⟩
              try simp -dsimp only [↓RE,↓c_seq,RU,RL,if_true,if_false,forall_const,implies_true,Nat.reduceLeDiff,Nat.reduceLT,pureOp,binPure,intBin,strBin,eqPure,isConstO,unPure,sliceLo,sliceHi,slicePure,slice3Pure,lenPure,capPure,minPure,maxPure,buildP,resK,endV,yieldE,↓reduceIte,Nat.reduceEqDiff,reduceCtorEq,Nat.reduceAdd,Nat.reduceMul,Nat.reduceSub,Int.reduceLT,Int.reduceLE,Int.reduceToNat,Int.reduceAdd,Int.reduceSub,Int.reduceMul,ne_eq,decide_true,decide_false,tf28, he5, hj2]
              refine hold_intro ⟨⟨by simp -dsimp only [↓RE,RU,RL,if_true,if_false,↓reduceIte,Nat.reduceEqDiff,reduceCtorEq,decide_true,decide_false, he0], by simp -dsimp only [↓RE,RU,RL,if_true,if_false,↓reduceIte,Nat.reduceEqDiff,reduceCtorEq,decide_true,decide_false, he4], j + 1, by omega, by omega, by simp -dsimp only [↓RE,RU,RL,if_true,if_false,↓reduceIte,Nat.reduceEqDiff,reduceCtorEq,decide_true,decide_false, he5, hj2], ?_, ?_, ?_, hK.then_grow (Grow.drew w2)⟩, ?_⟩
              · rw [show k + (j + 1) = k + j + 1 by omega, hst2, hm]
                simp -dsimp only [↓RE,↓c_seq,RU,RL,if_true,if_false,forall_const,implies_true,Nat.reduceLeDiff,Nat.reduceLT,pureOp,binPure,intBin,strBin,eqPure,isConstO,unPure,sliceLo,sliceHi,slicePure,slice3Pure,lenPure,capPure,minPure,maxPure,buildP,resK,endV,yieldE,↓reduceIte,Nat.reduceEqDiff,reduceCtorEq,Nat.reduceAdd,Nat.reduceMul,Nat.reduceSub,Int.reduceLT,Int.reduceLE,Int.reduceToNat,Int.reduceAdd,Int.reduceSub,Int.reduceMul,ne_eq,decide_true,decide_false,tf28, he3]
              · rw [show k + (j + 1) = k + j + 1 by omega, hst2, hm]; omega
              · rw [show k + (j + 1) = k + j + 1 by omega, hst2, hm]; exact hB.drew
              · simp -dsimp only [↓RE,RU,RL,if_true,if_false,↓reduceIte,Nat.reduceEqDiff,reduceCtorEq,decide_true,decide_false, he5, hj2]
                simp only [envInt_int]; omega
            · rw [if_neg (fun e => hq2 e.symm)] at hst2
              refine ⟨fun _ => ?_, fun hn2 => absurd hn2 (fun e => hq2 (by first | exact e | exact Classical.not_not.1 e))⟩
              have hBd := hB.drew
              rw [c_seq]
              simp -dsimp only [↓RE,RU,RL,if_true,if_false,forall_const,implies_true,Nat.reduceLeDiff,Nat.reduceLT,pureOp,binPure,intBin,strBin,eqPure,isConstO,unPure,sliceLo,sliceHi,slicePure,slice3Pure,lenPure,capPure,minPure,maxPure,buildP,resK,endV,yieldE,↓reduceIte,Nat.reduceEqDiff,reduceCtorEq,Nat.reduceAdd,Nat.reduceMul,Nat.reduceSub,Int.reduceLT,Int.reduceLE,Int.reduceToNat,Int.reduceAdd,Int.reduceSub,Int.reduceMul,ne_eq,decide_true,decide_false,tf28, he0, he3, he4, he5, add_lit', Nat.zero_add, ha2, Nat.mul_one]
              refine ⟨by omega, by omega, ?_⟩
              have hlen2 : m < ((cpt (l.take (k + j))).map (Value.int .i64) ++ cur.drop m).length := by rw [List.length_append, List.length_map, hm, List.length_drop]; omega
              refine hBd.st (i := m) hlen2 ?_
              have hB3 := hBd.set m (.int .i64 (l.getD (k + j) 0))
              have k3 := Keep.set1 w2.drew g m (.int .i64 (l.getD (k + j) 0))
              have e3 : ((cpt (l.take (k + j))).map (Value.int .i64) ++ cur.drop m).set m (.int .i64 (l.getD (k + j) 0)) = (cpt (l.take (k + j)) ++ [l.getD (k + j) 0]).map (Value.int .i64) ++ cur.drop (m + 1) := by
                rw [List.set_append_right _ _ (by rw [List.length_map]; omega), List.length_map, hm, Nat.sub_self, List.drop_eq_getElem_cons (show m < cur.length by omega), List.set_cons_zero, List.map_append, List.append_assoc]
                rfl
              rw [e3] at hB3
              try simp -dsimp only [↓RE,↓c_seq,RU,RL,if_true,if_false,forall_const,implies_true,Nat.reduceLeDiff,Nat.reduceLT,pureOp,binPure,intBin,strBin,eqPure,isConstO,unPure,sliceLo,sliceHi,slicePure,slice3Pure,lenPure,capPure,minPure,maxPure,buildP,resK,endV,yieldE,↓reduceIte,Nat.reduceEqDiff,reduceCtorEq,Nat.reduceAdd,Nat.reduceMul,Nat.reduceSub,Int.reduceLT,Int.reduceLE,Int.reduceToNat,Int.reduceAdd,Int.reduceSub,Int.reduceMul,ne_eq,decide_true,decide_false,tf28, he3, he5, hj2, hm2]
              refine hold_intro ⟨⟨by simp -dsimp only [↓RE,RU,RL,if_true,if_false,↓reduceIte,Nat.reduceEqDiff,reduceCtorEq,decide_true,decide_false, he0], by simp -dsimp only [↓RE,RU,RL,if_true,if_false,↓reduceIte,Nat.reduceEqDiff,reduceCtorEq,decide_true,decide_false, he4], j + 1, by omega, by omega, by simp -dsimp only [↓RE,RU,RL,if_true,if_false,↓reduceIte,Nat.reduceEqDiff,reduceCtorEq,decide_true,decide_false, he5, hj2], ?_, ?_, ?_, (hK.then_grow (Grow.drew w2)).trans k3 (fun _ _ h => h) (fun _ _ h => h)⟩, ?_⟩
              · rw [show k + (j + 1) = k + j + 1 by omega, hst2, List.length_append, hm]
                simp -dsimp only [↓RE,↓c_seq,RU,RL,if_true,if_false,forall_const,implies_true,Nat.reduceLeDiff,Nat.reduceLT,pureOp,binPure,intBin,strBin,eqPure,isConstO,unPure,sliceLo,sliceHi,slicePure,slice3Pure,lenPure,capPure,minPure,maxPure,buildP,resK,endV,yieldE,↓reduceIte,Nat.reduceEqDiff,reduceCtorEq,Nat.reduceAdd,Nat.reduceMul,Nat.reduceSub,Int.reduceLT,Int.reduceLE,Int.reduceToNat,Int.reduceAdd,Int.reduceSub,Int.reduceMul,ne_eq,decide_true,decide_false,tf28, he3, hm2]
              · rw [show k + (j + 1) = k + j + 1 by omega, hst2, List.length_append, hm]; simp only [List.length_cons, List.length_nil]; omega
              · rw [show k + (j + 1) = k + j + 1 by omega, hst2, List.length_append, hm]; exact hB3
              · simp -dsimp only [↓RE,RU,RL,if_true,if_false,↓reduceIte,Nat.reduceEqDiff,reduceCtorEq,decide_true,decide_false, he5, hj2]
                simp only [envInt_int]; omega
          · have hjn2 : k + j = l.length := by omega
            rw [hjn2, List.take_length] at hm
            rw [hjn2, List.take_length] at hB
            rw [← hm] at he3 hB hkl2
            refine hold_intro ⟨by simp -dsimp only [↓RE,RU,RL,if_true,if_false,↓reduceIte,Nat.reduceEqDiff,reduceCtorEq,decide_true,decide_false, he0], by simp -dsimp only [↓RE,RU,RL,if_true,if_false,↓reduceIte,Nat.reduceEqDiff,reduceCtorEq,decide_true,decide_false, he3], by omega, hB, hK⟩
        · clear he0 he3
          rintro e w2 ⟨he0, he3, hlt2, hB, hK⟩
          have hcm2 : (c = (cpt l).length) = False := eq_false (by omega)
          rw [c_seq]
          simp -dsimp only [↓RE,RU,RL,if_true,if_false,forall_const,implies_true,Nat.reduceLeDiff,Nat.reduceLT,pureOp,binPure,intBin,strBin,eqPure,isConstO,unPure,sliceLo,sliceHi,slicePure,slice3Pure,lenPure,capPure,minPure,maxPure,buildP,resK,endV,yieldE,↓reduceIte,Nat.reduceEqDiff,reduceCtorEq,Nat.reduceAdd,Nat.reduceMul,Nat.reduceSub,Int.reduceLT,Int.reduceLE,Int.reduceToNat,Int.reduceAdd,Int.reduceSub,Int.reduceMul,ne_eq,decide_true,decide_false,tf28, he0, he3, hcm2, add_lit', Nat.zero_add, Nat.mul_one, Option.map_some]
          have hbl : ((cpt l).map (Value.int .i64) ++ cur.drop (cpt l).length).length = cur.length := by rw [List.length_append, List.length_map, List.length_drop]; omega
          refine ⟨by omega, genK_clear rfl (t := 72) (e := 2) (size := 1) (bytes := 8) (by kernel_rfl) (zero_one (by kernel_rfl)) (g := g) (off := (cpt l).length) (dl := l.length - (cpt l).length) (dc := c - (cpt l).length) (by simp -dsimp only [↓RE,RU,RL,if_true,if_false,↓reduceIte,Nat.reduceEqDiff,reduceCtorEq,decide_true,decide_false, he0, he3, hcm2, add_lit', Nat.zero_add, Nat.mul_one, Option.map_some]) hB (by rw [hbl]; omega) (fun zs w3 hz hB3 hK3 => ?_)⟩
          try simp -dsimp only [↓RE,↓c_seq,RU,RL,if_true,if_false,forall_const,implies_true,Nat.reduceLeDiff,Nat.reduceLT,pureOp,binPure,intBin,strBin,eqPure,isConstO,unPure,sliceLo,sliceHi,slicePure,slice3Pure,lenPure,capPure,minPure,maxPure,buildP,resK,endV,yieldE,↓reduceIte,Nat.reduceEqDiff,reduceCtorEq,Nat.reduceAdd,Nat.reduceMul,Nat.reduceSub,Int.reduceLT,Int.reduceLE,Int.reduceToNat,Int.reduceAdd,Int.reduceSub,Int.reduceMul,ne_eq,decide_true,decide_false,tf28, he0, he3, add_zero', Nat.sub_zero, ite_self, Option.map_some]
          refine ⟨by omega, ?_⟩
          try simp -dsimp only [↓RE,↓c_seq,RU,RL,if_true,if_false,forall_const,implies_true,Nat.reduceLeDiff,Nat.reduceLT,pureOp,binPure,intBin,strBin,eqPure,isConstO,unPure,sliceLo,sliceHi,slicePure,slice3Pure,lenPure,capPure,minPure,maxPure,buildP,resK,endV,yieldE,↓reduceIte,Nat.reduceEqDiff,reduceCtorEq,Nat.reduceAdd,Nat.reduceMul,Nat.reduceSub,Int.reduceLT,Int.reduceLE,Int.reduceToNat,Int.reduceAdd,Int.reduceSub,Int.reduceMul,ne_eq,decide_true,decide_false,tf28, he0, he3, add_zero', Nat.sub_zero, ite_self, Option.map_some]
          refine h w3 _ ⟨by simp, .inr ⟨g, c, _, rfl, hB3, by omega, hcm, ?_, ?_⟩⟩ ((hK.trans hK3 (fun _ _ h => h) (fun _ _ h => h)).mono (fun q _ hq => (fpV_some _ _ _ _).2 hq)) (fun q hq => by rw [fpV_some] at hq ⊢; exact hq)
          · rw [List.length_append, List.length_append, List.length_take, List.length_drop, hbl, hz]; omega
          · rw [Nat.mul_one, List.append_assoc]
            refine (List.take_left' (by rw [List.length_take, hbl]; omega)).trans ?_
            exact List.take_left' (by rw [List.length_map])
      · rw [if_neg (fun e => hq e.symm), hck, ← take_snoc 0 hkl] at hst
        try simp -dsimp only [↓RE,↓c_seq,RU,RL,if_true,if_false,forall_const,implies_true,Nat.reduceLeDiff,Nat.reduceLT,pureOp,binPure,intBin,strBin,eqPure,isConstO,unPure,sliceLo,sliceHi,slicePure,slice3Pure,lenPure,capPure,minPure,maxPure,buildP,resK,endV,yieldE,↓reduceIte,Nat.reduceEqDiff,reduceCtorEq,Nat.reduceAdd,Nat.reduceMul,Nat.reduceSub,Int.reduceLT,Int.reduceLE,Int.reduceToNat,Int.reduceAdd,Int.reduceSub,Int.reduceMul,ne_eq,decide_true,decide_false,tf28, he3, hw1]
        refine hold_intro ⟨⟨by simp -dsimp only [↓RE,RU,RL,if_true,if_false,↓reduceIte,Nat.reduceEqDiff,reduceCtorEq,decide_true,decide_false, he0], k + 1, by omega, by omega, by simp -dsimp only [↓RE,RU,RL,if_true,if_false,↓reduceIte,Nat.reduceEqDiff,reduceCtorEq,decide_true,decide_false, he3, hw1], hst, hgw.trans (Grow.drew w')⟩, ?_⟩
        simp -dsimp only [↓RE,↓c_seq,RU,RL,if_true,if_false,forall_const,implies_true,Nat.reduceLeDiff,Nat.reduceLT,pureOp,binPure,intBin,strBin,eqPure,isConstO,unPure,sliceLo,sliceHi,slicePure,slice3Pure,lenPure,capPure,minPure,maxPure,buildP,resK,endV,yieldE,↓reduceIte,Nat.reduceEqDiff,reduceCtorEq,Nat.reduceAdd,Nat.reduceMul,Nat.reduceSub,Int.reduceLT,Int.reduceLE,Int.reduceToNat,Int.reduceAdd,Int.reduceSub,Int.reduceMul,ne_eq,decide_true,decide_false,tf28, he3, hw1]
        simp only [envInt_int]; omega
    · obtain rfl : k = l.length := by omega
      rw [List.take_length] at hck
      exact hold_intro ⟨by simp -dsimp only [↓RE,RU,RL,if_true,if_false,↓reduceIte,Nat.reduceEqDiff,reduceCtorEq,decide_true,decide_false, he0], hck, hgw⟩
  · clear he0
    rintro e w' ⟨he0, hck, hgw⟩
    rw [c_seq]
    simp -dsimp only [↓RE,RU,RL,if_true,if_false,forall_const,implies_true,Nat.reduceLeDiff,Nat.reduceLT,pureOp,binPure,intBin,strBin,eqPure,isConstO,unPure,sliceLo,sliceHi,slicePure,slice3Pure,lenPure,capPure,minPure,maxPure,buildP,resK,endV,yieldE,↓reduceIte,Nat.reduceEqDiff,reduceCtorEq,Nat.reduceAdd,Nat.reduceMul,Nat.reduceSub,Int.reduceLT,Int.reduceLE,Int.reduceToNat,Int.reduceAdd,Int.reduceSub,Int.reduceMul,ne_eq,decide_true,decide_false,tf28, he0]
    exact h w' _ (by rw [hck]; exact hL.grow hgw) (hgw.mono (fun _ _ h => h.elim)) (fun q hq => hq)

end Go.Proofs.YtcnebgokbjpjnaaGreat
