/- slices.Delete of one sample. -/
import Derived.Test.YtcnebgokbjpjnaaGreatSer
set_option linter.unusedVariables false
set_option linter.unusedSimpArgs false
set_option maxRecDepth 100000
namespace Go.Proofs.YtcnebgokbjpjnaaGreat
open Go

/-- the zero of an element is of cells. -/
def zeroOneB (P : Program) (e : TypeId) : Bool := match P.info? e with
  | some i => (match i.zero with | some z => z.cells.toList.all (·.oneCell') | none => false)
  | none => false
theorem zero_one {P : Program} {t e : TypeId} {size bytes : Nat} (h : zeroOneB P e = true) : ∀ z, elemFacts P t e size bytes z → ∀ u ∈ z.cells.toList, u.oneCell' = true := by
  rintro z ⟨_, ⟨i, hi, hz, _, _⟩, _, _⟩ u hu
  simp only [zeroOneB, hi, hz, List.all_eq_true] at h
  exact h u hu
theorem del_cells {l : List Smp} {i : Nat} (hi : i < l.length) {cur zs : List Value} (hct : cur.take (l.length * 3) = l.flatMap scells) {c1 : List Value} {m : Nat} (hm : m = l.length - (i + 1)) {o : Nat} (ho : o = (l.length - 1) * 3)
    (h1 : c1 = cur.take (i * 3) ++ (l.drop (i + 1)).flatMap scells ++ cur.drop (i * 3 + ((l.drop (i + 1)).flatMap scells).length)) (r : List Value) :
    (c1.take o ++ zs ++ r).take ((l.take i ++ l.drop (i + 1)).length * 3) = (l.take i ++ l.drop (i + 1)).flatMap scells := by
  have hA : ((l.take i).flatMap scells).length = i * 3 := by rw [flat_length, List.length_take]; omega
  have hD : ((l.drop (i + 1)).flatMap scells).length = (l.length - (i + 1)) * 3 := by rw [flat_length, List.length_drop]
  have hn : (l.take i ++ l.drop (i + 1)).length = l.length - 1 := by rw [List.length_append, List.length_take, List.length_drop]; omega
  have e1 : cur.take (i * 3) = (l.take i).flatMap scells := by
    rw [flat_take, ← hct, List.take_take, Nat.min_eq_left (show i * 3 ≤ l.length * 3 by omega)]
  rw [e1] at h1
  have e2 : c1.take o = (l.take i).flatMap scells ++ (l.drop (i + 1)).flatMap scells := by
    rw [h1]; exact List.take_left' (by rw [List.length_append, hA, hD]; omega)
  rw [e2, List.append_assoc _ zs, List.flatMap_append, hn]
  exact List.take_left' (by rw [List.length_append, hA, hD]; omega)
theorem sdel_ok {w : World} {v : Value} {l : List Smp} (hL : SRow w v l) {i : Nat} (hi : i < l.length) (hn : l.length < 5864062014634) {R : VWK}
    (h : ∀ w' v', SRow w' v' (l.take i ++ l.drop (i + 1)) → Keep (fpV v) w w' → (∀ k, fpV v' k → fpV v k) → R v' w') :
    CallsV Tryz.prog 79 [v, .int .i64 i, .int .i64 ((i + 1 : Nat) : Int)] w R := by
  have hl3 := flat_length l
  rcases hL.2 with ⟨_, h0⟩ | ⟨g, c, cur, rfl, hg, hnc, hcm, hcc, hct⟩
  · omega
  have hR0 := hL.rd
  have hd2 : decide ((i : Int) = ((i + 1 : Nat) : Int)) = false := decide_eq_false (by omega)
  have hs1 : i + (l.length - (i + 1)) = l.length - 1 := by omega
  have hic2 : (c = l.length - 1) = False := eq_false (by omega)
  have hcc3 : l.length * 3 ≤ cur.length := by omega
  obtain ⟨ad, hif, hRd⟩ : ∃ ad, (if c = i + 1 then (some (⟨g, 0, none⟩ : Addr) : Option Addr) else some ⟨g, (i + 1) * 3, none⟩) = some ad ∧ Rd w (some ad) (l.length - (i + 1)) 3 ((l.drop (i + 1)).flatMap scells) := by
    by_cases hc : c = i + 1
    · refine ⟨⟨g, 0, none⟩, if_pos hc, ?_⟩
      have h0 : l.length - (i + 1) = 0 := by omega
      rw [h0, List.drop_of_length_le (by omega)]
      exact Rd.nil _ _ _
    · refine ⟨⟨g, (i + 1) * 3, none⟩, if_neg hc, ?_⟩
      rw [flat_drop]
      exact rd_at hR0 hi
  refine calls_of_wpC mixed Tryz.func79 rfl (by kernel_rfl) ?_
  intro e he
  have he0 := he 0
  have he1 := he 1
  have he2 := he 2
  simp only [List.getD_cons_zero, List.getD_cons_succ] at he0 he1 he2
  clear he
  rw [c_seq]
  simp -dsimp only [↓RE,RU,RL,if_true,if_false,forall_const,implies_true,Nat.reduceLeDiff,Nat.reduceLT,pureOp,binPure,intBin,strBin,eqPure,isConstO,unPure,sliceLo,sliceHi,slicePure,slice3Pure,lenPure,capPure,minPure,maxPure,buildP,resK,endV,yieldE,↓reduceIte,Nat.reduceEqDiff,reduceCtorEq,Nat.reduceAdd,Nat.reduceMul,Nat.reduceSub,Int.reduceLT,Int.reduceLE,Int.reduceToNat,Int.reduceAdd,Int.reduceSub,Int.reduceMul,ne_eq,decide_true,decide_false,tf79, he0]
  rw [c_seq]
  simp -dsimp only [↓RE,RU,RL,if_true,if_false,forall_const,implies_true,Nat.reduceLeDiff,Nat.reduceLT,pureOp,binPure,intBin,strBin,eqPure,isConstO,unPure,sliceLo,sliceHi,slicePure,slice3Pure,lenPure,capPure,minPure,maxPure,buildP,resK,endV,yieldE,↓reduceIte,Nat.reduceEqDiff,reduceCtorEq,Nat.reduceAdd,Nat.reduceMul,Nat.reduceSub,Int.reduceLT,Int.reduceLE,Int.reduceToNat,Int.reduceAdd,Int.reduceSub,Int.reduceMul,ne_eq,decide_true,decide_false,tf79, he0, he1, he2]
  refine ⟨by omega, ?_⟩
  rw [c_seq, c_seq]
  simp -dsimp only [↓RE,RU,RL,if_true,if_false,forall_const,implies_true,Nat.reduceLeDiff,Nat.reduceLT,pureOp,binPure,intBin,strBin,eqPure,isConstO,unPure,sliceLo,sliceHi,slicePure,slice3Pure,lenPure,capPure,minPure,maxPure,buildP,resK,endV,yieldE,↓reduceIte,Nat.reduceEqDiff,reduceCtorEq,Nat.reduceAdd,Nat.reduceMul,Nat.reduceSub,Int.reduceLT,Int.reduceLE,Int.reduceToNat,Int.reduceAdd,Int.reduceSub,Int.reduceMul,ne_eq,decide_true,decide_false,tf79, he0, he1, he2, hd2]
  rw [c_seq]
  simp -dsimp only [↓RE,RU,RL,if_true,if_false,forall_const,implies_true,Nat.reduceLeDiff,Nat.reduceLT,pureOp,binPure,intBin,strBin,eqPure,isConstO,unPure,sliceLo,sliceHi,slicePure,slice3Pure,lenPure,capPure,minPure,maxPure,buildP,resK,endV,yieldE,↓reduceIte,Nat.reduceEqDiff,reduceCtorEq,Nat.reduceAdd,Nat.reduceMul,Nat.reduceSub,Int.reduceLT,Int.reduceLE,Int.reduceToNat,Int.reduceAdd,Int.reduceSub,Int.reduceMul,ne_eq,decide_true,decide_false,tf79, he0]
  rw [c_seq]
  simp -dsimp only [↓RE,RU,RL,if_true,if_false,forall_const,implies_true,Nat.reduceLeDiff,Nat.reduceLT,pureOp,binPure,intBin,strBin,eqPure,isConstO,unPure,sliceLo,sliceHi,slicePure,slice3Pure,lenPure,capPure,minPure,maxPure,buildP,resK,endV,yieldE,↓reduceIte,Nat.reduceEqDiff,reduceCtorEq,Nat.reduceAdd,Nat.reduceMul,Nat.reduceSub,Int.reduceLT,Int.reduceLE,Int.reduceToNat,Int.reduceAdd,Int.reduceSub,Int.reduceMul,ne_eq,decide_true,decide_false,tf79, he0]
  refine wpDraw_tail mixed 6 (by kernel_rfl) ?_
  simp -dsimp only [↓RE,RU,RL,if_true,if_false,forall_const,implies_true,Nat.reduceLeDiff,Nat.reduceLT,pureOp,binPure,intBin,strBin,eqPure,isConstO,unPure,sliceLo,sliceHi,slicePure,slice3Pure,lenPure,capPure,minPure,maxPure,buildP,resK,endV,yieldE,↓reduceIte,Nat.reduceEqDiff,reduceCtorEq,Nat.reduceAdd,Nat.reduceMul,Nat.reduceSub,Int.reduceLT,Int.reduceLE,Int.reduceToNat,Int.reduceAdd,Int.reduceSub,Int.reduceMul,ne_eq,decide_true,decide_false,tf79, he0, he1, he2, hif, add_zero', Nat.sub_zero, ite_self, Option.map_some, add_lit', Nat.zero_add]
  refine ⟨by omega, by omega, ?_⟩
  refine appK_room (e := 89) (bytes := 24) (by kernel_rfl) hg.drew hcc hRd.drew (fun u hu => scells_one _ u hu) (by omega) (fun w2 hb2 hk2 => ?_)
  refine os_gen (fun e' => e' 26 = .slice (some ⟨g, 0, none⟩) (i + (l.length - (i + 1))) c ∧ e' 7 = .int .i64 l.length) ⟨?_, ?_⟩ ?_
  · simp -dsimp only [↓RE,RU,RL,if_true,if_false,↓reduceIte,Nat.reduceEqDiff,reduceCtorEq,decide_true,decide_false, he0]
  · simp -dsimp only [↓RE,RU,RL,if_true,if_false,↓reduceIte,Nat.reduceEqDiff,reduceCtorEq,decide_true,decide_false, he0]
  clear he0 he1 he2 e
  rintro e ⟨he26, he7⟩
  rw [hs1] at he26
  simp -dsimp only [↓RE,RU,RL,if_true,if_false,forall_const,implies_true,Nat.reduceLeDiff,Nat.reduceLT,pureOp,binPure,intBin,strBin,eqPure,isConstO,unPure,sliceLo,sliceHi,slicePure,slice3Pure,lenPure,capPure,minPure,maxPure,buildP,resK,endV,yieldE,↓reduceIte,Nat.reduceEqDiff,reduceCtorEq,Nat.reduceAdd,Nat.reduceMul,Nat.reduceSub,Int.reduceLT,Int.reduceLE,Int.reduceToNat,Int.reduceAdd,Int.reduceSub,Int.reduceMul,ne_eq,decide_true,decide_false,tf79, he26]
  rw [c_seq]
  simp -dsimp only [↓RE,RU,RL,if_true,if_false,forall_const,implies_true,Nat.reduceLeDiff,Nat.reduceLT,pureOp,binPure,intBin,strBin,eqPure,isConstO,unPure,sliceLo,sliceHi,slicePure,slice3Pure,lenPure,capPure,minPure,maxPure,buildP,resK,endV,yieldE,↓reduceIte,Nat.reduceEqDiff,reduceCtorEq,Nat.reduceAdd,Nat.reduceMul,Nat.reduceSub,Int.reduceLT,Int.reduceLE,Int.reduceToNat,Int.reduceAdd,Int.reduceSub,Int.reduceMul,ne_eq,decide_true,decide_false,tf79, he26, he7, hic2, add_zero', Nat.sub_zero, ite_self, Option.map_some, add_lit', Nat.zero_add]
  have hgk2 : Keep (fun k => k = g) w w2 := (Grow.drew w).then hk2
  have hD : ((l.drop (i + 1)).flatMap scells).length = (l.length - (i + 1)) * 3 := by rw [flat_length, List.length_drop]
  have hl2 : (cur.take (i * 3) ++ (l.drop (i + 1)).flatMap scells ++ cur.drop (i * 3 + ((l.drop (i + 1)).flatMap scells).length)).length = cur.length := by
    rw [List.length_append, List.length_append, List.length_take, List.length_drop, hD]; omega
  refine ⟨by omega, genK_clear rfl (t := 62) (e := 89) (size := 3) (bytes := 24) (by kernel_rfl) (zero_one (by kernel_rfl)) (g := g) (off := (l.length - 1) * 3) (dl := l.length - (l.length - 1)) (dc := c - (l.length - 1)) (by simp -dsimp only [↓RE,RU,RL,if_true,if_false,↓reduceIte,Nat.reduceEqDiff,reduceCtorEq,decide_true,decide_false, he26, he7, hic2, add_zero', Nat.sub_zero, ite_self, Option.map_some, add_lit', Nat.zero_add]) hb2 (by rw [hl2]; omega) (fun zs w3 hz hb3 hk3 => ?_)⟩
  simp -dsimp only [↓RE,RU,RL,if_true,if_false,forall_const,implies_true,Nat.reduceLeDiff,Nat.reduceLT,pureOp,binPure,intBin,strBin,eqPure,isConstO,unPure,sliceLo,sliceHi,slicePure,slice3Pure,lenPure,capPure,minPure,maxPure,buildP,resK,endV,yieldE,↓reduceIte,Nat.reduceEqDiff,reduceCtorEq,Nat.reduceAdd,Nat.reduceMul,Nat.reduceSub,Int.reduceLT,Int.reduceLE,Int.reduceToNat,Int.reduceAdd,Int.reduceSub,Int.reduceMul,ne_eq,decide_true,decide_false,tf79, he26]
  rw [c_seq]
  simp -dsimp only [↓RE,RU,RL,if_true,if_false,forall_const,implies_true,Nat.reduceLeDiff,Nat.reduceLT,pureOp,binPure,intBin,strBin,eqPure,isConstO,unPure,sliceLo,sliceHi,slicePure,slice3Pure,lenPure,capPure,minPure,maxPure,buildP,resK,endV,yieldE,↓reduceIte,Nat.reduceEqDiff,reduceCtorEq,Nat.reduceAdd,Nat.reduceMul,Nat.reduceSub,Int.reduceLT,Int.reduceLE,Int.reduceToNat,Int.reduceAdd,Int.reduceSub,Int.reduceMul,ne_eq,decide_true,decide_false,tf79, he26]
  have hnl : (l.take i ++ l.drop (i + 1)).length = l.length - 1 := by rw [List.length_append, List.length_take, List.length_drop]; omega
  refine h w3 _ ⟨by rw [flat_length], .inr ⟨g, c, _, by rw [hnl], hb3, by omega, hcm, ?_, del_cells hi hct rfl rfl rfl _⟩⟩ ((hgk2.trans hk3 (fun _ _ h => h) (fun _ _ h => h)).mono (fun k _ hk => (fpV_some _ _ _ _).2 hk)) (fun k hk => by rw [fpV_some] at hk ⊢; exact hk)
  rw [List.length_append, List.length_append, List.length_take, List.length_drop, hl2, hz]; omega

end Go.Proofs.YtcnebgokbjpjnaaGreat
