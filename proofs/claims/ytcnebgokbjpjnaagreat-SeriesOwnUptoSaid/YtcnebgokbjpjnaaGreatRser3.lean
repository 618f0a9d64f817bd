/- The document's series: Range, Delete, Fork; of both: the sample of a number. -/
import Derived.Test.YtcnebgokbjpjnaaGreatRser2
set_option linter.unusedVariables false
set_option linter.unusedSimpArgs false
set_option maxRecDepth 100000
namespace Go.Proofs.YtcnebgokbjpjnaaGreat
open Go

theorem rrange_ok {w : World} {g : Nat} {v : Value} {l : List Smp} (hS : RefAt w g v l) (hn : l.length ≤ 5864062014633) {a b : Int} {R : VWK}
    (h : ∀ w' A' c', Grow w w' → SRow w' (.slice A' (sRange l a b).length c') (sRange l a b) → (∀ k, fpA A' k → w.heap.size ≤ k) → R (.slice A' (sRange l a b).length c') w') :
    CallsV Tryz.prog 23 [.pointer (some ⟨g, 0, none⟩), .int .i64 a, .int .i64 b] w R := by
  obtain ⟨A, c, rfl, hnc, hA⟩ := hS.row.form
  refine calls_of_wpC mixed Tryz.func23 rfl (by kernel_rfl) ?_
  intro e he
  have he0 := he 0
  have he1 := he 1
  have he2 := he 2
  simp only [List.getD_cons_zero, List.getD_cons_succ] at he0 he1 he2
  clear he
  try simp -dsimp only [↓RE,↓c_seq,RU,RL,if_true,if_false,forall_const,implies_true,Nat.reduceLeDiff,Nat.reduceLT,pureOp,binPure,intBin,strBin,eqPure,isConstO,unPure,sliceLo,sliceHi,slicePure,slice3Pure,lenPure,capPure,minPure,maxPure,buildP,resK,endV,yieldE,↓reduceIte,Nat.reduceEqDiff,reduceCtorEq,Nat.reduceAdd,Nat.reduceMul,Nat.reduceSub,Int.reduceLT,Int.reduceLE,Int.reduceToNat,Int.reduceAdd,Int.reduceSub,Int.reduceMul,ne_eq,decide_true,decide_false,tf23, he0, he1, he2]
  refine wpLoop_intro (fun e' w' => e' 0 = .pointer (some ⟨g, 0, none⟩) ∧ e' 1 = .int .i64 a ∧ e' 2 = .int .i64 b ∧ Grow w w' ∧ ∃ (i : Nat) (v : Value), i ≤ l.length ∧ e' 8 = .int .i64 i ∧ e' 7 = v ∧ SRow w' v ((l.take i).filter (inR a b)) ∧ ∀ q, fpV v q → w.heap.size ≤ q)
    (fun e' _ => l.length - (envInt (e' 8)).toNat) ⟨?_, ?_, ?_, Keep.refl _ _, 0, .slice none 0 0, Nat.zero_le _, ?_, ?_, LRow.nil _ _ _, fun q hq => (fpV_none _ hq).elim⟩ ?_
  · simp -dsimp only [↓RE,RU,RL,if_true,if_false,↓reduceIte,Nat.reduceEqDiff,reduceCtorEq,decide_true,decide_false, he0]
  · simp -dsimp only [↓RE,RU,RL,if_true,if_false,↓reduceIte,Nat.reduceEqDiff,reduceCtorEq,decide_true,decide_false, he1]
  · simp -dsimp only [↓RE,RU,RL,if_true,if_false,↓reduceIte,Nat.reduceEqDiff,reduceCtorEq,decide_true,decide_false, he2]
  · simp -dsimp only [↓RE,RU,RL,if_true,if_false,↓reduceIte,Nat.reduceEqDiff,reduceCtorEq,decide_true,decide_false, he0, Int.cast_ofNat_Int]
  · simp -dsimp only [↓RE,RU,RL,if_true,if_false,↓reduceIte,Nat.reduceEqDiff,reduceCtorEq,decide_true,decide_false, he0]
  clear he0 he1 he2
  rintro e' w' ⟨he0, he1, he2, hg, i, v, hi, he8, he7, hL, hf⟩
  have hS' := hS.grow hg
  have hp := hS'.cell
  obtain ⟨Av, cv, rfl, _, _⟩ := hL.form
  rcases Nat.lt_or_ge i l.length with hil | hil
  · obtain ⟨ad, rfl, hca, hcv, hcs⟩ := hS'.row.rd.smp (k := i) hil
    have hd1 : decide ((i : Int) < (l.length : Int)) = true := decide_eq_true (by omega)
    have hw1 : IntKind.i64.wrap ((i : Int) + 1) = ((i + 1 : Nat) : Int) := by rw [wrap_i64_in (by omega) (by omega)]; omega
    have hsn : (l.take (i + 1)).filter (inR a b) = (l.take i).filter (inR a b) ++ (if inR a b (l.getD i (0, 0, 0)) then [l.getD i (0, 0, 0)] else []) := by
      rw [take_snoc (0, 0, 0) hil, List.filter_append, List.filter_cons, List.filter_nil]
    have hle : ((l.take i).filter (inR a b)).length ≤ i := Nat.le_trans (List.length_filter_le _ _) (by rw [List.length_take]; omega)
    have hin : inR a b (l.getD i (0, 0, 0)) = (decide (a ≤ (l.getD i (0, 0, 0)).1) && decide ((l.getD i (0, 0, 0)).1 < b)) := rfl
    cases h1 : decide (a ≤ (l.getD i (0, 0, 0)).1) with
    | false =>
      rw [h1, Bool.false_and] at hin
      rw [hin, if_neg (by simp), List.append_nil] at hsn
      try simp -dsimp only [↓RE,↓c_seq,RU,RL,if_true,if_false,forall_const,implies_true,Nat.reduceLeDiff,Nat.reduceLT,pureOp,binPure,intBin,strBin,eqPure,isConstO,unPure,sliceLo,sliceHi,slicePure,slice3Pure,lenPure,capPure,minPure,maxPure,buildP,resK,endV,yieldE,↓reduceIte,Nat.reduceEqDiff,reduceCtorEq,Nat.reduceAdd,Nat.reduceMul,Nat.reduceSub,Int.reduceLT,Int.reduceLE,Int.reduceToNat,Int.reduceAdd,Int.reduceSub,Int.reduceMul,ne_eq,decide_true,decide_false,tf23, he0, he1, he2, he8, hp, hd1, hca, h1, add_zero', hw1, undef]
      refine ⟨by omega, ?_⟩
      try simp -dsimp only [↓RE,↓c_seq,RU,RL,if_true,if_false,forall_const,implies_true,Nat.reduceLeDiff,Nat.reduceLT,pureOp,binPure,intBin,strBin,eqPure,isConstO,unPure,sliceLo,sliceHi,slicePure,slice3Pure,lenPure,capPure,minPure,maxPure,buildP,resK,endV,yieldE,↓reduceIte,Nat.reduceEqDiff,reduceCtorEq,Nat.reduceAdd,Nat.reduceMul,Nat.reduceSub,Int.reduceLT,Int.reduceLE,Int.reduceToNat,Int.reduceAdd,Int.reduceSub,Int.reduceMul,ne_eq,decide_true,decide_false,tf23, he0, he1, he2, he8, hp, hd1, hca, h1, add_zero', hw1, undef]
      refine hold_intro ⟨⟨?_, ?_, ?_, hg, i + 1, _, by omega, ?_, ?_, by rw [hsn]; exact hL, hf⟩, ?_⟩
      · simp -dsimp only [↓RE,RU,RL,if_true,if_false,↓reduceIte,Nat.reduceEqDiff,reduceCtorEq,decide_true,decide_false, he0]
      · simp -dsimp only [↓RE,RU,RL,if_true,if_false,↓reduceIte,Nat.reduceEqDiff,reduceCtorEq,decide_true,decide_false, he1]
      · simp -dsimp only [↓RE,RU,RL,if_true,if_false,↓reduceIte,Nat.reduceEqDiff,reduceCtorEq,decide_true,decide_false, he2]
      · simp -dsimp only [↓RE,RU,RL,if_true,if_false,↓reduceIte,Nat.reduceEqDiff,reduceCtorEq,decide_true,decide_false, he8, hw1]
      · simp -dsimp only [↓RE,RU,RL,if_true,if_false,↓reduceIte,Nat.reduceEqDiff,reduceCtorEq,decide_true,decide_false, he7]
      · simp -dsimp only [↓RE,RU,RL,if_true,if_false,↓reduceIte,Nat.reduceEqDiff,reduceCtorEq,decide_true,decide_false, he8, hw1]
        simp only [envInt_int]; omega
    | true =>
      rw [h1, Bool.true_and] at hin
      cases h2 : decide ((l.getD i (0, 0, 0)).1 < b) with
      | false =>
        rw [h2] at hin
        rw [hin, if_neg (by simp), List.append_nil] at hsn
        try simp -dsimp only [↓RE,↓c_seq,RU,RL,if_true,if_false,forall_const,implies_true,Nat.reduceLeDiff,Nat.reduceLT,pureOp,binPure,intBin,strBin,eqPure,isConstO,unPure,sliceLo,sliceHi,slicePure,slice3Pure,lenPure,capPure,minPure,maxPure,buildP,resK,endV,yieldE,↓reduceIte,Nat.reduceEqDiff,reduceCtorEq,Nat.reduceAdd,Nat.reduceMul,Nat.reduceSub,Int.reduceLT,Int.reduceLE,Int.reduceToNat,Int.reduceAdd,Int.reduceSub,Int.reduceMul,ne_eq,decide_true,decide_false,tf23, he0, he1, he2, he8, hp, hd1, hca, h1, h2, add_zero', hw1]
        refine ⟨by omega, ?_⟩
        try simp -dsimp only [↓RE,↓c_seq,RU,RL,if_true,if_false,forall_const,implies_true,Nat.reduceLeDiff,Nat.reduceLT,pureOp,binPure,intBin,strBin,eqPure,isConstO,unPure,sliceLo,sliceHi,slicePure,slice3Pure,lenPure,capPure,minPure,maxPure,buildP,resK,endV,yieldE,↓reduceIte,Nat.reduceEqDiff,reduceCtorEq,Nat.reduceAdd,Nat.reduceMul,Nat.reduceSub,Int.reduceLT,Int.reduceLE,Int.reduceToNat,Int.reduceAdd,Int.reduceSub,Int.reduceMul,ne_eq,decide_true,decide_false,tf23, he0, he1, he2, he8, hp, hd1, hca, h1, h2, add_zero', hw1]
        refine ⟨by omega, ?_⟩
        try simp -dsimp only [↓RE,↓c_seq,RU,RL,if_true,if_false,forall_const,implies_true,Nat.reduceLeDiff,Nat.reduceLT,pureOp,binPure,intBin,strBin,eqPure,isConstO,unPure,sliceLo,sliceHi,slicePure,slice3Pure,lenPure,capPure,minPure,maxPure,buildP,resK,endV,yieldE,↓reduceIte,Nat.reduceEqDiff,reduceCtorEq,Nat.reduceAdd,Nat.reduceMul,Nat.reduceSub,Int.reduceLT,Int.reduceLE,Int.reduceToNat,Int.reduceAdd,Int.reduceSub,Int.reduceMul,ne_eq,decide_true,decide_false,tf23, he0, he1, he2, he8, hp, hd1, hca, h1, h2, add_zero', hw1]
        refine hold_intro ⟨⟨?_, ?_, ?_, hg, i + 1, _, by omega, ?_, ?_, by rw [hsn]; exact hL, hf⟩, ?_⟩
        · simp -dsimp only [↓RE,RU,RL,if_true,if_false,↓reduceIte,Nat.reduceEqDiff,reduceCtorEq,decide_true,decide_false, he0]
        · simp -dsimp only [↓RE,RU,RL,if_true,if_false,↓reduceIte,Nat.reduceEqDiff,reduceCtorEq,decide_true,decide_false, he1]
        · simp -dsimp only [↓RE,RU,RL,if_true,if_false,↓reduceIte,Nat.reduceEqDiff,reduceCtorEq,decide_true,decide_false, he2]
        · simp -dsimp only [↓RE,RU,RL,if_true,if_false,↓reduceIte,Nat.reduceEqDiff,reduceCtorEq,decide_true,decide_false, he8, hw1]
        · simp -dsimp only [↓RE,RU,RL,if_true,if_false,↓reduceIte,Nat.reduceEqDiff,reduceCtorEq,decide_true,decide_false, he7]
        · simp -dsimp only [↓RE,RU,RL,if_true,if_false,↓reduceIte,Nat.reduceEqDiff,reduceCtorEq,decide_true,decide_false, he8, hw1]
          simp only [envInt_int]; omega
      | true =>
        rw [h2] at hin
        rw [hin, if_pos rfl] at hsn
        try simp -dsimp only [↓RE,↓c_seq,RU,RL,if_true,if_false,forall_const,implies_true,Nat.reduceLeDiff,Nat.reduceLT,pureOp,binPure,intBin,strBin,eqPure,isConstO,unPure,sliceLo,sliceHi,slicePure,slice3Pure,lenPure,capPure,minPure,maxPure,buildP,resK,endV,yieldE,↓reduceIte,Nat.reduceEqDiff,reduceCtorEq,Nat.reduceAdd,Nat.reduceMul,Nat.reduceSub,Int.reduceLT,Int.reduceLE,Int.reduceToNat,Int.reduceAdd,Int.reduceSub,Int.reduceMul,ne_eq,decide_true,decide_false,tf23, he0, he1, he2, he8, hp, hd1, hca, h1, h2, add_zero', hw1]
        refine ⟨by omega, ?_⟩
        try simp -dsimp only [↓RE,↓c_seq,RU,RL,if_true,if_false,forall_const,implies_true,Nat.reduceLeDiff,Nat.reduceLT,pureOp,binPure,intBin,strBin,eqPure,isConstO,unPure,sliceLo,sliceHi,slicePure,slice3Pure,lenPure,capPure,minPure,maxPure,buildP,resK,endV,yieldE,↓reduceIte,Nat.reduceEqDiff,reduceCtorEq,Nat.reduceAdd,Nat.reduceMul,Nat.reduceSub,Int.reduceLT,Int.reduceLE,Int.reduceToNat,Int.reduceAdd,Int.reduceSub,Int.reduceMul,ne_eq,decide_true,decide_false,tf23, he0, he1, he2, he8, hp, hd1, hca, h1, h2, add_zero', hw1]
        refine ⟨by omega, ?_⟩
        try simp -dsimp only [↓RE,↓c_seq,RU,RL,if_true,if_false,forall_const,implies_true,Nat.reduceLeDiff,Nat.reduceLT,pureOp,binPure,intBin,strBin,eqPure,isConstO,unPure,sliceLo,sliceHi,slicePure,slice3Pure,lenPure,capPure,minPure,maxPure,buildP,resK,endV,yieldE,↓reduceIte,Nat.reduceEqDiff,reduceCtorEq,Nat.reduceAdd,Nat.reduceMul,Nat.reduceSub,Int.reduceLT,Int.reduceLE,Int.reduceToNat,Int.reduceAdd,Int.reduceSub,Int.reduceMul,ne_eq,decide_true,decide_false,tf23, he0, he1, he2, he8, hp, hd1, hca, h1, h2, add_zero', hw1]
        refine ⟨by omega, hcs ?_⟩
        have hbx := Blk.new' w' 89 (scells (l.getD i (0, 0, 0))).toArray
        have gx := Grow.alloc w' (.cells (scells (l.getD i (0, 0, 0))).toArray 89)
        have hrx : Rd (w'.alloc (.cells (scells (l.getD i (0, 0, 0))).toArray 89)) (some ⟨w'.heap.size, 0, none⟩) 1 3 (([l.getD i (0, 0, 0)] : List Smp).flatMap scells) := Rd.of_sblk hbx rfl
        try simp -dsimp only [↓RE,↓c_seq,RU,RL,if_true,if_false,forall_const,implies_true,Nat.reduceLeDiff,Nat.reduceLT,pureOp,binPure,intBin,strBin,eqPure,isConstO,unPure,sliceLo,sliceHi,slicePure,slice3Pure,lenPure,capPure,minPure,maxPure,buildP,resK,endV,yieldE,↓reduceIte,Nat.reduceEqDiff,reduceCtorEq,Nat.reduceAdd,Nat.reduceMul,Nat.reduceSub,Int.reduceLT,Int.reduceLE,Int.reduceToNat,Int.reduceAdd,Int.reduceSub,Int.reduceMul,ne_eq,decide_true,decide_false,tf23, he7]
        refine app_smp (xs := (l.take i).filter (inR a b)) (ys := [l.getD i (0, 0, 0)]) (hL.grow gx) hrx (by simp only [List.length_cons, List.length_nil]; omega) (fun A6 c6 w6 hL6 k6 f6 => ?_)
        rw [← hsn] at hL6
        have g6 : Grow w w6 := (hg.trans gx).above k6 (fun q hq hf' => by have := hf q hf'; omega)
        have hsg := hg.size
        have hsx := gx.size
        try simp -dsimp only [↓RE,↓c_seq,RU,RL,if_true,if_false,forall_const,implies_true,Nat.reduceLeDiff,Nat.reduceLT,pureOp,binPure,intBin,strBin,eqPure,isConstO,unPure,sliceLo,sliceHi,slicePure,slice3Pure,lenPure,capPure,minPure,maxPure,buildP,resK,endV,yieldE,↓reduceIte,Nat.reduceEqDiff,reduceCtorEq,Nat.reduceAdd,Nat.reduceMul,Nat.reduceSub,Int.reduceLT,Int.reduceLE,Int.reduceToNat,Int.reduceAdd,Int.reduceSub,Int.reduceMul,ne_eq,decide_true,decide_false,tf23, he8, hw1]
        refine hold_intro ⟨⟨?_, ?_, ?_, g6, i + 1, _, by omega, ?_, ?_, hL6, fun q hq => (f6 q hq).elim (hf q) (fun h => by omega)⟩, ?_⟩
        · simp -dsimp only [↓RE,RU,RL,if_true,if_false,↓reduceIte,Nat.reduceEqDiff,reduceCtorEq,decide_true,decide_false, he0]
        · simp -dsimp only [↓RE,RU,RL,if_true,if_false,↓reduceIte,Nat.reduceEqDiff,reduceCtorEq,decide_true,decide_false, he1]
        · simp -dsimp only [↓RE,RU,RL,if_true,if_false,↓reduceIte,Nat.reduceEqDiff,reduceCtorEq,decide_true,decide_false, he2]
        · simp -dsimp only [↓RE,RU,RL,if_true,if_false,↓reduceIte,Nat.reduceEqDiff,reduceCtorEq,decide_true,decide_false, he8, hw1]
        · simp -dsimp only [↓RE,RU,RL,if_true,if_false,↓reduceIte,Nat.reduceEqDiff,reduceCtorEq,decide_true,decide_false, he7]
        · simp -dsimp only [↓RE,RU,RL,if_true,if_false,↓reduceIte,Nat.reduceEqDiff,reduceCtorEq,decide_true,decide_false, he8, hw1]
          simp only [envInt_int]; omega
  · obtain rfl : i = l.length := by omega
    have hd1 : decide ((l.length : Int) < (l.length : Int)) = false := decide_eq_false (by omega)
    rw [List.take_length] at hL
    try simp -dsimp only [↓RE,↓c_seq,RU,RL,if_true,if_false,forall_const,implies_true,Nat.reduceLeDiff,Nat.reduceLT,pureOp,binPure,intBin,strBin,eqPure,isConstO,unPure,sliceLo,sliceHi,slicePure,slice3Pure,lenPure,capPure,minPure,maxPure,buildP,resK,endV,yieldE,↓reduceIte,Nat.reduceEqDiff,reduceCtorEq,Nat.reduceAdd,Nat.reduceMul,Nat.reduceSub,Int.reduceLT,Int.reduceLE,Int.reduceToNat,Int.reduceAdd,Int.reduceSub,Int.reduceMul,ne_eq,decide_true,decide_false,tf23, he0, he1, he2, he8, hp, hd1]
    have hle : ((l.take l.length).filter (inR a b)).length = (sRange l a b).length := by rw [List.take_length]; rfl
    rw [he7, hle]
    have hL2 : SRow w' (.slice Av (sRange l a b).length cv) (sRange l a b) := by rw [← hle, List.take_length]; exact hL
    exact h w' Av cv hg hL2 (fun q hq => hf q ((fpV_fpA _ _ _ _).2 hq))
def cuts (l ts : List Smp) : List Smp := ts.foldl (fun l s => sCut l s.1) l
theorem cuts_eq : ∀ (ts l : List Smp), cuts l ts = l.filter (fun x => ts.all (fun s => decide (x.1 ≠ s.1)))
  | [], l => (filt_all (fun _ _ => rfl)).symm
  | s :: ts, l => by
    rw [show cuts l (s :: ts) = cuts (sCut l s.1) ts from rfl, cuts_eq ts, sCut, List.filter_filter]
    congr 1
    funext x
    rw [List.all_cons, Bool.and_comm]
theorem cuts_range (l : List Smp) (a b : Int) : cuts l (sRange l a b) = sDel l a b := by
  rw [cuts_eq, sDel]
  refine List.filter_congr (fun x hx => ?_)
  cases hr : inR a b x with
  | true =>
    rw [Bool.not_true, List.all_eq_false]
    exact ⟨x, List.mem_filter.2 ⟨hx, hr⟩, by simp⟩
  | false =>
    rw [Bool.not_false, List.all_eq_true]
    intro s hs
    have hs2 := (List.mem_filter.1 hs).2
    rw [decide_eq_true_iff]
    intro he
    unfold inR at hr hs2
    rw [he, hs2] at hr
    cases hr
theorem Rise.cuts {l : List Smp} (h : Rise l) (ts : List Smp) : Rise (cuts l ts) := by rw [cuts_eq]; exact h.filter _
theorem cuts_len (l ts : List Smp) : (Go.Proofs.YtcnebgokbjpjnaaGreat.cuts l ts).length ≤ l.length := by rw [cuts_eq]; exact List.length_filter_le _ _
theorem rdel_ok {w : World} {g : Nat} {v : Value} {l : List Smp} (hS : RefAt w g v l) (hn : l.length ≤ 5864062014633) {a b : Int} {R : VWK}
    (h : ∀ w' v' A' c', RefAt w' g v' (sDel l a b) → Keep (fun i => i = g ∨ fpV v i) w w' → (∀ i, fpV v' i → fpV v i ∨ w.heap.size ≤ i) → SRow w' (.slice A' (sRange l a b).length c') (sRange l a b) → (∀ k, fpA A' k → w.heap.size ≤ k ∧ ¬ fpV v' k) → R (.slice A' (sRange l a b).length c') w') :
    CallsV Tryz.prog 9 [.pointer (some ⟨g, 0, none⟩), .int .i64 a, .int .i64 b] w R := by
  have hgl := hS.b.lt
  have hrl := hS.row.lt
  refine calls_of_wpC mixed Tryz.func9 rfl (by kernel_rfl) ?_
  intro e he
  have he0 := he 0
  have he1 := he 1
  have he2 := he 2
  simp only [List.getD_cons_zero, List.getD_cons_succ] at he0 he1 he2
  clear he
  try simp -dsimp only [↓RE,↓c_seq,RU,RL,if_true,if_false,forall_const,implies_true,Nat.reduceLeDiff,Nat.reduceLT,pureOp,binPure,intBin,strBin,eqPure,isConstO,unPure,sliceLo,sliceHi,slicePure,slice3Pure,lenPure,capPure,minPure,maxPure,buildP,resK,endV,yieldE,↓reduceIte,Nat.reduceEqDiff,reduceCtorEq,Nat.reduceAdd,Nat.reduceMul,Nat.reduceSub,Int.reduceLT,Int.reduceLE,Int.reduceToNat,Int.reduceAdd,Int.reduceSub,Int.reduceMul,ne_eq,decide_true,decide_false,tf9, he0, he1, he2]
  refine rrange_ok hS hn (fun w1 A1 c1 g1 hL1 hF1 => ?_)
  have hlen : (sRange l a b).length ≤ l.length := List.length_filter_le _ _
  have hs1 := g1.size
  have hlt1 := hL1.lt
  try simp -dsimp only [↓RE,↓c_seq,RU,RL,if_true,if_false,forall_const,implies_true,Nat.reduceLeDiff,Nat.reduceLT,pureOp,binPure,intBin,strBin,eqPure,isConstO,unPure,sliceLo,sliceHi,slicePure,slice3Pure,lenPure,capPure,minPure,maxPure,buildP,resK,endV,yieldE,↓reduceIte,Nat.reduceEqDiff,reduceCtorEq,Nat.reduceAdd,Nat.reduceMul,Nat.reduceSub,Int.reduceLT,Int.reduceLE,Int.reduceToNat,Int.reduceAdd,Int.reduceSub,Int.reduceMul,ne_eq,decide_true,decide_false,tf9, he0]
  refine wpLoop_intro (fun e' w' => e' 0 = .pointer (some ⟨g, 0, none⟩) ∧ e' 7 = .slice A1 (sRange l a b).length c1 ∧ ∃ (i : Nat) (v' : Value), i ≤ (sRange l a b).length ∧ e' 8 = .int .i64 i ∧ RefAt w' g v' (cuts l ((sRange l a b).take i)) ∧ (∀ q, fpV v' q → fpV v q ∨ w1.heap.size ≤ q) ∧ Keep (fun q => q = g ∨ fpV v q) w1 w')
    (fun e' _ => (sRange l a b).length - (envInt (e' 8)).toNat) ⟨?_, ?_, 0, v, Nat.zero_le _, ?_, hS.grow g1, fun q hq => .inl hq, Keep.refl _ _⟩ ?_
  · simp -dsimp only [↓RE,RU,RL,if_true,if_false,↓reduceIte,Nat.reduceEqDiff,reduceCtorEq,decide_true,decide_false, he0]
  · simp -dsimp only [↓RE,RU,RL,if_true,if_false,↓reduceIte,Nat.reduceEqDiff,reduceCtorEq,decide_true,decide_false, he0]
  · simp -dsimp only [↓RE,RU,RL,if_true,if_false,↓reduceIte,Nat.reduceEqDiff,reduceCtorEq,decide_true,decide_false, he0, Int.cast_ofNat_Int]
  clear he0 he1 he2
  rintro e' w' ⟨he0, he7, i, v', hi, he8, hS', hf', hk'⟩
  have hL' : SRow w' (.slice A1 (sRange l a b).length c1) (sRange l a b) := hL1.keep hk' (fun q hq e => by
    have h1 := hF1 q ((fpV_fpA _ _ _ _).1 hq)
    rcases e with e | e
    · omega
    · have := hrl q e; omega)
  try simp -dsimp only [↓RE,↓c_seq,RU,RL,if_true,if_false,forall_const,implies_true,Nat.reduceLeDiff,Nat.reduceLT,pureOp,binPure,intBin,strBin,eqPure,isConstO,unPure,sliceLo,sliceHi,slicePure,slice3Pure,lenPure,capPure,minPure,maxPure,buildP,resK,endV,yieldE,↓reduceIte,Nat.reduceEqDiff,reduceCtorEq,Nat.reduceAdd,Nat.reduceMul,Nat.reduceSub,Int.reduceLT,Int.reduceLE,Int.reduceToNat,Int.reduceAdd,Int.reduceSub,Int.reduceMul,ne_eq,decide_true,decide_false,tf9, he0, he7, he8]
  refine ⟨fun hlt => ?_, fun hge => ?_⟩
  · obtain ⟨ad, rfl, hca, hcv, hcs⟩ := hL'.rd.smp (k := i) (by omega)
    have hw1 : IntKind.i64.wrap ((i : Int) + 1) = ((i + 1 : Nat) : Int) := by rw [wrap_i64_in (by omega) (by omega)]; omega
    have hcl := cuts_len l ((sRange l a b).take i)
    try simp -dsimp only [↓RE,↓c_seq,RU,RL,if_true,if_false,forall_const,implies_true,Nat.reduceLeDiff,Nat.reduceLT,pureOp,binPure,intBin,strBin,eqPure,isConstO,unPure,sliceLo,sliceHi,slicePure,slice3Pure,lenPure,capPure,minPure,maxPure,buildP,resK,endV,yieldE,↓reduceIte,Nat.reduceEqDiff,reduceCtorEq,Nat.reduceAdd,Nat.reduceMul,Nat.reduceSub,Int.reduceLT,Int.reduceLE,Int.reduceToNat,Int.reduceAdd,Int.reduceSub,Int.reduceMul,ne_eq,decide_true,decide_false,tf9, he0, he7, he8, hca, add_zero']
    refine ⟨by omega, ?_⟩
    refine rcut_ok hS' (by omega) (fun w3 v3 hS3 k3 f3 => ?_)
    have hst : cuts l ((sRange l a b).take (i + 1)) = sCut (cuts l ((sRange l a b).take i)) ((sRange l a b).getD i (0, 0, 0)).1 := by
      rw [take_snoc (0, 0, 0) (by omega), cuts, List.foldl_append]; rfl
    rw [← hst] at hS3
    have hsk := hk'.size
    try simp -dsimp only [↓RE,↓c_seq,RU,RL,if_true,if_false,forall_const,implies_true,Nat.reduceLeDiff,Nat.reduceLT,pureOp,binPure,intBin,strBin,eqPure,isConstO,unPure,sliceLo,sliceHi,slicePure,slice3Pure,lenPure,capPure,minPure,maxPure,buildP,resK,endV,yieldE,↓reduceIte,Nat.reduceEqDiff,reduceCtorEq,Nat.reduceAdd,Nat.reduceMul,Nat.reduceSub,Int.reduceLT,Int.reduceLE,Int.reduceToNat,Int.reduceAdd,Int.reduceSub,Int.reduceMul,ne_eq,decide_true,decide_false,tf9, he8, hw1]
    refine hold_intro ⟨⟨?_, ?_, i + 1, v3, by omega, ?_, hS3, fun q hq => ?_, hk'.trans k3 (fun _ _ h => h) (fun q hq e => ?_)⟩, ?_⟩
    · simp -dsimp only [↓RE,RU,RL,if_true,if_false,↓reduceIte,Nat.reduceEqDiff,reduceCtorEq,decide_true,decide_false, he0]
    · simp -dsimp only [↓RE,RU,RL,if_true,if_false,↓reduceIte,Nat.reduceEqDiff,reduceCtorEq,decide_true,decide_false, he7]
    · simp -dsimp only [↓RE,RU,RL,if_true,if_false,↓reduceIte,Nat.reduceEqDiff,reduceCtorEq,decide_true,decide_false, he8, hw1]
    · rcases f3 q hq with e | e
      · exact hf' q e
      · right; omega
    · rcases e with e | e
      · exact .inl e
      · rcases hf' q e with e | e
        · exact .inr e
        · omega
    · simp -dsimp only [↓RE,RU,RL,if_true,if_false,↓reduceIte,Nat.reduceEqDiff,reduceCtorEq,decide_true,decide_false, he8, hw1]
      simp only [envInt_int]; omega
  · obtain rfl : i = (sRange l a b).length := by omega
    rw [List.take_length, cuts_range] at hS'
    try simp -dsimp only [↓RE,↓c_seq,RU,RL,if_true,if_false,forall_const,implies_true,Nat.reduceLeDiff,Nat.reduceLT,pureOp,binPure,intBin,strBin,eqPure,isConstO,unPure,sliceLo,sliceHi,slicePure,slice3Pure,lenPure,capPure,minPure,maxPure,buildP,resK,endV,yieldE,↓reduceIte,Nat.reduceEqDiff,reduceCtorEq,Nat.reduceAdd,Nat.reduceMul,Nat.reduceSub,Int.reduceLT,Int.reduceLE,Int.reduceToNat,Int.reduceAdd,Int.reduceSub,Int.reduceMul,ne_eq,decide_true,decide_false,tf9, he7]
    refine h w' v' A1 c1 hS' (g1.above' hk' (fun _ _ h => h)) (fun q hq => (hf' q hq).imp id (fun h => by omega)) hL' (fun q hq => ⟨hF1 q hq, fun hq' => ?_⟩)
    have h1 := hF1 q hq
    have h2 := hlt1 q ((fpV_fpA _ _ _ _).2 hq)
    rcases hf' q hq' with e | e
    · have := hrl q e; omega
    · omega

end Go.Proofs.YtcnebgokbjpjnaaGreat
