/- The program's series: Delete, Range. -/
import Derived.Test.YtifaobnemnbfhaaScut
set_option linter.unusedVariables false
set_option linter.unusedSimpArgs false
set_option maxRecDepth 100000
namespace Go.Proofs.Ytifaobnemnbfhaa
open Go

/-- where a range stands. -/
structure SpanAt (l : List Smp) (a b : Int) (i k : Nat) : Prop where
  le : i ≤ k
  lt : k ≤ l.length
  range : sRange l a b = (l.drop i).take (k - i)
  del : sDel l a b = l.take i ++ l.drop k
theorem SpanAt.none {l : List Smp} {a b : Int} (h : b ≤ a) : SpanAt l a b 0 0 :=
  ⟨Nat.le_refl _, Nat.zero_le _, by rw [range_empty h]; simp, by rw [del_empty h]; simp⟩
theorem SpanAt.some {l : List Smp} {a b : Int} {i k : Nat} (hab : a < b) (h : Stand l a i) (h' : Stand l b k) : SpanAt l a b i k :=
  ⟨h.mono h' hab, h'.le, h.range h' hab, h.del h' hab⟩
theorem span_ok {w : World} {g : Nat} {v : Value} {l : List Smp} (hS : SerAt w g v l) (hn : l.length ≤ 5864062014634) {a b : Int} {R : VWK}
    (h : ∀ w' i k, Grow w w' → SpanAt l a b i k → R (.tuple #[.int .i64 (i : Nat), .int .i64 (k : Nat)]) w') :
    CallsV Try.prog 19 [.pointer (some ⟨g, 0, none⟩), .int .i64 a, .int .i64 b] w R := by
  obtain ⟨A, c, rfl, hnc, hA⟩ := hS.row.form
  have hp := hS.cell
  by_cases hab : b ≤ a
  · have hd : decide (b ≤ a) = true := decide_eq_true hab
    refine calls_of_wpC mixed Try.func19 rfl (by kernel_rfl) ?_
    intro e he
    have he0 := he 0
    have he1 := he 1
    have he2 := he 2
    simp only [List.getD_cons_zero, List.getD_cons_succ] at he0 he1 he2
    clear he
    try simp -dsimp only [↓RE,↓c_seq,RU,RL,if_true,if_false,forall_const,implies_true,Nat.reduceLeDiff,Nat.reduceLT,pureOp,binPure,intBin,strBin,eqPure,isConstO,unPure,sliceLo,sliceHi,slicePure,slice3Pure,lenPure,capPure,minPure,maxPure,buildP,resK,endV,yieldE,↓reduceIte,Nat.reduceEqDiff,reduceCtorEq,Nat.reduceAdd,Nat.reduceMul,Nat.reduceSub,Int.reduceLT,Int.reduceLE,Int.reduceToNat,Int.reduceAdd,Int.reduceSub,Int.reduceMul,ne_eq,decide_true,decide_false,tf19, he0, he1, he2, hd]
    exact h w 0 0 (Keep.refl _ _) (SpanAt.none hab)
  · have hd : decide (b ≤ a) = false := decide_eq_false hab
    refine calls_of_wpC mixed Try.func19 rfl (by kernel_rfl) ?_
    intro e he
    have he0 := he 0
    have he1 := he 1
    have he2 := he 2
    simp only [List.getD_cons_zero, List.getD_cons_succ] at he0 he1 he2
    clear he
    try simp -dsimp only [↓RE,↓c_seq,RU,RL,if_true,if_false,forall_const,implies_true,Nat.reduceLeDiff,Nat.reduceLT,pureOp,binPure,intBin,strBin,eqPure,isConstO,unPure,sliceLo,sliceHi,slicePure,slice3Pure,lenPure,capPure,minPure,maxPure,buildP,resK,endV,yieldE,↓reduceIte,Nat.reduceEqDiff,reduceCtorEq,Nat.reduceAdd,Nat.reduceMul,Nat.reduceSub,Int.reduceLT,Int.reduceLE,Int.reduceToNat,Int.reduceAdd,Int.reduceSub,Int.reduceMul,ne_eq,decide_true,decide_false,tf19, he0, he1, he2, hd]
    refine find_ok hp hS.row.rd hn hS.rise (fun w2 i g2 hst => ?_)
    try simp -dsimp only [↓RE,↓c_seq,RU,RL,if_true,if_false,forall_const,implies_true,Nat.reduceLeDiff,Nat.reduceLT,pureOp,binPure,intBin,strBin,eqPure,isConstO,unPure,sliceLo,sliceHi,slicePure,slice3Pure,lenPure,capPure,minPure,maxPure,buildP,resK,endV,yieldE,↓reduceIte,Nat.reduceEqDiff,reduceCtorEq,Nat.reduceAdd,Nat.reduceMul,Nat.reduceSub,Int.reduceLT,Int.reduceLE,Int.reduceToNat,Int.reduceAdd,Int.reduceSub,Int.reduceMul,ne_eq,decide_true,decide_false,tf19, he0, he1, he2, hd]
    refine find_ok (hS.grow g2).cell (hS.grow g2).row.rd hn hS.rise (fun w3 k g3 hst' => ?_)
    try simp -dsimp only [↓RE,↓c_seq,RU,RL,if_true,if_false,forall_const,implies_true,Nat.reduceLeDiff,Nat.reduceLT,pureOp,binPure,intBin,strBin,eqPure,isConstO,unPure,sliceLo,sliceHi,slicePure,slice3Pure,lenPure,capPure,minPure,maxPure,buildP,resK,endV,yieldE,↓reduceIte,Nat.reduceEqDiff,reduceCtorEq,Nat.reduceAdd,Nat.reduceMul,Nat.reduceSub,Int.reduceLT,Int.reduceLE,Int.reduceToNat,Int.reduceAdd,Int.reduceSub,Int.reduceMul,ne_eq,decide_true,decide_false,tf19, he0, he1, he2, hd]
    exact h w3 i k (g2.trans g3) (SpanAt.some (by omega) hst hst')
theorem sub_rd {w : World} {gr n c : Nat} {l : List Smp} (h : Rd w (some ⟨gr, 0, none⟩) l.length 3 (l.flatMap scells)) {i k : Nat} (hik : i ≤ k) (hk : k ≤ l.length) : Rd w (some ⟨gr, i * 3, none⟩) (k - i) 3 (((l.drop i).take (k - i)).flatMap scells) := by
  have h1 := rd_at h (i := i) (by omega)
  rw [flat_take, flat_drop]
  refine ⟨?_, fun h0 => ?_⟩
  · rw [List.length_take, List.length_drop, flat_length]; omega
  · obtain ⟨ad, he, hc⟩ := h1.2 (by omega)
    refine ⟨ad, he, fun j u hu => hc j u ?_⟩
    rw [List.getElem?_take] at hu
    split at hu
    · exact hu
    · cases hu
theorem range_ok {w : World} {g : Nat} {v : Value} {l : List Smp} (hS : SerAt w g v l) (hn : l.length ≤ 5864062014634) {a b : Int} {R : VWK}
    (h : ∀ w' A' c', Grow w w' → SRow w' (.slice A' (sRange l a b).length c') (sRange l a b) → (∀ k, fpA A' k → w.heap.size ≤ k) → R (.slice A' (sRange l a b).length c') w') :
    CallsV Try.prog 8 [.pointer (some ⟨g, 0, none⟩), .int .i64 a, .int .i64 b] w R := by
  refine calls_of_wpC mixed Try.func8 rfl (by kernel_rfl) ?_
  intro e he
  have he0 := he 0
  have he1 := he 1
  have he2 := he 2
  simp only [List.getD_cons_zero, List.getD_cons_succ] at he0 he1 he2
  clear he
  try simp -dsimp only [↓RE,↓c_seq,RU,RL,if_true,if_false,forall_const,implies_true,Nat.reduceLeDiff,Nat.reduceLT,pureOp,binPure,intBin,strBin,eqPure,isConstO,unPure,sliceLo,sliceHi,slicePure,slice3Pure,lenPure,capPure,minPure,maxPure,buildP,resK,endV,yieldE,↓reduceIte,Nat.reduceEqDiff,reduceCtorEq,Nat.reduceAdd,Nat.reduceMul,Nat.reduceSub,Int.reduceLT,Int.reduceLE,Int.reduceToNat,Int.reduceAdd,Int.reduceSub,Int.reduceMul,ne_eq,decide_true,decide_false,tf8, he0, he1, he2]
  refine span_ok hS hn (fun w2 i k g2 hsp => ?_)
  obtain ⟨A, c, rfl, hnc, hA⟩ := hS.row.form
  have hS2 := hS.grow g2
  have hp2 := hS2.cell
  obtain ⟨h1, h2, h3, h4⟩ := hsp
  have hlen : (sRange l a b).length = k - i := by rw [h3, List.length_take, List.length_drop]; omega
  rw [hlen] at h
  rcases Nat.lt_or_eq_of_le h1 with hlt | rfl
  · have hd : decide ((i : Int) = (k : Int)) = false := decide_eq_false (by omega)
    rcases hS2.row.2 with ⟨h0, h00⟩ | ⟨gr, cc, cur, hve, hg, hnc3, hcm, hcc, hct⟩
    · omega
    injection hve with hA3 _ hcc3
    subst hA3 hcc3
    have hci : (c = i) = False := eq_false (by omega)
    try simp -dsimp only [↓RE,↓c_seq,RU,RL,if_true,if_false,forall_const,implies_true,Nat.reduceLeDiff,Nat.reduceLT,pureOp,binPure,intBin,strBin,eqPure,isConstO,unPure,sliceLo,sliceHi,slicePure,slice3Pure,lenPure,capPure,minPure,maxPure,buildP,resK,endV,yieldE,↓reduceIte,Nat.reduceEqDiff,reduceCtorEq,Nat.reduceAdd,Nat.reduceMul,Nat.reduceSub,Int.reduceLT,Int.reduceLE,Int.reduceToNat,Int.reduceAdd,Int.reduceSub,Int.reduceMul,ne_eq,decide_true,decide_false,tf8, he0, hd, hp2, hci, add_lit', Nat.zero_add, Option.map_some]
    refine ⟨by omega, ?_⟩
    refine sclone_ok (n := k - i) (sub_rd (n := 0) (c := 0) hS2.row.rd h1 h2) (by omega) (fun w3 A3 c3 hL3 g3 hF3 _ => ?_)
    try simp -dsimp only [↓RE,↓c_seq,RU,RL,if_true,if_false,forall_const,implies_true,Nat.reduceLeDiff,Nat.reduceLT,pureOp,binPure,intBin,strBin,eqPure,isConstO,unPure,sliceLo,sliceHi,slicePure,slice3Pure,lenPure,capPure,minPure,maxPure,buildP,resK,endV,yieldE,↓reduceIte,Nat.reduceEqDiff,reduceCtorEq,Nat.reduceAdd,Nat.reduceMul,Nat.reduceSub,Int.reduceLT,Int.reduceLE,Int.reduceToNat,Int.reduceAdd,Int.reduceSub,Int.reduceMul,ne_eq,decide_true,decide_false,tf8, he0]
    rw [← h3] at hL3
    unfold SRow at hL3
    rw [hlen] at hL3
    exact h w3 A3 c3 (g2.trans g3) (by unfold SRow; rw [hlen]; exact hL3) (fun q hq => by have := hF3 q hq; have := g2.size; omega)
  · have hd : decide ((i : Int) = (i : Int)) = true := decide_eq_true rfl
    have h0 : i - i = 0 := Nat.sub_self _
    rw [h0] at h3 h
    try simp -dsimp only [↓RE,↓c_seq,RU,RL,if_true,if_false,forall_const,implies_true,Nat.reduceLeDiff,Nat.reduceLT,pureOp,binPure,intBin,strBin,eqPure,isConstO,unPure,sliceLo,sliceHi,slicePure,slice3Pure,lenPure,capPure,minPure,maxPure,buildP,resK,endV,yieldE,↓reduceIte,Nat.reduceEqDiff,reduceCtorEq,Nat.reduceAdd,Nat.reduceMul,Nat.reduceSub,Int.reduceLT,Int.reduceLE,Int.reduceToNat,Int.reduceAdd,Int.reduceSub,Int.reduceMul,ne_eq,decide_true,decide_false,tf8, he0, hd, eq_self, decide_true]
    refine h w2 none 0 g2 ?_ (fun q hq => by obtain ⟨_, hq, _⟩ := hq; cases hq)
    rw [h3]
    exact LRow.nil _ _ _

end Go.Proofs.Ytifaobnemnbfhaa
