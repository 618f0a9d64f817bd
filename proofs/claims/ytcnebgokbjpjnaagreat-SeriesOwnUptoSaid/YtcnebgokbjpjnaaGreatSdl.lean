/- The program's series: Delete, Range. -/
import Derived.Test.YtcnebgokbjpjnaaGreatScut
set_option linter.unusedVariables false
set_option linter.unusedSimpArgs false
set_option maxRecDepth 100000
namespace Go.Proofs.YtcnebgokbjpjnaaGreat
open Go

/-- where a range stands. -/
structure SpanAt (l : List Smp) (a b : Int) (i k : Nat) : Prop where
  le : i ≤ k
  lt : k ≤ l.length
  range : sRange l a b = (l.drop i).take (k - i)
  del : sDel l a b = l.take i ++ l.drop k
theorem SpanAt.none {l : List Smp} {a b : Int} (h : b ≤ a) : SpanAt l a b 0 0 :=
  ⟨Nat.le_refl _, Nat.zero_le _, by rw [range_empty h]; simp, by rw [del_empty h]; simp⟩
theorem SpanAt.some {l : List Smp} {a b : Int} {i k : Nat} (hab : a < b) (h : Stand l a i) (h' : Stand l b k) : SpanAt l a b i k :=
  ⟨h.mono h' hab, h'.le, h.range h' hab, h.del h' hab⟩
theorem span_ok {w : World} {g : Nat} {v : Value} {l : List Smp} (hS : SerAt w g v l) (hn : l.length ≤ 5864062014634) {a b : Int} {R : VWK}
    (h : ∀ w' i k, Grow w w' → SpanAt l a b i k → R (.tuple #[.int .i64 (i : Nat), .int .i64 (k : Nat)]) w') :
    CallsV Tryz.prog 21 [.pointer (some ⟨g, 0, none⟩), .int .i64 a, .int .i64 b] w R := by
  obtain ⟨A, c, rfl, hnc, hA⟩ := hS.row.form
  have hp := hS.cell
  by_cases hab : b ≤ a
  · have hd : decide (b ≤ a) = true := decide_eq_true hab
    refine calls_of_wpC mixed Tryz.func21 rfl (by kernel_rfl) ?_
    intro e he
    have he0 := he 0
    have he1 := he 1
    have he2 := he 2
    simp only [List.getD_cons_zero, List.getD_cons_succ] at he0 he1 he2
    clear he
    try simp -dsimp only [↓RE,↓c_seq,RU,RL,if_true,if_false,forall_const,implies_true,Nat.reduceLeDiff,Nat.reduceLT,pureOp,binPure,intBin,strBin,eqPure,isConstO,unPure,sliceLo,sliceHi,slicePure,slice3Pure,lenPure,capPure,minPure,maxPure,buildP,resK,endV,yieldE,↓reduceIte,Nat.reduceEqDiff,reduceCtorEq,Nat.reduceAdd,Nat.reduceMul,Nat.reduceSub,Int.reduceLT,Int.reduceLE,Int.reduceToNat,Int.reduceAdd,Int.reduceSub,Int.reduceMul,ne_eq,decide_true,decide_false,tf21, he0, he1, he2, hd]
    exact h w 0 0 (Keep.refl _ _) (SpanAt.none hab)
  · have hd : decide (b ≤ a) = false := decide_eq_false hab
    refine calls_of_wpC mixed Tryz.func21 rfl (by kernel_rfl) ?_
    intro e he
    have he0 := he 0
    have he1 := he 1
    have he2 := he 2
    simp only [List.getD_cons_zero, List.getD_cons_succ] at he0 he1 he2
    clear he
    try simp -dsimp only [↓RE,↓c_seq,RU,RL,if_true,if_false,forall_const,implies_true,Nat.reduceLeDiff,Nat.reduceLT,pureOp,binPure,intBin,strBin,eqPure,isConstO,unPure,sliceLo,sliceHi,slicePure,slice3Pure,lenPure,capPure,minPure,maxPure,buildP,resK,endV,yieldE,↓reduceIte,Nat.reduceEqDiff,reduceCtorEq,Nat.reduceAdd,Nat.reduceMul,Nat.reduceSub,Int.reduceLT,Int.reduceLE,Int.reduceToNat,Int.reduceAdd,Int.reduceSub,Int.reduceMul,ne_eq,decide_true,decide_false,tf21, he0, he1, he2, hd]
    refine find_ok hp hS.row.rd hn hS.rise (fun w2 i g2 hst => ?_)
    try simp -dsimp only [↓RE,↓c_seq,RU,RL,if_true,if_false,forall_const,implies_true,Nat.reduceLeDiff,Nat.reduceLT,pureOp,binPure,intBin,strBin,eqPure,isConstO,unPure,sliceLo,sliceHi,slicePure,slice3Pure,lenPure,capPure,minPure,maxPure,buildP,resK,endV,yieldE,↓reduceIte,Nat.reduceEqDiff,reduceCtorEq,Nat.reduceAdd,Nat.reduceMul,Nat.reduceSub,Int.reduceLT,Int.reduceLE,Int.reduceToNat,Int.reduceAdd,Int.reduceSub,Int.reduceMul,ne_eq,decide_true,decide_false,tf21, he0, he1, he2, hd]
    refine find_ok (hS.grow g2).cell (hS.grow g2).row.rd hn hS.rise (fun w3 k g3 hst' => ?_)
    try simp -dsimp only [↓RE,↓c_seq,RU,RL,if_true,if_false,forall_const,implies_true,Nat.reduceLeDiff,Nat.reduceLT,pureOp,binPure,intBin,strBin,eqPure,isConstO,unPure,sliceLo,sliceHi,slicePure,slice3Pure,lenPure,capPure,minPure,maxPure,buildP,resK,endV,yieldE,↓reduceIte,Nat.reduceEqDiff,reduceCtorEq,Nat.reduceAdd,Nat.reduceMul,Nat.reduceSub,Int.reduceLT,Int.reduceLE,Int.reduceToNat,Int.reduceAdd,Int.reduceSub,Int.reduceMul,ne_eq,decide_true,decide_false,tf21, he0, he1, he2, hd]
    exact h w3 i k (g2.trans g3) (SpanAt.some (by omega) hst hst')
theorem sub_rd {w : World} {gr n c : Nat} {l : List Smp} (h : Rd w (some ⟨gr, 0, none⟩) l.length 3 (l.flatMap scells)) {i k : Nat} (hik : i ≤ k) (hk : k ≤ l.length) : Rd w (some ⟨gr, i * 3, none⟩) (k - i) 3 (((l.drop i).take (k - i)).flatMap scells) := by
  have h1 := rd_at h (i := i) (by omega)
  rw [flat_take, flat_drop]
  refine ⟨?_, fun h0 => ?_⟩
  · rw [List.length_take, List.length_drop, flat_length]; omega
  · obtain ⟨ad, he, hc⟩ := h1.2 (by omega)
    refine ⟨ad, he, fun j u hu => hc j u ?_⟩
    rw [List.getElem?_take] at hu
    split at hu
    · exact hu
    · cases hu
theorem range_ok {w : World} {g : Nat} {v : Value} {l : List Smp} (hS : SerAt w g v l) (hn : l.length ≤ 5864062014634) {a b : Int} {R : VWK}
    (h : ∀ w' A' c', Grow w w' → SRow w' (.slice A' (sRange l a b).length c') (sRange l a b) → (∀ k, fpA A' k → w.heap.size ≤ k) → R (.slice A' (sRange l a b).length c') w') :
    CallsV Tryz.prog 14 [.pointer (some ⟨g, 0, none⟩), .int .i64 a, .int .i64 b] w R := by
  refine calls_of_wpC mixed Tryz.func14 rfl (by kernel_rfl) ?_
  intro e he
  have he0 := he 0
  have he1 := he 1
  have he2 := he 2
  simp only [List.getD_cons_zero, List.getD_cons_succ] at he0 he1 he2
  clear he
  try simp -dsimp only [↓RE,↓c_seq,RU,RL,if_true,if_false,forall_const,implies_true,Nat.reduceLeDiff,Nat.reduceLT,pureOp,binPure,intBin,strBin,eqPure,isConstO,unPure,sliceLo,sliceHi,slicePure,slice3Pure,lenPure,capPure,minPure,maxPure,buildP,resK,endV,yieldE,↓reduceIte,Nat.reduceEqDiff,reduceCtorEq,Nat.reduceAdd,Nat.reduceMul,Nat.reduceSub,Int.reduceLT,Int.reduceLE,Int.reduceToNat,Int.reduceAdd,Int.reduceSub,Int.reduceMul,ne_eq,decide_true,decide_false,tf14, he0, he1, he2]
  refine span_ok hS hn (fun w2 i k g2 hsp => ?_)
  obtain ⟨A, c, rfl, hnc, hA⟩ := hS.row.form
  have hS2 := hS.grow g2
  have hp2 := hS2.cell
  obtain ⟨h1, h2, h3, h4⟩ := hsp
  have hlen : (sRange l a b).length = k - i := by rw [h3, List.length_take, List.length_drop]; omega
  rw [hlen] at h
  rcases Nat.lt_or_eq_of_le h1 with hlt | rfl
  · have hd : decide ((i : Int) = (k : Int)) = false := decide_eq_false (by omega)
    rcases hS2.row.2 with ⟨h0, h00⟩ | ⟨gr, cc, cur, hve, hg, hnc3, hcm, hcc, hct⟩
    · omega
    injection hve with hA3 _ hcc3
    subst hA3 hcc3
    have hci : (c = i) = False := eq_false (by omega)
    try simp -dsimp only [↓RE,↓c_seq,RU,RL,if_true,if_false,forall_const,implies_true,Nat.reduceLeDiff,Nat.reduceLT,pureOp,binPure,intBin,strBin,eqPure,isConstO,unPure,sliceLo,sliceHi,slicePure,slice3Pure,lenPure,capPure,minPure,maxPure,buildP,resK,endV,yieldE,↓reduceIte,Nat.reduceEqDiff,reduceCtorEq,Nat.reduceAdd,Nat.reduceMul,Nat.reduceSub,Int.reduceLT,Int.reduceLE,Int.reduceToNat,Int.reduceAdd,Int.reduceSub,Int.reduceMul,ne_eq,decide_true,decide_false,tf14, he0, hd, hp2, hci, add_lit', Nat.zero_add, Option.map_some]
    refine ⟨by omega, ?_⟩
    refine sclone_ok (n := k - i) (sub_rd (n := 0) (c := 0) hS2.row.rd h1 h2) (by omega) (fun w3 A3 c3 hL3 g3 hF3 _ => ?_)
    try simp -dsimp only [↓RE,↓c_seq,RU,RL,if_true,if_false,forall_const,implies_true,Nat.reduceLeDiff,Nat.reduceLT,pureOp,binPure,intBin,strBin,eqPure,isConstO,unPure,sliceLo,sliceHi,slicePure,slice3Pure,lenPure,capPure,minPure,maxPure,buildP,resK,endV,yieldE,↓reduceIte,Nat.reduceEqDiff,reduceCtorEq,Nat.reduceAdd,Nat.reduceMul,Nat.reduceSub,Int.reduceLT,Int.reduceLE,Int.reduceToNat,Int.reduceAdd,Int.reduceSub,Int.reduceMul,ne_eq,decide_true,decide_false,tf14, he0]
    rw [← h3] at hL3
    unfold SRow at hL3
    rw [hlen] at hL3
    exact h w3 A3 c3 (g2.trans g3) (by unfold SRow; rw [hlen]; exact hL3) (fun q hq => by have := hF3 q hq; have := g2.size; omega)
  · have hd : decide ((i : Int) = (i : Int)) = true := decide_eq_true rfl
    have h0 : i - i = 0 := Nat.sub_self _
    rw [h0] at h3 h
    try simp -dsimp only [↓RE,↓c_seq,RU,RL,if_true,if_false,forall_const,implies_true,Nat.reduceLeDiff,Nat.reduceLT,pureOp,binPure,intBin,strBin,eqPure,isConstO,unPure,sliceLo,sliceHi,slicePure,slice3Pure,lenPure,capPure,minPure,maxPure,buildP,resK,endV,yieldE,↓reduceIte,Nat.reduceEqDiff,reduceCtorEq,Nat.reduceAdd,Nat.reduceMul,Nat.reduceSub,Int.reduceLT,Int.reduceLE,Int.reduceToNat,Int.reduceAdd,Int.reduceSub,Int.reduceMul,ne_eq,decide_true,decide_false,tf14, he0, hd, eq_self, decide_true]
    refine h w2 none 0 g2 ?_ (fun q hq => by obtain ⟨_, hq, _⟩ := hq; cases hq)
    rw [h3]
    exact LRow.nil _ _ _

theorem del_ok {w : World} {g : Nat} {v : Value} {l : List Smp} (hS : SerAt w g v l) (hn : l.length ≤ 5864062014634) {a b : Int} {R : VWK}
    (h : ∀ w' v' A' c', SerAt w' g v' (sDel l a b) → Keep (fun i => i = g ∨ fpV v i) w w' → (∀ i, fpV v' i → fpV v i ∨ w.heap.size ≤ i) → SRow w' (.slice A' (sRange l a b).length c') (sRange l a b) → (∀ k, fpA A' k → w.heap.size ≤ k ∧ ¬ fpV v' k) → R (.slice A' (sRange l a b).length c') w') :
    CallsV Tryz.prog 8 [.pointer (some ⟨g, 0, none⟩), .int .i64 a, .int .i64 b] w R := by
  refine calls_of_wpC mixed Tryz.func8 rfl (by kernel_rfl) ?_
  intro e he
  have he0 := he 0
  have he1 := he 1
  have he2 := he 2
  simp only [List.getD_cons_zero, List.getD_cons_succ] at he0 he1 he2
  clear he
  try simp -dsimp only [↓RE,↓c_seq,RU,RL,if_true,if_false,forall_const,implies_true,Nat.reduceLeDiff,Nat.reduceLT,pureOp,binPure,intBin,strBin,eqPure,isConstO,unPure,sliceLo,sliceHi,slicePure,slice3Pure,lenPure,capPure,minPure,maxPure,buildP,resK,endV,yieldE,↓reduceIte,Nat.reduceEqDiff,reduceCtorEq,Nat.reduceAdd,Nat.reduceMul,Nat.reduceSub,Int.reduceLT,Int.reduceLE,Int.reduceToNat,Int.reduceAdd,Int.reduceSub,Int.reduceMul,ne_eq,decide_true,decide_false,tf8, he0, he1, he2]
  refine span_ok hS hn (fun w2 i k g2 hsp => ?_)
  obtain ⟨A, c, rfl, hnc, hA⟩ := hS.row.form
  have hS2 := hS.grow g2
  have hp2 := hS2.cell
  have hgl := hS.b.lt
  have hrl := hS.row.lt
  obtain ⟨h1, h2, h3, h4⟩ := hsp
  have hlen : (sRange l a b).length = k - i := by rw [h3, List.length_take, List.length_drop]; omega
  rw [hlen] at h
  rcases Nat.lt_or_eq_of_le h1 with hlt | rfl
  · have hd : decide ((i : Int) = (k : Int)) = false := decide_eq_false (by omega)
    rcases hS2.row.2 with ⟨h0, h00⟩ | ⟨gr, cc, cur, hve, hg, hnc3, hcm, hcc, hct⟩
    · omega
    injection hve with hA3 _ hcc3
    subst hA3 hcc3
    have hci : (c = i) = False := eq_false (by omega)
    refine os_gen (fun e' => e' 0 = .pointer (some ⟨g, 0, none⟩) ∧ e' 14 = .tuple #[.int .i64 (i : Nat), .int .i64 (k : Nat)]) ⟨?_, ?_⟩ ?_
    · simp -dsimp only [↓RE,RU,RL,if_true,if_false,↓reduceIte,Nat.reduceEqDiff,reduceCtorEq,decide_true,decide_false, he0]
    · simp -dsimp only [↓RE,RU,RL,if_true,if_false,↓reduceIte,Nat.reduceEqDiff,reduceCtorEq,decide_true,decide_false, he0]
    clear he0 he1 he2 e
    rintro e ⟨he0, he14⟩
    simp -dsimp only [↓RE,RU,RL,if_true,if_false,forall_const,implies_true,Nat.reduceLeDiff,Nat.reduceLT,pureOp,binPure,intBin,strBin,eqPure,isConstO,unPure,sliceLo,sliceHi,slicePure,slice3Pure,lenPure,capPure,minPure,maxPure,buildP,resK,endV,yieldE,↓reduceIte,Nat.reduceEqDiff,reduceCtorEq,Nat.reduceAdd,Nat.reduceMul,Nat.reduceSub,Int.reduceLT,Int.reduceLE,Int.reduceToNat,Int.reduceAdd,Int.reduceSub,Int.reduceMul,ne_eq,decide_true,decide_false,tf8, he0, he14]
    rw [c_seq, c_seq]
    simp -dsimp only [↓RE,RU,RL,if_true,if_false,forall_const,implies_true,Nat.reduceLeDiff,Nat.reduceLT,pureOp,binPure,intBin,strBin,eqPure,isConstO,unPure,sliceLo,sliceHi,slicePure,slice3Pure,lenPure,capPure,minPure,maxPure,buildP,resK,endV,yieldE,↓reduceIte,Nat.reduceEqDiff,reduceCtorEq,Nat.reduceAdd,Nat.reduceMul,Nat.reduceSub,Int.reduceLT,Int.reduceLE,Int.reduceToNat,Int.reduceAdd,Int.reduceSub,Int.reduceMul,ne_eq,decide_true,decide_false,tf8, he0, hd]
    rw [c_seq]
    simp -dsimp only [↓RE,RU,RL,if_true,if_false,forall_const,implies_true,Nat.reduceLeDiff,Nat.reduceLT,pureOp,binPure,intBin,strBin,eqPure,isConstO,unPure,sliceLo,sliceHi,slicePure,slice3Pure,lenPure,capPure,minPure,maxPure,buildP,resK,endV,yieldE,↓reduceIte,Nat.reduceEqDiff,reduceCtorEq,Nat.reduceAdd,Nat.reduceMul,Nat.reduceSub,Int.reduceLT,Int.reduceLE,Int.reduceToNat,Int.reduceAdd,Int.reduceSub,Int.reduceMul,ne_eq,decide_true,decide_false,tf8, he0, hd, hp2, hci, add_lit', Nat.zero_add, Option.map_some]
    refine ⟨by omega, ?_⟩
    refine sclone_ok (n := k - i) (sub_rd (n := 0) (c := 0) hS2.row.rd h1 h2) (by omega) (fun w3 A3 c3 hL3 g3 hF3 _ => ?_)
    have hS3 := hS2.grow g3
    have hp3 : w3.drew.cell? ⟨g, 0, none⟩ = some (.slice (some ⟨gr, 0, none⟩) l.length c) := (hS3.b.drew.cell 0).trans rfl
    refine os_gen (fun e' => e' 0 = .pointer (some ⟨g, 0, none⟩) ∧ e' 7 = .int .i64 (i : Nat) ∧ e' 8 = .int .i64 (k : Nat) ∧ e' 28 = .slice A3 (k - i) c3) ⟨?_, ?_, ?_, ?_⟩ ?_
    · simp -dsimp only [↓RE,RU,RL,if_true,if_false,↓reduceIte,Nat.reduceEqDiff,reduceCtorEq,decide_true,decide_false, he0]
    · simp -dsimp only [↓RE,RU,RL,if_true,if_false,↓reduceIte,Nat.reduceEqDiff,reduceCtorEq,decide_true,decide_false, he14]
    · simp -dsimp only [↓RE,RU,RL,if_true,if_false,↓reduceIte,Nat.reduceEqDiff,reduceCtorEq,decide_true,decide_false, he14]
    · simp -dsimp only [↓RE,RU,RL,if_true,if_false,↓reduceIte,Nat.reduceEqDiff,reduceCtorEq,decide_true,decide_false, he0]
    clear he0 he14 e
    rintro e ⟨he0, he7, he8, he28⟩
    simp -dsimp only [↓RE,RU,RL,if_true,if_false,forall_const,implies_true,Nat.reduceLeDiff,Nat.reduceLT,pureOp,binPure,intBin,strBin,eqPure,isConstO,unPure,sliceLo,sliceHi,slicePure,slice3Pure,lenPure,capPure,minPure,maxPure,buildP,resK,endV,yieldE,↓reduceIte,Nat.reduceEqDiff,reduceCtorEq,Nat.reduceAdd,Nat.reduceMul,Nat.reduceSub,Int.reduceLT,Int.reduceLE,Int.reduceToNat,Int.reduceAdd,Int.reduceSub,Int.reduceMul,ne_eq,decide_true,decide_false,tf8, he28]
    rw [c_seq]
    simp -dsimp only [↓RE,RU,RL,if_true,if_false,forall_const,implies_true,Nat.reduceLeDiff,Nat.reduceLT,pureOp,binPure,intBin,strBin,eqPure,isConstO,unPure,sliceLo,sliceHi,slicePure,slice3Pure,lenPure,capPure,minPure,maxPure,buildP,resK,endV,yieldE,↓reduceIte,Nat.reduceEqDiff,reduceCtorEq,Nat.reduceAdd,Nat.reduceMul,Nat.reduceSub,Int.reduceLT,Int.reduceLE,Int.reduceToNat,Int.reduceAdd,Int.reduceSub,Int.reduceMul,ne_eq,decide_true,decide_false,tf8, he28]
    obtain ⟨ad, hif, hRd⟩ : ∃ ad, (if c = k then (some (⟨gr, 0, none⟩ : Addr) : Option Addr) else some ⟨gr, k * 3, none⟩) = some ad ∧ Rd w3.drew (some ad) (l.length - k) 3 ((l.drop k).flatMap scells) := by
      by_cases hc : c = k
      · refine ⟨⟨gr, 0, none⟩, if_pos hc, ?_⟩
        have h0 : l.length - k = 0 := by omega
        rw [h0, List.drop_of_length_le (by omega)]
        exact Rd.nil _ _ _
      · refine ⟨⟨gr, k * 3, none⟩, if_neg hc, ?_⟩
        rw [flat_drop]
        exact rd_at hS3.row.rd.drew h2
    refine wpDraw_fin (fun w' => w'.cell? ⟨g, 0, none⟩ = some (.slice (some ⟨gr, 0, none⟩) l.length c)) [(0, true), (1, true), (2, true), (3, true), (4, true), (5, true), (6, true), (7, true), (8, true), (9, true), (10, true), (11, true), (12, true), (13, true), (14, true), (15, true), (16, false), (17, true), (18, true), (19, true)] 20 (by kernel_rfl) hp3 ?_
    simp only [planL, List.getElem?_toArray, List.getElem?_cons_zero, List.getElem?_cons_succ, Option.toList_some, List.map_cons, List.map_nil, List.cons_append, List.nil_append]
    simp -dsimp only [↓RE,RU,RL,if_true,if_false,forall_const,implies_true,Nat.reduceLeDiff,Nat.reduceLT,pureOp,binPure,intBin,strBin,eqPure,isConstO,unPure,sliceLo,sliceHi,slicePure,slice3Pure,lenPure,capPure,minPure,maxPure,buildP,resK,endV,yieldE,↓reduceIte,Nat.reduceEqDiff,reduceCtorEq,Nat.reduceAdd,Nat.reduceMul,Nat.reduceSub,Int.reduceLT,Int.reduceLE,Int.reduceToNat,Int.reduceAdd,Int.reduceSub,Int.reduceMul,ne_eq,decide_true,decide_false,tf8, he0, he7, he8, hif, add_lit', add_zero', Nat.zero_add, Option.map_some, Nat.sub_zero, ite_self]
    refine ⟨_, fun _ hw => hw, ?_⟩
    simp -dsimp only [↓RE,RU,RL,if_true,if_false,forall_const,implies_true,Nat.reduceLeDiff,Nat.reduceLT,pureOp,binPure,intBin,strBin,eqPure,isConstO,unPure,sliceLo,sliceHi,slicePure,slice3Pure,lenPure,capPure,minPure,maxPure,buildP,resK,endV,yieldE,↓reduceIte,Nat.reduceEqDiff,reduceCtorEq,Nat.reduceAdd,Nat.reduceMul,Nat.reduceSub,Int.reduceLT,Int.reduceLE,Int.reduceToNat,Int.reduceAdd,Int.reduceSub,Int.reduceMul,ne_eq,decide_true,decide_false,tf8, he0, he7, he8, hif, add_lit', add_zero', Nat.zero_add, Option.map_some, Nat.sub_zero, ite_self]
    refine ⟨by omega, ?_⟩
    refine ⟨_, fun _ hw => hw, ?_⟩
    simp -dsimp only [↓RE,RU,RL,if_true,if_false,forall_const,implies_true,Nat.reduceLeDiff,Nat.reduceLT,pureOp,binPure,intBin,strBin,eqPure,isConstO,unPure,sliceLo,sliceHi,slicePure,slice3Pure,lenPure,capPure,minPure,maxPure,buildP,resK,endV,yieldE,↓reduceIte,Nat.reduceEqDiff,reduceCtorEq,Nat.reduceAdd,Nat.reduceMul,Nat.reduceSub,Int.reduceLT,Int.reduceLE,Int.reduceToNat,Int.reduceAdd,Int.reduceSub,Int.reduceMul,ne_eq,decide_true,decide_false,tf8, he0, he7, he8, hif, add_lit', add_zero', Nat.zero_add, Option.map_some, Nat.sub_zero, ite_self]
    refine ⟨by omega, ?_⟩
    have hLi := (hS3.row.grow (Grow.drew w3)).pre3 (k := i) (by omega)
    refine appK_l (bytes := 24) (by kernel_rfl) hLi hRd (fun u hu => scells_one _ u hu) (by simp only [maxLen]; omega) (by omega) (fun A5 c5 w5 hL5 hK5 hF5 _ => ?_)
    have hL5' : SRow w5 (.slice A5 (i + (l.length - k)) c5) (sDel l a b) := by
      rw [h4]
      have e1 : (l.take i ++ l.drop k).length = i + (l.length - k) := by rw [List.length_append, List.length_take, List.length_drop]; omega
      unfold SRow
      rw [e1, List.flatMap_append, flat_take]
      exact hL5
    have hK5' : Keep (fun q => q = gr) w3 w5 := ((Grow.drew w3).then hK5).mono (fun q _ hq => (fpV_some _ _ _ _).1 hq)
    have hgr : gr < w.heap.size := hrl gr ((fpV_some _ _ _ _).2 rfl)
    have hgg : gr ≠ g := fun he => hS.ne ((fpV_some _ _ _ _).2 he.symm)
    have hs23 := g3.size
    have hs2 := g2.size
    have hB5 : Blk w5 g 82 [.slice (some ⟨gr, 0, none⟩) l.length c] := hS3.b.keep hK5' (Ne.symm hgg)
    have hF5' : ∀ q, fpA A5 q → q = gr ∨ q = w3.heap.size := fun q hq => (hF5 q ((fpV_fpA _ _ _ _).2 hq)).imp (fun hq => (fpV_some _ _ _ _).1 hq) id
    have hL35 := hL3.keep hK5' (fun q hq e => by have := hF3 q ((fpV_fpA _ _ _ _).1 hq); omega)
    have hlt3 : ∀ q, fpA A3 q → q < w3.heap.size := fun q hq => hL3.lt q ((fpV_fpA _ _ _ _).2 hq)
    refine ⟨(hB5.cell 0).trans rfl, ?_⟩
    simp -dsimp only [↓RE,RU,RL,if_true,if_false,forall_const,implies_true,Nat.reduceLeDiff,Nat.reduceLT,pureOp,binPure,intBin,strBin,eqPure,isConstO,unPure,sliceLo,sliceHi,slicePure,slice3Pure,lenPure,capPure,minPure,maxPure,buildP,resK,endV,yieldE,↓reduceIte,Nat.reduceEqDiff,reduceCtorEq,Nat.reduceAdd,Nat.reduceMul,Nat.reduceSub,Int.reduceLT,Int.reduceLE,Int.reduceToNat,Int.reduceAdd,Int.reduceSub,Int.reduceMul,ne_eq,decide_true,decide_false,tf8, he0]
    refine hB5.st (i := 0) (by simp) ?_
    have hB6 := hB5.set 0 (.slice A5 (i + (l.length - k)) c5)
    have k6 := Keep.set1 w5 g 0 (.slice A5 (i + (l.length - k)) c5)
    simp -dsimp only [↓RE,RU,RL,if_true,if_false,forall_const,implies_true,Nat.reduceLeDiff,Nat.reduceLT,pureOp,binPure,intBin,strBin,eqPure,isConstO,unPure,sliceLo,sliceHi,slicePure,slice3Pure,lenPure,capPure,minPure,maxPure,buildP,resK,endV,yieldE,↓reduceIte,Nat.reduceEqDiff,reduceCtorEq,Nat.reduceAdd,Nat.reduceMul,Nat.reduceSub,Int.reduceLT,Int.reduceLE,Int.reduceToNat,Int.reduceAdd,Int.reduceSub,Int.reduceMul,ne_eq,decide_true,decide_false,tf8, he28]
    rw [c_seq]
    simp -dsimp only [↓RE,RU,RL,if_true,if_false,forall_const,implies_true,Nat.reduceLeDiff,Nat.reduceLT,pureOp,binPure,intBin,strBin,eqPure,isConstO,unPure,sliceLo,sliceHi,slicePure,slice3Pure,lenPure,capPure,minPure,maxPure,buildP,resK,endV,yieldE,↓reduceIte,Nat.reduceEqDiff,reduceCtorEq,Nat.reduceAdd,Nat.reduceMul,Nat.reduceSub,Int.reduceLT,Int.reduceLE,Int.reduceToNat,Int.reduceAdd,Int.reduceSub,Int.reduceMul,ne_eq,decide_true,decide_false,tf8, he28]
    have k06 : Keep (fun q => q = g ∨ fpV (.slice (some ⟨gr, 0, none⟩) l.length c) q) w (w5.setCell ⟨g, 0, none⟩ (.slice A5 (i + (l.length - k)) c5)) :=
      (g2.trans g3).above' (hK5'.trans k6 (fun q _ h => (Or.inr ((fpV_some _ _ _ _).2 h) : q = g ∨ fpV (.slice (some ⟨gr, 0, none⟩) l.length c) q)) (fun q _ h => .inl h)) (fun _ _ h => h)
    refine h _ (.slice A5 (i + (l.length - k)) c5) A3 c3 ⟨hB6, hL5'.keep k6 (fun q hq e => ?_), hS.rise.del a b⟩ k06 (fun q hq => ?_) ?_ (fun q hq => ⟨by have := hF3 q hq; omega, fun hq' => ?_⟩)
    · rcases hF5' q ((fpV_fpA _ _ _ _).1 hq) with h | h <;> omega
    · rcases hF5' q ((fpV_fpA _ _ _ _).1 hq) with h | h
      · exact .inl ((fpV_some _ _ _ _).2 h)
      · right; omega
    · have := hL35.keep k6 (fun q hq e => by have := hF3 q ((fpV_fpA _ _ _ _).1 hq); omega)
      unfold SRow
      rw [hlen, h3]
      unfold SRow at this
      rw [List.length_take, List.length_drop, Nat.min_eq_left (by omega)] at this
      exact this
    · have h5 := hlt3 q hq
      have h6 := hF3 q hq
      rcases hF5' q ((fpV_fpA _ _ _ _).1 hq') with h | h <;> omega
  · have hd : decide ((i : Int) = (i : Int)) = true := decide_eq_true rfl
    have h0 : i - i = 0 := Nat.sub_self _
    rw [h0] at h3 h
    rw [List.take_append_drop] at h4
    try simp -dsimp only [↓RE,↓c_seq,RU,RL,if_true,if_false,forall_const,implies_true,Nat.reduceLeDiff,Nat.reduceLT,pureOp,binPure,intBin,strBin,eqPure,isConstO,unPure,sliceLo,sliceHi,slicePure,slice3Pure,lenPure,capPure,minPure,maxPure,buildP,resK,endV,yieldE,↓reduceIte,Nat.reduceEqDiff,reduceCtorEq,Nat.reduceAdd,Nat.reduceMul,Nat.reduceSub,Int.reduceLT,Int.reduceLE,Int.reduceToNat,Int.reduceAdd,Int.reduceSub,Int.reduceMul,ne_eq,decide_true,decide_false,tf8, he0, hd, eq_self, decide_true]
    refine h w2 _ none 0 (by rw [h4]; exact hS2) (g2.mono (fun _ _ h => h.elim)) (fun q hq => .inl hq) ?_ (fun q hq => by obtain ⟨_, hq, _⟩ := hq; cases hq)
    rw [h3]
    exact LRow.nil _ _ _

end Go.Proofs.YtcnebgokbjpjnaaGreat
