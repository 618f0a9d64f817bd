/- The document's series: New, ahead, Get, at, Len, First, Last, Before, Behind, and the program's. -/
/- The document's series: Put, Cut. -/
/- The document's series: Range, Delete, Fork; of both: the sample of a number. -/
/- Of both series: the sample of a number, First, Last, Before, Behind; Fork. -/
import Derived.Test.YtifaobnemnbfhaaSdl
import Derived.Test.YtifaobnemnbfhaaLive8
set_option linter.unusedVariables false
set_option linter.unusedSimpArgs false
set_option maxRecDepth 100000
namespace Go.Proofs.Ytifaobnemnbfhaa
open Go

/-- how many lie ahead of a time. -/
def aheadN (l : List Smp) (t : Int) : Nat := (l.filter (fun s => decide (s.1 < t))).length
theorem Stand.ahead {l : List Smp} {t : Int} {i : Nat} (h : Stand l t i) : aheadN l t = i := by
  rw [aheadN, h.take, List.length_take]; have := h.le; omega
abbrev cS (s : Smp) : Value := .agg #[.int .i64 s.1, .int .u8 s.2.1, .int .i64 s.2.2]
/-- the sample of a number. -/
def nthV (l : List Smp) (z : Int) : Smp × Bool := if 0 ≤ z ∧ z < l.length then (l.getD z.toNat (0, 0, 0), true) else ((0, 0, 0), false)
end Go.Proofs.Ytifaobnemnbfhaa

namespace Go.Proofs.Ytifaobnemnbfhaa
open Go

theorem Stand.has {l : List Smp} (hr : Rise l) {t : Int} {i : Nat} (h : Stand l t i) : sHas l t = isAt l t i := by
  rw [sHas, h.get hr]
  cases isAt l t i <;> rfl
/-- what stands from a place on. -/
theorem LRow.cut {w : World} {A : Option Addr} {c n : Nat} {l : List Smp} (h : LRow w 35 3 (.slice A n c) l.length (l.flatMap scells)) {i : Nat} (hi : i ≤ l.length) (hn : n = l.length) :
    ∃ A', (if c = i then A else Option.map (fun x => x.add (i * 3)) A) = A' ∧ Rd w A' (n - i) 3 ((l.drop i).flatMap scells) := by
  subst hn
  obtain ⟨A', c', he, hnc, hA⟩ := h.form
  injection he with h1 _ h2
  subst h1 h2
  have := (h.rd).cut (k := i) (m := l.length) (cap := c) hi (Nat.le_refl _) hnc
  refine ⟨_, rfl, ?_⟩
  rw [flat_drop]
  have e : (l.flatMap scells).length = l.length * 3 := flat_length l
  rw [List.take_of_length_le (by rw [List.length_drop, e, Nat.sub_mul]; omega)] at this
  exact this
theorem app_smp {w : World} {v : Value} {xs ys : List Smp} (h : SRow w v xs) {A : Option Addr} {m c : Nat} (hr : Rd w A m 3 (ys.flatMap scells)) (hb : xs.length + ys.length ≤ 5864062014634) {K : VWK} {tk : Tok K} {ty : TypeId}
    (hK : ∀ A' c' w', SRow w' (.slice A' (xs.length + ys.length) c') (xs ++ ys) → Keep (fpV v) w w' → (∀ k, fpV (.slice A' (xs.length + ys.length) c') k → fpV v k ∨ k = w.heap.size) → K (.slice A' (xs.length + ys.length) c') w') :
    appK Try.prog [29, 29] ty [v, .slice A m c] w K tk := by
  have hm := hr.flat3
  subst hm
  refine appK_l (bytes := 24) (by kernel_rfl) h hr (fun u hu => scells_one _ u hu) (by simp only [maxLen]; omega) (by omega) (fun A' c' w' hL k1 f1 _ => hK A' c' w' ?_ k1 f1)
  unfold SRow
  rw [List.length_append, List.flatMap_append]
  exact hL
theorem Stand.ex {l : List Smp} (hr : Rise l) (t : Int) : ∃ i, Stand l t i := by
  induction l with
  | nil => exact ⟨0, Nat.le_refl _, fun j hj => by omega, fun j _ hj => by simp at hj⟩
  | cons a l ih =>
    obtain ⟨h1, h2⟩ := List.pairwise_cons.1 hr
    by_cases ha : a.1 < t
    · obtain ⟨i, hi⟩ := ih h2
      refine ⟨i + 1, by have := hi.le; simp; omega, fun j hj => ?_, fun j hj hjl => ?_⟩
      · cases j with
        | zero => exact ha
        | succ j => exact hi.lo j (by omega)
      · cases j with
        | zero => omega
        | succ j => exact hi.hi j (by omega) (by simpa using hjl)
    · refine ⟨0, Nat.zero_le _, fun j hj => by omega, fun j _ hjl => ?_⟩
      cases j with
      | zero => show t ≤ a.1; omega
      | succ j =>
        have hjl' : j < l.length := by simpa using hjl
        have := h1 l[j] (List.getElem_mem hjl')
        show t ≤ (l.getD j (0, 0, 0)).1
        rw [getD_lt hjl']; omega
theorem SRow_len {w w' : World} {v : Value} {l : List Smp} {n : Nat} (h : SRow w v l) (hn : l.length = n) (g : Grow w w') : SRow w' v l := h.grow g
end Go.Proofs.Ytifaobnemnbfhaa

namespace Go.Proofs.Ytifaobnemnbfhaa
open Go

def cuts (l ts : List Smp) : List Smp := ts.foldl (fun l s => sCut l s.1) l
theorem cuts_eq : ∀ (ts l : List Smp), cuts l ts = l.filter (fun x => ts.all (fun s => decide (x.1 ≠ s.1)))
  | [], l => (filt_all (fun _ _ => rfl)).symm
  | s :: ts, l => by
    rw [show cuts l (s :: ts) = cuts (sCut l s.1) ts from rfl, cuts_eq ts, sCut, List.filter_filter]
    congr 1
    funext x
    rw [List.all_cons, Bool.and_comm]
theorem cuts_range (l : List Smp) (a b : Int) : cuts l (sRange l a b) = sDel l a b := by
  rw [cuts_eq, sDel]
  refine List.filter_congr (fun x hx => ?_)
  cases hr : inR a b x with
  | true =>
    rw [Bool.not_true, List.all_eq_false]
    exact ⟨x, List.mem_filter.2 ⟨hx, hr⟩, by simp⟩
  | false =>
    rw [Bool.not_false, List.all_eq_true]
    intro s hs
    have hs2 := (List.mem_filter.1 hs).2
    rw [decide_eq_true_iff]
    intro he
    unfold inR at hr hs2
    rw [he, hs2] at hr
    cases hr
theorem Rise.cuts {l : List Smp} (h : Rise l) (ts : List Smp) : Rise (cuts l ts) := by rw [cuts_eq]; exact h.filter _
theorem cuts_len (l ts : List Smp) : (Go.Proofs.Ytifaobnemnbfhaa.cuts l ts).length ≤ l.length := by rw [cuts_eq]; exact List.length_filter_le _ _
end Go.Proofs.Ytifaobnemnbfhaa

namespace Go.Proofs.Ytifaobnemnbfhaa
open Go

theorem blk_agg3 {w : World} {g : Nat} {t : TypeId} {a b c : Value} (h : Blk w g t [a, b, c]) {K : VK} {tk : Tok K} (hk : K (.agg #[a, b, c])) : aggK w ⟨g, 0, none⟩ (some 3) K tk := h.aggK (by simp) hk
/-- a time's place less one. -/
theorem sub_one {n : Nat} (h : n ≤ 5864062014634) : IntKind.i64.wrap ((n : Int) - 1) = (n : Int) - 1 := wrap_i64_in (by omega) (by omega)
theorem nth_ok {w : World} {g : Nat} {v : Value} {l : List Smp} (hS : SerAt w g v l) (hn : l.length ≤ 5864062014634) {z : Int} {R : VWK}
    (h : ∀ w', Grow w w' → R (.tuple #[cS (nthV l z).1, .bool (nthV l z).2]) w') : CallsV Try.prog 21 [.pointer (some ⟨g, 0, none⟩), .int .i64 z] w R := by
  obtain ⟨A, c, rfl, hnc, hA⟩ := hS.row.form
  have hb1 := Blk.new' w 35 #[.int .i64 0, .int .u8 0, .int .i64 0]
  have g1 := Grow.alloc w (.cells #[.int .i64 0, .int .u8 0, .int .i64 0] 35)
  have hS1 := hS.grow g1
  have hp1 := hS1.cell
  refine calls_of_wpC mixed Try.func21 rfl (by kernel_rfl) ?_
  intro e he
  have he0 := he 0
  have he1 := he 1
  simp only [List.getD_cons_zero, List.getD_cons_succ] at he0 he1
  clear he
  cases hz : decide (z < 0) with
  | true =>
    have hv : nthV l z = ((0, 0, 0), false) := by rw [nthV, if_neg (by have := of_decide_eq_true hz; omega)]
    rw [hv] at h
    try simp -dsimp only [↓RE,↓c_seq,RU,RL,if_true,if_false,forall_const,implies_true,Nat.reduceLeDiff,Nat.reduceLT,pureOp,binPure,intBin,strBin,eqPure,isConstO,unPure,sliceLo,sliceHi,slicePure,slice3Pure,lenPure,capPure,minPure,maxPure,buildP,resK,endV,yieldE,↓reduceIte,Nat.reduceEqDiff,reduceCtorEq,Nat.reduceAdd,Nat.reduceMul,Nat.reduceSub,Int.reduceLT,Int.reduceLE,Int.reduceToNat,Int.reduceAdd,Int.reduceSub,Int.reduceMul,ne_eq,decide_true,decide_false,tf21, he0, he1, hz, undef]
    refine blk_st3 hb1 rfl rfl rfl (fun w3 hb3 k3 => ?_)
    try simp -dsimp only [↓RE,↓c_seq,RU,RL,if_true,if_false,forall_const,implies_true,Nat.reduceLeDiff,Nat.reduceLT,pureOp,binPure,intBin,strBin,eqPure,isConstO,unPure,sliceLo,sliceHi,slicePure,slice3Pure,lenPure,capPure,minPure,maxPure,buildP,resK,endV,yieldE,↓reduceIte,Nat.reduceEqDiff,reduceCtorEq,Nat.reduceAdd,Nat.reduceMul,Nat.reduceSub,Int.reduceLT,Int.reduceLE,Int.reduceToNat,Int.reduceAdd,Int.reduceSub,Int.reduceMul,ne_eq,decide_true,decide_false,tf21, he0]
    refine blk_agg3 hb3 ?_
    try simp -dsimp only [↓RE,↓c_seq,RU,RL,if_true,if_false,forall_const,implies_true,Nat.reduceLeDiff,Nat.reduceLT,pureOp,binPure,intBin,strBin,eqPure,isConstO,unPure,sliceLo,sliceHi,slicePure,slice3Pure,lenPure,capPure,minPure,maxPure,buildP,resK,endV,yieldE,↓reduceIte,Nat.reduceEqDiff,reduceCtorEq,Nat.reduceAdd,Nat.reduceMul,Nat.reduceSub,Int.reduceLT,Int.reduceLE,Int.reduceToNat,Int.reduceAdd,Int.reduceSub,Int.reduceMul,ne_eq,decide_true,decide_false,tf21, he0]
    exact h w3 (Keep.above g1 k3 (fun k hk e => by omega))
  | false =>
    have hz0 := of_decide_eq_false hz
    cases hd : decide ((l.length : Int) ≤ z) with
    | true =>
      have hv : nthV l z = ((0, 0, 0), false) := by rw [nthV, if_neg (by have := of_decide_eq_true hd; omega)]
      rw [hv] at h
      try simp -dsimp only [↓RE,↓c_seq,RU,RL,if_true,if_false,forall_const,implies_true,Nat.reduceLeDiff,Nat.reduceLT,pureOp,binPure,intBin,strBin,eqPure,isConstO,unPure,sliceLo,sliceHi,slicePure,slice3Pure,lenPure,capPure,minPure,maxPure,buildP,resK,endV,yieldE,↓reduceIte,Nat.reduceEqDiff,reduceCtorEq,Nat.reduceAdd,Nat.reduceMul,Nat.reduceSub,Int.reduceLT,Int.reduceLE,Int.reduceToNat,Int.reduceAdd,Int.reduceSub,Int.reduceMul,ne_eq,decide_true,decide_false,tf21, he0, he1, hz, hp1, hd]
      refine blk_st3 hb1 rfl rfl rfl (fun w3 hb3 k3 => ?_)
      try simp -dsimp only [↓RE,↓c_seq,RU,RL,if_true,if_false,forall_const,implies_true,Nat.reduceLeDiff,Nat.reduceLT,pureOp,binPure,intBin,strBin,eqPure,isConstO,unPure,sliceLo,sliceHi,slicePure,slice3Pure,lenPure,capPure,minPure,maxPure,buildP,resK,endV,yieldE,↓reduceIte,Nat.reduceEqDiff,reduceCtorEq,Nat.reduceAdd,Nat.reduceMul,Nat.reduceSub,Int.reduceLT,Int.reduceLE,Int.reduceToNat,Int.reduceAdd,Int.reduceSub,Int.reduceMul,ne_eq,decide_true,decide_false,tf21, he0]
      refine blk_agg3 hb3 ?_
      try simp -dsimp only [↓RE,↓c_seq,RU,RL,if_true,if_false,forall_const,implies_true,Nat.reduceLeDiff,Nat.reduceLT,pureOp,binPure,intBin,strBin,eqPure,isConstO,unPure,sliceLo,sliceHi,slicePure,slice3Pure,lenPure,capPure,minPure,maxPure,buildP,resK,endV,yieldE,↓reduceIte,Nat.reduceEqDiff,reduceCtorEq,Nat.reduceAdd,Nat.reduceMul,Nat.reduceSub,Int.reduceLT,Int.reduceLE,Int.reduceToNat,Int.reduceAdd,Int.reduceSub,Int.reduceMul,ne_eq,decide_true,decide_false,tf21, he0]
      exact h w3 (Keep.above g1 k3 (fun k hk e => by omega))
    | false =>
      have hdl := of_decide_eq_false hd
      obtain ⟨i, rfl⟩ : ∃ i : Nat, z = i := ⟨z.toNat, by omega⟩
      have hv : nthV l (i : Int) = (l.getD i (0, 0, 0), true) := by rw [nthV, if_pos (by omega), Int.toNat_natCast]
      rw [hv] at h
      obtain ⟨ad, rfl, hca, hcv, hcs⟩ := hS1.row.rd.smp (k := i) (by omega)
      try simp -dsimp only [↓RE,↓c_seq,RU,RL,if_true,if_false,forall_const,implies_true,Nat.reduceLeDiff,Nat.reduceLT,pureOp,binPure,intBin,strBin,eqPure,isConstO,unPure,sliceLo,sliceHi,slicePure,slice3Pure,lenPure,capPure,minPure,maxPure,buildP,resK,endV,yieldE,↓reduceIte,Nat.reduceEqDiff,reduceCtorEq,Nat.reduceAdd,Nat.reduceMul,Nat.reduceSub,Int.reduceLT,Int.reduceLE,Int.reduceToNat,Int.reduceAdd,Int.reduceSub,Int.reduceMul,ne_eq,decide_true,decide_false,tf21, he0, he1, hz, hp1, hd]
      refine ⟨by omega, hcs ?_⟩
      try simp -dsimp only [↓RE,↓c_seq,RU,RL,if_true,if_false,forall_const,implies_true,Nat.reduceLeDiff,Nat.reduceLT,pureOp,binPure,intBin,strBin,eqPure,isConstO,unPure,sliceLo,sliceHi,slicePure,slice3Pure,lenPure,capPure,minPure,maxPure,buildP,resK,endV,yieldE,↓reduceIte,Nat.reduceEqDiff,reduceCtorEq,Nat.reduceAdd,Nat.reduceMul,Nat.reduceSub,Int.reduceLT,Int.reduceLE,Int.reduceToNat,Int.reduceAdd,Int.reduceSub,Int.reduceMul,ne_eq,decide_true,decide_false,tf21, he0]
      refine blk_st3 hb1 rfl rfl rfl (fun w3 hb3 k3 => ?_)
      try simp -dsimp only [↓RE,↓c_seq,RU,RL,if_true,if_false,forall_const,implies_true,Nat.reduceLeDiff,Nat.reduceLT,pureOp,binPure,intBin,strBin,eqPure,isConstO,unPure,sliceLo,sliceHi,slicePure,slice3Pure,lenPure,capPure,minPure,maxPure,buildP,resK,endV,yieldE,↓reduceIte,Nat.reduceEqDiff,reduceCtorEq,Nat.reduceAdd,Nat.reduceMul,Nat.reduceSub,Int.reduceLT,Int.reduceLE,Int.reduceToNat,Int.reduceAdd,Int.reduceSub,Int.reduceMul,ne_eq,decide_true,decide_false,tf21, he0]
      refine blk_agg3 hb3 ?_
      try simp -dsimp only [↓RE,↓c_seq,RU,RL,if_true,if_false,forall_const,implies_true,Nat.reduceLeDiff,Nat.reduceLT,pureOp,binPure,intBin,strBin,eqPure,isConstO,unPure,sliceLo,sliceHi,slicePure,slice3Pure,lenPure,capPure,minPure,maxPure,buildP,resK,endV,yieldE,↓reduceIte,Nat.reduceEqDiff,reduceCtorEq,Nat.reduceAdd,Nat.reduceMul,Nat.reduceSub,Int.reduceLT,Int.reduceLE,Int.reduceToNat,Int.reduceAdd,Int.reduceSub,Int.reduceMul,ne_eq,decide_true,decide_false,tf21, he0]
      exact h w3 (Keep.above g1 k3 (fun k hk e => by omega))
theorem last_ok {w : World} {g : Nat} {v : Value} {l : List Smp} (hS : SerAt w g v l) (hn : l.length ≤ 5864062014634) {R : VWK}
    (h : ∀ w', Grow w w' → R (.tuple #[cS (nthV l ((l.length : Int) - 1)).1, .bool (nthV l ((l.length : Int) - 1)).2]) w') : CallsV Try.prog 9 [.pointer (some ⟨g, 0, none⟩)] w R := by
  have hb1 := Blk.new' w 35 #[.int .i64 0, .int .u8 0, .int .i64 0]
  have g1 := Grow.alloc w (.cells #[.int .i64 0, .int .u8 0, .int .i64 0] 35)
  have hS1 := hS.grow g1
  have hl1 := sub_one hn
  refine calls_of_wpC mixed Try.func9 rfl (by kernel_rfl) ?_
  intro e he
  have he0 := he 0
  simp only [List.getD_cons_zero, List.getD_cons_succ] at he0
  clear he
  try simp -dsimp only [↓RE,↓c_seq,RU,RL,if_true,if_false,forall_const,implies_true,Nat.reduceLeDiff,Nat.reduceLT,pureOp,binPure,intBin,strBin,eqPure,isConstO,unPure,sliceLo,sliceHi,slicePure,slice3Pure,lenPure,capPure,minPure,maxPure,buildP,resK,endV,yieldE,↓reduceIte,Nat.reduceEqDiff,reduceCtorEq,Nat.reduceAdd,Nat.reduceMul,Nat.reduceSub,Int.reduceLT,Int.reduceLE,Int.reduceToNat,Int.reduceAdd,Int.reduceSub,Int.reduceMul,ne_eq,decide_true,decide_false,tf9, he0]
  refine slen_ok hS1 ?_
  try simp -dsimp only [↓RE,↓c_seq,RU,RL,if_true,if_false,forall_const,implies_true,Nat.reduceLeDiff,Nat.reduceLT,pureOp,binPure,intBin,strBin,eqPure,isConstO,unPure,sliceLo,sliceHi,slicePure,slice3Pure,lenPure,capPure,minPure,maxPure,buildP,resK,endV,yieldE,↓reduceIte,Nat.reduceEqDiff,reduceCtorEq,Nat.reduceAdd,Nat.reduceMul,Nat.reduceSub,Int.reduceLT,Int.reduceLE,Int.reduceToNat,Int.reduceAdd,Int.reduceSub,Int.reduceMul,ne_eq,decide_true,decide_false,tf9, he0, hl1]
  refine nth_ok hS1 hn (fun w2 g2 => ?_)
  have hb2 := hb1.grow g2
  try simp -dsimp only [↓RE,↓c_seq,RU,RL,if_true,if_false,forall_const,implies_true,Nat.reduceLeDiff,Nat.reduceLT,pureOp,binPure,intBin,strBin,eqPure,isConstO,unPure,sliceLo,sliceHi,slicePure,slice3Pure,lenPure,capPure,minPure,maxPure,buildP,resK,endV,yieldE,↓reduceIte,Nat.reduceEqDiff,reduceCtorEq,Nat.reduceAdd,Nat.reduceMul,Nat.reduceSub,Int.reduceLT,Int.reduceLE,Int.reduceToNat,Int.reduceAdd,Int.reduceSub,Int.reduceMul,ne_eq,decide_true,decide_false,tf9, he0]
  refine blk_st3 hb2 rfl rfl rfl (fun w3 hb3 k3 => ?_)
  try simp -dsimp only [↓RE,↓c_seq,RU,RL,if_true,if_false,forall_const,implies_true,Nat.reduceLeDiff,Nat.reduceLT,pureOp,binPure,intBin,strBin,eqPure,isConstO,unPure,sliceLo,sliceHi,slicePure,slice3Pure,lenPure,capPure,minPure,maxPure,buildP,resK,endV,yieldE,↓reduceIte,Nat.reduceEqDiff,reduceCtorEq,Nat.reduceAdd,Nat.reduceMul,Nat.reduceSub,Int.reduceLT,Int.reduceLE,Int.reduceToNat,Int.reduceAdd,Int.reduceSub,Int.reduceMul,ne_eq,decide_true,decide_false,tf9, he0]
  refine blk_agg3 hb3 ?_
  try simp -dsimp only [↓RE,↓c_seq,RU,RL,if_true,if_false,forall_const,implies_true,Nat.reduceLeDiff,Nat.reduceLT,pureOp,binPure,intBin,strBin,eqPure,isConstO,unPure,sliceLo,sliceHi,slicePure,slice3Pure,lenPure,capPure,minPure,maxPure,buildP,resK,endV,yieldE,↓reduceIte,Nat.reduceEqDiff,reduceCtorEq,Nat.reduceAdd,Nat.reduceMul,Nat.reduceSub,Int.reduceLT,Int.reduceLE,Int.reduceToNat,Int.reduceAdd,Int.reduceSub,Int.reduceMul,ne_eq,decide_true,decide_false,tf9, he0]
  exact h w3 (Keep.above (g1.trans g2) k3 (fun k hk e => by omega))
end Go.Proofs.Ytifaobnemnbfhaa
