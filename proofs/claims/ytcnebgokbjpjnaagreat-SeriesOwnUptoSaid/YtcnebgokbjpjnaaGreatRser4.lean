/- Of both series: the sample of a number, First, Last, Before, Behind; Fork. -/
import Derived.Test.YtcnebgokbjpjnaaGreatRser3
set_option linter.unusedVariables false
set_option linter.unusedSimpArgs false
set_option maxRecDepth 100000
namespace Go.Proofs.YtcnebgokbjpjnaaGreat
open Go

theorem blk_agg3 {w : World} {g : Nat} {t : TypeId} {a b c : Value} (h : Blk w g t [a, b, c]) {K : VK} {tk : Tok K} (hk : K (.agg #[a, b, c])) : aggK w ⟨g, 0, none⟩ (some 3) K tk := h.aggK (by simp) hk
/-- a time's place less one. -/
theorem sub_one {n : Nat} (h : n ≤ 5864062014634) : IntKind.i64.wrap ((n : Int) - 1) = (n : Int) - 1 := wrap_i64_in (by omega) (by omega)
theorem nth_ok {w : World} {g : Nat} {v : Value} {l : List Smp} (hS : SerAt w g v l) (hn : l.length ≤ 5864062014634) {z : Int} {R : VWK}
    (h : ∀ w', Grow w w' → R (.tuple #[cS (nthV l z).1, .bool (nthV l z).2]) w') : CallsV Tryz.prog 82 [.pointer (some ⟨g, 0, none⟩), .int .i64 z] w R := by
  obtain ⟨A, c, rfl, hnc, hA⟩ := hS.row.form
  have hb1 := Blk.new' w 89 #[.int .i64 0, .int .u8 0, .int .i64 0]
  have g1 := Grow.alloc w (.cells #[.int .i64 0, .int .u8 0, .int .i64 0] 89)
  have hS1 := hS.grow g1
  have hp1 := hS1.cell
  refine calls_of_wpC mixed Tryz.func82 rfl (by kernel_rfl) ?_
  intro e he
  have he0 := he 0
  have he1 := he 1
  simp only [List.getD_cons_zero, List.getD_cons_succ] at he0 he1
  clear he
  cases hz : decide (z < 0) with
  | true =>
    have hv : nthV l z = ((0, 0, 0), false) := by rw [nthV, if_neg (by have := of_decide_eq_true hz; omega)]
    rw [hv] at h
    try simp -dsimp only [↓RE,↓c_seq,RU,RL,if_true,if_false,forall_const,implies_true,Nat.reduceLeDiff,Nat.reduceLT,pureOp,binPure,intBin,strBin,eqPure,isConstO,unPure,sliceLo,sliceHi,slicePure,slice3Pure,lenPure,capPure,minPure,maxPure,buildP,resK,endV,yieldE,↓reduceIte,Nat.reduceEqDiff,reduceCtorEq,Nat.reduceAdd,Nat.reduceMul,Nat.reduceSub,Int.reduceLT,Int.reduceLE,Int.reduceToNat,Int.reduceAdd,Int.reduceSub,Int.reduceMul,ne_eq,decide_true,decide_false,tf82, he0, he1, hz, undef]
    refine blk_st3 hb1 rfl rfl rfl (fun w3 hb3 k3 => ?_)
    try simp -dsimp only [↓RE,↓c_seq,RU,RL,if_true,if_false,forall_const,implies_true,Nat.reduceLeDiff,Nat.reduceLT,pureOp,binPure,intBin,strBin,eqPure,isConstO,unPure,sliceLo,sliceHi,slicePure,slice3Pure,lenPure,capPure,minPure,maxPure,buildP,resK,endV,yieldE,↓reduceIte,Nat.reduceEqDiff,reduceCtorEq,Nat.reduceAdd,Nat.reduceMul,Nat.reduceSub,Int.reduceLT,Int.reduceLE,Int.reduceToNat,Int.reduceAdd,Int.reduceSub,Int.reduceMul,ne_eq,decide_true,decide_false,tf82, he0]
    refine blk_agg3 hb3 ?_
    try simp -dsimp only [↓RE,↓c_seq,RU,RL,if_true,if_false,forall_const,implies_true,Nat.reduceLeDiff,Nat.reduceLT,pureOp,binPure,intBin,strBin,eqPure,isConstO,unPure,sliceLo,sliceHi,slicePure,slice3Pure,lenPure,capPure,minPure,maxPure,buildP,resK,endV,yieldE,↓reduceIte,Nat.reduceEqDiff,reduceCtorEq,Nat.reduceAdd,Nat.reduceMul,Nat.reduceSub,Int.reduceLT,Int.reduceLE,Int.reduceToNat,Int.reduceAdd,Int.reduceSub,Int.reduceMul,ne_eq,decide_true,decide_false,tf82, he0]
    exact h w3 (Keep.above g1 k3 (fun k hk e => by omega))
  | false =>
    have hz0 := of_decide_eq_false hz
    cases hd : decide ((l.length : Int) ≤ z) with
    | true =>
      have hv : nthV l z = ((0, 0, 0), false) := by rw [nthV, if_neg (by have := of_decide_eq_true hd; omega)]
      rw [hv] at h
      try simp -dsimp only [↓RE,↓c_seq,RU,RL,if_true,if_false,forall_const,implies_true,Nat.reduceLeDiff,Nat.reduceLT,pureOp,binPure,intBin,strBin,eqPure,isConstO,unPure,sliceLo,sliceHi,slicePure,slice3Pure,lenPure,capPure,minPure,maxPure,buildP,resK,endV,yieldE,↓reduceIte,Nat.reduceEqDiff,reduceCtorEq,Nat.reduceAdd,Nat.reduceMul,Nat.reduceSub,Int.reduceLT,Int.reduceLE,Int.reduceToNat,Int.reduceAdd,Int.reduceSub,Int.reduceMul,ne_eq,decide_true,decide_false,tf82, he0, he1, hz, hp1, hd]
      refine blk_st3 hb1 rfl rfl rfl (fun w3 hb3 k3 => ?_)
      try simp -dsimp only [↓RE,↓c_seq,RU,RL,if_true,if_false,forall_const,implies_true,Nat.reduceLeDiff,Nat.reduceLT,pureOp,binPure,intBin,strBin,eqPure,isConstO,unPure,sliceLo,sliceHi,slicePure,slice3Pure,lenPure,capPure,minPure,maxPure,buildP,resK,endV,yieldE,↓reduceIte,Nat.reduceEqDiff,reduceCtorEq,Nat.reduceAdd,Nat.reduceMul,Nat.reduceSub,Int.reduceLT,Int.reduceLE,Int.reduceToNat,Int.reduceAdd,Int.reduceSub,Int.reduceMul,ne_eq,decide_true,decide_false,tf82, he0]
      refine blk_agg3 hb3 ?_
      try simp -dsimp only [↓RE,↓c_seq,RU,RL,if_true,if_false,forall_const,implies_true,Nat.reduceLeDiff,Nat.reduceLT,pureOp,binPure,intBin,strBin,eqPure,isConstO,unPure,sliceLo,sliceHi,slicePure,slice3Pure,lenPure,capPure,minPure,maxPure,buildP,resK,endV,yieldE,↓reduceIte,Nat.reduceEqDiff,reduceCtorEq,Nat.reduceAdd,Nat.reduceMul,Nat.reduceSub,Int.reduceLT,Int.reduceLE,Int.reduceToNat,Int.reduceAdd,Int.reduceSub,Int.reduceMul,ne_eq,decide_true,decide_false,tf82, he0]
      exact h w3 (Keep.above g1 k3 (fun k hk e => by omega))
    | false =>
      have hdl := of_decide_eq_false hd
      obtain ⟨i, rfl⟩ : ∃ i : Nat, z = i := ⟨z.toNat, by omega⟩
      have hv : nthV l (i : Int) = (l.getD i (0, 0, 0), true) := by rw [nthV, if_pos (by omega), Int.toNat_natCast]
      rw [hv] at h
      obtain ⟨ad, rfl, hca, hcv, hcs⟩ := hS1.row.rd.smp (k := i) (by omega)
      try simp -dsimp only [↓RE,↓c_seq,RU,RL,if_true,if_false,forall_const,implies_true,Nat.reduceLeDiff,Nat.reduceLT,pureOp,binPure,intBin,strBin,eqPure,isConstO,unPure,sliceLo,sliceHi,slicePure,slice3Pure,lenPure,capPure,minPure,maxPure,buildP,resK,endV,yieldE,↓reduceIte,Nat.reduceEqDiff,reduceCtorEq,Nat.reduceAdd,Nat.reduceMul,Nat.reduceSub,Int.reduceLT,Int.reduceLE,Int.reduceToNat,Int.reduceAdd,Int.reduceSub,Int.reduceMul,ne_eq,decide_true,decide_false,tf82, he0, he1, hz, hp1, hd]
      refine ⟨by omega, hcs ?_⟩
      try simp -dsimp only [↓RE,↓c_seq,RU,RL,if_true,if_false,forall_const,implies_true,Nat.reduceLeDiff,Nat.reduceLT,pureOp,binPure,intBin,strBin,eqPure,isConstO,unPure,sliceLo,sliceHi,slicePure,slice3Pure,lenPure,capPure,minPure,maxPure,buildP,resK,endV,yieldE,↓reduceIte,Nat.reduceEqDiff,reduceCtorEq,Nat.reduceAdd,Nat.reduceMul,Nat.reduceSub,Int.reduceLT,Int.reduceLE,Int.reduceToNat,Int.reduceAdd,Int.reduceSub,Int.reduceMul,ne_eq,decide_true,decide_false,tf82, he0]
      refine blk_st3 hb1 rfl rfl rfl (fun w3 hb3 k3 => ?_)
      try simp -dsimp only [↓RE,↓c_seq,RU,RL,if_true,if_false,forall_const,implies_true,Nat.reduceLeDiff,Nat.reduceLT,pureOp,binPure,intBin,strBin,eqPure,isConstO,unPure,sliceLo,sliceHi,slicePure,slice3Pure,lenPure,capPure,minPure,maxPure,buildP,resK,endV,yieldE,↓reduceIte,Nat.reduceEqDiff,reduceCtorEq,Nat.reduceAdd,Nat.reduceMul,Nat.reduceSub,Int.reduceLT,Int.reduceLE,Int.reduceToNat,Int.reduceAdd,Int.reduceSub,Int.reduceMul,ne_eq,decide_true,decide_false,tf82, he0]
      refine blk_agg3 hb3 ?_
      try simp -dsimp only [↓RE,↓c_seq,RU,RL,if_true,if_false,forall_const,implies_true,Nat.reduceLeDiff,Nat.reduceLT,pureOp,binPure,intBin,strBin,eqPure,isConstO,unPure,sliceLo,sliceHi,slicePure,slice3Pure,lenPure,capPure,minPure,maxPure,buildP,resK,endV,yieldE,↓reduceIte,Nat.reduceEqDiff,reduceCtorEq,Nat.reduceAdd,Nat.reduceMul,Nat.reduceSub,Int.reduceLT,Int.reduceLE,Int.reduceToNat,Int.reduceAdd,Int.reduceSub,Int.reduceMul,ne_eq,decide_true,decide_false,tf82, he0]
      exact h w3 (Keep.above g1 k3 (fun k hk e => by omega))
theorem first_ok {w : World} {g : Nat} {v : Value} {l : List Smp} (hS : SerAt w g v l) (hn : l.length ≤ 5864062014634) {R : VWK}
    (h : ∀ w', Grow w w' → R (.tuple #[cS (nthV l (0)).1, .bool (nthV l (0)).2]) w') : CallsV Tryz.prog 65 [.pointer (some ⟨g, 0, none⟩)] w R := by
  have hb1 := Blk.new' w 89 #[.int .i64 0, .int .u8 0, .int .i64 0]
  have g1 := Grow.alloc w (.cells #[.int .i64 0, .int .u8 0, .int .i64 0] 89)
  have hS1 := hS.grow g1
  have hl1 := sub_one hn
  refine calls_of_wpC mixed Tryz.func65 rfl (by kernel_rfl) ?_
  intro e he
  have he0 := he 0
  simp only [List.getD_cons_zero, List.getD_cons_succ] at he0
  clear he
  try simp -dsimp only [↓RE,↓c_seq,RU,RL,if_true,if_false,forall_const,implies_true,Nat.reduceLeDiff,Nat.reduceLT,pureOp,binPure,intBin,strBin,eqPure,isConstO,unPure,sliceLo,sliceHi,slicePure,slice3Pure,lenPure,capPure,minPure,maxPure,buildP,resK,endV,yieldE,↓reduceIte,Nat.reduceEqDiff,reduceCtorEq,Nat.reduceAdd,Nat.reduceMul,Nat.reduceSub,Int.reduceLT,Int.reduceLE,Int.reduceToNat,Int.reduceAdd,Int.reduceSub,Int.reduceMul,ne_eq,decide_true,decide_false,tf65, he0]
  refine nth_ok hS1 hn (fun w2 g2 => ?_)
  have hb2 := hb1.grow g2
  try simp -dsimp only [↓RE,↓c_seq,RU,RL,if_true,if_false,forall_const,implies_true,Nat.reduceLeDiff,Nat.reduceLT,pureOp,binPure,intBin,strBin,eqPure,isConstO,unPure,sliceLo,sliceHi,slicePure,slice3Pure,lenPure,capPure,minPure,maxPure,buildP,resK,endV,yieldE,↓reduceIte,Nat.reduceEqDiff,reduceCtorEq,Nat.reduceAdd,Nat.reduceMul,Nat.reduceSub,Int.reduceLT,Int.reduceLE,Int.reduceToNat,Int.reduceAdd,Int.reduceSub,Int.reduceMul,ne_eq,decide_true,decide_false,tf65, he0]
  refine blk_st3 hb2 rfl rfl rfl (fun w3 hb3 k3 => ?_)
  try simp -dsimp only [↓RE,↓c_seq,RU,RL,if_true,if_false,forall_const,implies_true,Nat.reduceLeDiff,Nat.reduceLT,pureOp,binPure,intBin,strBin,eqPure,isConstO,unPure,sliceLo,sliceHi,slicePure,slice3Pure,lenPure,capPure,minPure,maxPure,buildP,resK,endV,yieldE,↓reduceIte,Nat.reduceEqDiff,reduceCtorEq,Nat.reduceAdd,Nat.reduceMul,Nat.reduceSub,Int.reduceLT,Int.reduceLE,Int.reduceToNat,Int.reduceAdd,Int.reduceSub,Int.reduceMul,ne_eq,decide_true,decide_false,tf65, he0]
  refine blk_agg3 hb3 ?_
  try simp -dsimp only [↓RE,↓c_seq,RU,RL,if_true,if_false,forall_const,implies_true,Nat.reduceLeDiff,Nat.reduceLT,pureOp,binPure,intBin,strBin,eqPure,isConstO,unPure,sliceLo,sliceHi,slicePure,slice3Pure,lenPure,capPure,minPure,maxPure,buildP,resK,endV,yieldE,↓reduceIte,Nat.reduceEqDiff,reduceCtorEq,Nat.reduceAdd,Nat.reduceMul,Nat.reduceSub,Int.reduceLT,Int.reduceLE,Int.reduceToNat,Int.reduceAdd,Int.reduceSub,Int.reduceMul,ne_eq,decide_true,decide_false,tf65, he0]
  exact h w3 (Keep.above (g1.trans g2) k3 (fun k hk e => by omega))
theorem last_ok {w : World} {g : Nat} {v : Value} {l : List Smp} (hS : SerAt w g v l) (hn : l.length ≤ 5864062014634) {R : VWK}
    (h : ∀ w', Grow w w' → R (.tuple #[cS (nthV l ((l.length : Int) - 1)).1, .bool (nthV l ((l.length : Int) - 1)).2]) w') : CallsV Tryz.prog 67 [.pointer (some ⟨g, 0, none⟩)] w R := by
  have hb1 := Blk.new' w 89 #[.int .i64 0, .int .u8 0, .int .i64 0]
  have g1 := Grow.alloc w (.cells #[.int .i64 0, .int .u8 0, .int .i64 0] 89)
  have hS1 := hS.grow g1
  have hl1 := sub_one hn
  refine calls_of_wpC mixed Tryz.func67 rfl (by kernel_rfl) ?_
  intro e he
  have he0 := he 0
  simp only [List.getD_cons_zero, List.getD_cons_succ] at he0
  clear he
  try simp -dsimp only [↓RE,↓c_seq,RU,RL,if_true,if_false,forall_const,implies_true,Nat.reduceLeDiff,Nat.reduceLT,pureOp,binPure,intBin,strBin,eqPure,isConstO,unPure,sliceLo,sliceHi,slicePure,slice3Pure,lenPure,capPure,minPure,maxPure,buildP,resK,endV,yieldE,↓reduceIte,Nat.reduceEqDiff,reduceCtorEq,Nat.reduceAdd,Nat.reduceMul,Nat.reduceSub,Int.reduceLT,Int.reduceLE,Int.reduceToNat,Int.reduceAdd,Int.reduceSub,Int.reduceMul,ne_eq,decide_true,decide_false,tf67, he0]
  refine slen_ok hS1 ?_
  try simp -dsimp only [↓RE,↓c_seq,RU,RL,if_true,if_false,forall_const,implies_true,Nat.reduceLeDiff,Nat.reduceLT,pureOp,binPure,intBin,strBin,eqPure,isConstO,unPure,sliceLo,sliceHi,slicePure,slice3Pure,lenPure,capPure,minPure,maxPure,buildP,resK,endV,yieldE,↓reduceIte,Nat.reduceEqDiff,reduceCtorEq,Nat.reduceAdd,Nat.reduceMul,Nat.reduceSub,Int.reduceLT,Int.reduceLE,Int.reduceToNat,Int.reduceAdd,Int.reduceSub,Int.reduceMul,ne_eq,decide_true,decide_false,tf67, he0, hl1]
  refine nth_ok hS1 hn (fun w2 g2 => ?_)
  have hb2 := hb1.grow g2
  try simp -dsimp only [↓RE,↓c_seq,RU,RL,if_true,if_false,forall_const,implies_true,Nat.reduceLeDiff,Nat.reduceLT,pureOp,binPure,intBin,strBin,eqPure,isConstO,unPure,sliceLo,sliceHi,slicePure,slice3Pure,lenPure,capPure,minPure,maxPure,buildP,resK,endV,yieldE,↓reduceIte,Nat.reduceEqDiff,reduceCtorEq,Nat.reduceAdd,Nat.reduceMul,Nat.reduceSub,Int.reduceLT,Int.reduceLE,Int.reduceToNat,Int.reduceAdd,Int.reduceSub,Int.reduceMul,ne_eq,decide_true,decide_false,tf67, he0]
  refine blk_st3 hb2 rfl rfl rfl (fun w3 hb3 k3 => ?_)
  try simp -dsimp only [↓RE,↓c_seq,RU,RL,if_true,if_false,forall_const,implies_true,Nat.reduceLeDiff,Nat.reduceLT,pureOp,binPure,intBin,strBin,eqPure,isConstO,unPure,sliceLo,sliceHi,slicePure,slice3Pure,lenPure,capPure,minPure,maxPure,buildP,resK,endV,yieldE,↓reduceIte,Nat.reduceEqDiff,reduceCtorEq,Nat.reduceAdd,Nat.reduceMul,Nat.reduceSub,Int.reduceLT,Int.reduceLE,Int.reduceToNat,Int.reduceAdd,Int.reduceSub,Int.reduceMul,ne_eq,decide_true,decide_false,tf67, he0]
  refine blk_agg3 hb3 ?_
  try simp -dsimp only [↓RE,↓c_seq,RU,RL,if_true,if_false,forall_const,implies_true,Nat.reduceLeDiff,Nat.reduceLT,pureOp,binPure,intBin,strBin,eqPure,isConstO,unPure,sliceLo,sliceHi,slicePure,slice3Pure,lenPure,capPure,minPure,maxPure,buildP,resK,endV,yieldE,↓reduceIte,Nat.reduceEqDiff,reduceCtorEq,Nat.reduceAdd,Nat.reduceMul,Nat.reduceSub,Int.reduceLT,Int.reduceLE,Int.reduceToNat,Int.reduceAdd,Int.reduceSub,Int.reduceMul,ne_eq,decide_true,decide_false,tf67, he0]
  exact h w3 (Keep.above (g1.trans g2) k3 (fun k hk e => by omega))
theorem before_ok {w : World} {g : Nat} {v : Value} {l : List Smp} (hS : SerAt w g v l) (hn : l.length ≤ 5864062014634) {t : Int} {R : VWK}
    (h : ∀ w', Grow w w' → R (.tuple #[cS (nthV l ((aheadN l t : Int) - 1)).1, .bool (nthV l ((aheadN l t : Int) - 1)).2]) w') : CallsV Tryz.prog 70 [.pointer (some ⟨g, 0, none⟩), .int .i64 t] w R := by
  have hb1 := Blk.new' w 89 #[.int .i64 0, .int .u8 0, .int .i64 0]
  have g1 := Grow.alloc w (.cells #[.int .i64 0, .int .u8 0, .int .i64 0] 89)
  have hS1 := hS.grow g1
  have hl1 := sub_one hn
  refine calls_of_wpC mixed Tryz.func70 rfl (by kernel_rfl) ?_
  intro e he
  have he0 := he 0
  have he1 := he 1
  simp only [List.getD_cons_zero, List.getD_cons_succ] at he0 he1
  clear he
  try simp -dsimp only [↓RE,↓c_seq,RU,RL,if_true,if_false,forall_const,implies_true,Nat.reduceLeDiff,Nat.reduceLT,pureOp,binPure,intBin,strBin,eqPure,isConstO,unPure,sliceLo,sliceHi,slicePure,slice3Pure,lenPure,capPure,minPure,maxPure,buildP,resK,endV,yieldE,↓reduceIte,Nat.reduceEqDiff,reduceCtorEq,Nat.reduceAdd,Nat.reduceMul,Nat.reduceSub,Int.reduceLT,Int.reduceLE,Int.reduceToNat,Int.reduceAdd,Int.reduceSub,Int.reduceMul,ne_eq,decide_true,decide_false,tf70, he0, he1]
  obtain ⟨A, c, rfl, hnc, hA⟩ := hS.row.form
  refine find_ok hS1.cell hS1.row.rd hn hS.rise (fun w9 i g9 hst => ?_)
  have hli := hst.ahead
  have hil := hst.le
  rw [hli] at h
  have hi1 := sub_one (n := i) (by omega)
  try simp -dsimp only [↓RE,↓c_seq,RU,RL,if_true,if_false,forall_const,implies_true,Nat.reduceLeDiff,Nat.reduceLT,pureOp,binPure,intBin,strBin,eqPure,isConstO,unPure,sliceLo,sliceHi,slicePure,slice3Pure,lenPure,capPure,minPure,maxPure,buildP,resK,endV,yieldE,↓reduceIte,Nat.reduceEqDiff,reduceCtorEq,Nat.reduceAdd,Nat.reduceMul,Nat.reduceSub,Int.reduceLT,Int.reduceLE,Int.reduceToNat,Int.reduceAdd,Int.reduceSub,Int.reduceMul,ne_eq,decide_true,decide_false,tf70, he0, hi1]
  refine nth_ok (hS1.grow g9) hn (fun w2 g2 => ?_)
  have hb2 := hb1.grow (g9.trans g2)
  try simp -dsimp only [↓RE,↓c_seq,RU,RL,if_true,if_false,forall_const,implies_true,Nat.reduceLeDiff,Nat.reduceLT,pureOp,binPure,intBin,strBin,eqPure,isConstO,unPure,sliceLo,sliceHi,slicePure,slice3Pure,lenPure,capPure,minPure,maxPure,buildP,resK,endV,yieldE,↓reduceIte,Nat.reduceEqDiff,reduceCtorEq,Nat.reduceAdd,Nat.reduceMul,Nat.reduceSub,Int.reduceLT,Int.reduceLE,Int.reduceToNat,Int.reduceAdd,Int.reduceSub,Int.reduceMul,ne_eq,decide_true,decide_false,tf70, he0]
  refine blk_st3 hb2 rfl rfl rfl (fun w3 hb3 k3 => ?_)
  try simp -dsimp only [↓RE,↓c_seq,RU,RL,if_true,if_false,forall_const,implies_true,Nat.reduceLeDiff,Nat.reduceLT,pureOp,binPure,intBin,strBin,eqPure,isConstO,unPure,sliceLo,sliceHi,slicePure,slice3Pure,lenPure,capPure,minPure,maxPure,buildP,resK,endV,yieldE,↓reduceIte,Nat.reduceEqDiff,reduceCtorEq,Nat.reduceAdd,Nat.reduceMul,Nat.reduceSub,Int.reduceLT,Int.reduceLE,Int.reduceToNat,Int.reduceAdd,Int.reduceSub,Int.reduceMul,ne_eq,decide_true,decide_false,tf70, he0]
  refine blk_agg3 hb3 ?_
  try simp -dsimp only [↓RE,↓c_seq,RU,RL,if_true,if_false,forall_const,implies_true,Nat.reduceLeDiff,Nat.reduceLT,pureOp,binPure,intBin,strBin,eqPure,isConstO,unPure,sliceLo,sliceHi,slicePure,slice3Pure,lenPure,capPure,minPure,maxPure,buildP,resK,endV,yieldE,↓reduceIte,Nat.reduceEqDiff,reduceCtorEq,Nat.reduceAdd,Nat.reduceMul,Nat.reduceSub,Int.reduceLT,Int.reduceLE,Int.reduceToNat,Int.reduceAdd,Int.reduceSub,Int.reduceMul,ne_eq,decide_true,decide_false,tf70, he0]
  exact h w3 (Keep.above (g1.trans (g9.trans g2)) k3 (fun k hk e => by omega))
theorem behind_ok {w : World} {g : Nat} {v : Value} {l : List Smp} (hS : SerAt w g v l) (hn : l.length ≤ 5864062014634) {t : Int} {R : VWK}
    (h : ∀ w', Grow w w' → R (.tuple #[cS (nthV l ((aheadN l t : Int))).1, .bool (nthV l ((aheadN l t : Int))).2]) w') : CallsV Tryz.prog 72 [.pointer (some ⟨g, 0, none⟩), .int .i64 t] w R := by
  have hb1 := Blk.new' w 89 #[.int .i64 0, .int .u8 0, .int .i64 0]
  have g1 := Grow.alloc w (.cells #[.int .i64 0, .int .u8 0, .int .i64 0] 89)
  have hS1 := hS.grow g1
  have hl1 := sub_one hn
  refine calls_of_wpC mixed Tryz.func72 rfl (by kernel_rfl) ?_
  intro e he
  have he0 := he 0
  have he1 := he 1
  simp only [List.getD_cons_zero, List.getD_cons_succ] at he0 he1
  clear he
  try simp -dsimp only [↓RE,↓c_seq,RU,RL,if_true,if_false,forall_const,implies_true,Nat.reduceLeDiff,Nat.reduceLT,pureOp,binPure,intBin,strBin,eqPure,isConstO,unPure,sliceLo,sliceHi,slicePure,slice3Pure,lenPure,capPure,minPure,maxPure,buildP,resK,endV,yieldE,↓reduceIte,Nat.reduceEqDiff,reduceCtorEq,Nat.reduceAdd,Nat.reduceMul,Nat.reduceSub,Int.reduceLT,Int.reduceLE,Int.reduceToNat,Int.reduceAdd,Int.reduceSub,Int.reduceMul,ne_eq,decide_true,decide_false,tf72, he0, he1]
  obtain ⟨A, c, rfl, hnc, hA⟩ := hS.row.form
  refine find_ok hS1.cell hS1.row.rd hn hS.rise (fun w9 i g9 hst => ?_)
  have hli := hst.ahead
  have hil := hst.le
  rw [hli] at h
  have hi1 := sub_one (n := i) (by omega)
  try simp -dsimp only [↓RE,↓c_seq,RU,RL,if_true,if_false,forall_const,implies_true,Nat.reduceLeDiff,Nat.reduceLT,pureOp,binPure,intBin,strBin,eqPure,isConstO,unPure,sliceLo,sliceHi,slicePure,slice3Pure,lenPure,capPure,minPure,maxPure,buildP,resK,endV,yieldE,↓reduceIte,Nat.reduceEqDiff,reduceCtorEq,Nat.reduceAdd,Nat.reduceMul,Nat.reduceSub,Int.reduceLT,Int.reduceLE,Int.reduceToNat,Int.reduceAdd,Int.reduceSub,Int.reduceMul,ne_eq,decide_true,decide_false,tf72, he0, hi1]
  refine nth_ok (hS1.grow g9) hn (fun w2 g2 => ?_)
  have hb2 := hb1.grow (g9.trans g2)
  try simp -dsimp only [↓RE,↓c_seq,RU,RL,if_true,if_false,forall_const,implies_true,Nat.reduceLeDiff,Nat.reduceLT,pureOp,binPure,intBin,strBin,eqPure,isConstO,unPure,sliceLo,sliceHi,slicePure,slice3Pure,lenPure,capPure,minPure,maxPure,buildP,resK,endV,yieldE,↓reduceIte,Nat.reduceEqDiff,reduceCtorEq,Nat.reduceAdd,Nat.reduceMul,Nat.reduceSub,Int.reduceLT,Int.reduceLE,Int.reduceToNat,Int.reduceAdd,Int.reduceSub,Int.reduceMul,ne_eq,decide_true,decide_false,tf72, he0]
  refine blk_st3 hb2 rfl rfl rfl (fun w3 hb3 k3 => ?_)
  try simp -dsimp only [↓RE,↓c_seq,RU,RL,if_true,if_false,forall_const,implies_true,Nat.reduceLeDiff,Nat.reduceLT,pureOp,binPure,intBin,strBin,eqPure,isConstO,unPure,sliceLo,sliceHi,slicePure,slice3Pure,lenPure,capPure,minPure,maxPure,buildP,resK,endV,yieldE,↓reduceIte,Nat.reduceEqDiff,reduceCtorEq,Nat.reduceAdd,Nat.reduceMul,Nat.reduceSub,Int.reduceLT,Int.reduceLE,Int.reduceToNat,Int.reduceAdd,Int.reduceSub,Int.reduceMul,ne_eq,decide_true,decide_false,tf72, he0]
  refine blk_agg3 hb3 ?_
  try simp -dsimp only [↓RE,↓c_seq,RU,RL,if_true,if_false,forall_const,implies_true,Nat.reduceLeDiff,Nat.reduceLT,pureOp,binPure,intBin,strBin,eqPure,isConstO,unPure,sliceLo,sliceHi,slicePure,slice3Pure,lenPure,capPure,minPure,maxPure,buildP,resK,endV,yieldE,↓reduceIte,Nat.reduceEqDiff,reduceCtorEq,Nat.reduceAdd,Nat.reduceMul,Nat.reduceSub,Int.reduceLT,Int.reduceLE,Int.reduceToNat,Int.reduceAdd,Int.reduceSub,Int.reduceMul,ne_eq,decide_true,decide_false,tf72, he0]
  exact h w3 (Keep.above (g1.trans (g9.trans g2)) k3 (fun k hk e => by omega))
theorem rnth_ok {w : World} {g : Nat} {v : Value} {l : List Smp} (hS : RefAt w g v l) (hn : l.length ≤ 5864062014634) {z : Int} {R : VWK}
    (h : ∀ w', Grow w w' → R (.tuple #[cS (nthV l z).1, .bool (nthV l z).2]) w') : CallsV Tryz.prog 83 [.pointer (some ⟨g, 0, none⟩), .int .i64 z] w R := by
  obtain ⟨A, c, rfl, hnc, hA⟩ := hS.row.form
  have hb1 := Blk.new' w 89 #[.int .i64 0, .int .u8 0, .int .i64 0]
  have g1 := Grow.alloc w (.cells #[.int .i64 0, .int .u8 0, .int .i64 0] 89)
  have hS1 := hS.grow g1
  have hp1 := hS1.cell
  refine calls_of_wpC mixed Tryz.func83 rfl (by kernel_rfl) ?_
  intro e he
  have he0 := he 0
  have he1 := he 1
  simp only [List.getD_cons_zero, List.getD_cons_succ] at he0 he1
  clear he
  cases hz : decide (z < 0) with
  | true =>
    have hv : nthV l z = ((0, 0, 0), false) := by rw [nthV, if_neg (by have := of_decide_eq_true hz; omega)]
    rw [hv] at h
    try simp -dsimp only [↓RE,↓c_seq,RU,RL,if_true,if_false,forall_const,implies_true,Nat.reduceLeDiff,Nat.reduceLT,pureOp,binPure,intBin,strBin,eqPure,isConstO,unPure,sliceLo,sliceHi,slicePure,slice3Pure,lenPure,capPure,minPure,maxPure,buildP,resK,endV,yieldE,↓reduceIte,Nat.reduceEqDiff,reduceCtorEq,Nat.reduceAdd,Nat.reduceMul,Nat.reduceSub,Int.reduceLT,Int.reduceLE,Int.reduceToNat,Int.reduceAdd,Int.reduceSub,Int.reduceMul,ne_eq,decide_true,decide_false,tf83, he0, he1, hz, undef]
    refine blk_st3 hb1 rfl rfl rfl (fun w3 hb3 k3 => ?_)
    try simp -dsimp only [↓RE,↓c_seq,RU,RL,if_true,if_false,forall_const,implies_true,Nat.reduceLeDiff,Nat.reduceLT,pureOp,binPure,intBin,strBin,eqPure,isConstO,unPure,sliceLo,sliceHi,slicePure,slice3Pure,lenPure,capPure,minPure,maxPure,buildP,resK,endV,yieldE,↓reduceIte,Nat.reduceEqDiff,reduceCtorEq,Nat.reduceAdd,Nat.reduceMul,Nat.reduceSub,Int.reduceLT,Int.reduceLE,Int.reduceToNat,Int.reduceAdd,Int.reduceSub,Int.reduceMul,ne_eq,decide_true,decide_false,tf83, he0]
    refine blk_agg3 hb3 ?_
    try simp -dsimp only [↓RE,↓c_seq,RU,RL,if_true,if_false,forall_const,implies_true,Nat.reduceLeDiff,Nat.reduceLT,pureOp,binPure,intBin,strBin,eqPure,isConstO,unPure,sliceLo,sliceHi,slicePure,slice3Pure,lenPure,capPure,minPure,maxPure,buildP,resK,endV,yieldE,↓reduceIte,Nat.reduceEqDiff,reduceCtorEq,Nat.reduceAdd,Nat.reduceMul,Nat.reduceSub,Int.reduceLT,Int.reduceLE,Int.reduceToNat,Int.reduceAdd,Int.reduceSub,Int.reduceMul,ne_eq,decide_true,decide_false,tf83, he0]
    exact h w3 (Keep.above g1 k3 (fun k hk e => by omega))
  | false =>
    have hz0 := of_decide_eq_false hz
    cases hd : decide ((l.length : Int) ≤ z) with
    | true =>
      have hv : nthV l z = ((0, 0, 0), false) := by rw [nthV, if_neg (by have := of_decide_eq_true hd; omega)]
      rw [hv] at h
      try simp -dsimp only [↓RE,↓c_seq,RU,RL,if_true,if_false,forall_const,implies_true,Nat.reduceLeDiff,Nat.reduceLT,pureOp,binPure,intBin,strBin,eqPure,isConstO,unPure,sliceLo,sliceHi,slicePure,slice3Pure,lenPure,capPure,minPure,maxPure,buildP,resK,endV,yieldE,↓reduceIte,Nat.reduceEqDiff,reduceCtorEq,Nat.reduceAdd,Nat.reduceMul,Nat.reduceSub,Int.reduceLT,Int.reduceLE,Int.reduceToNat,Int.reduceAdd,Int.reduceSub,Int.reduceMul,ne_eq,decide_true,decide_false,tf83, he0, he1, hz, hp1, hd]
      refine blk_st3 hb1 rfl rfl rfl (fun w3 hb3 k3 => ?_)
      try simp -dsimp only [↓RE,↓c_seq,RU,RL,if_true,if_false,forall_const,implies_true,Nat.reduceLeDiff,Nat.reduceLT,pureOp,binPure,intBin,strBin,eqPure,isConstO,unPure,sliceLo,sliceHi,slicePure,slice3Pure,lenPure,capPure,minPure,maxPure,buildP,resK,endV,yieldE,↓reduceIte,Nat.reduceEqDiff,reduceCtorEq,Nat.reduceAdd,Nat.reduceMul,Nat.reduceSub,Int.reduceLT,Int.reduceLE,Int.reduceToNat,Int.reduceAdd,Int.reduceSub,Int.reduceMul,ne_eq,decide_true,decide_false,tf83, he0]
      refine blk_agg3 hb3 ?_
      try simp -dsimp only [↓RE,↓c_seq,RU,RL,if_true,if_false,forall_const,implies_true,Nat.reduceLeDiff,Nat.reduceLT,pureOp,binPure,intBin,strBin,eqPure,isConstO,unPure,sliceLo,sliceHi,slicePure,slice3Pure,lenPure,capPure,minPure,maxPure,buildP,resK,endV,yieldE,↓reduceIte,Nat.reduceEqDiff,reduceCtorEq,Nat.reduceAdd,Nat.reduceMul,Nat.reduceSub,Int.reduceLT,Int.reduceLE,Int.reduceToNat,Int.reduceAdd,Int.reduceSub,Int.reduceMul,ne_eq,decide_true,decide_false,tf83, he0]
      exact h w3 (Keep.above g1 k3 (fun k hk e => by omega))
    | false =>
      have hdl := of_decide_eq_false hd
      obtain ⟨i, rfl⟩ : ∃ i : Nat, z = i := ⟨z.toNat, by omega⟩
      have hv : nthV l (i : Int) = (l.getD i (0, 0, 0), true) := by rw [nthV, if_pos (by omega), Int.toNat_natCast]
      rw [hv] at h
      obtain ⟨ad, rfl, hca, hcv, hcs⟩ := hS1.row.rd.smp (k := i) (by omega)
      try simp -dsimp only [↓RE,↓c_seq,RU,RL,if_true,if_false,forall_const,implies_true,Nat.reduceLeDiff,Nat.reduceLT,pureOp,binPure,intBin,strBin,eqPure,isConstO,unPure,sliceLo,sliceHi,slicePure,slice3Pure,lenPure,capPure,minPure,maxPure,buildP,resK,endV,yieldE,↓reduceIte,Nat.reduceEqDiff,reduceCtorEq,Nat.reduceAdd,Nat.reduceMul,Nat.reduceSub,Int.reduceLT,Int.reduceLE,Int.reduceToNat,Int.reduceAdd,Int.reduceSub,Int.reduceMul,ne_eq,decide_true,decide_false,tf83, he0, he1, hz, hp1, hd]
      refine ⟨by omega, hcs ?_⟩
      try simp -dsimp only [↓RE,↓c_seq,RU,RL,if_true,if_false,forall_const,implies_true,Nat.reduceLeDiff,Nat.reduceLT,pureOp,binPure,intBin,strBin,eqPure,isConstO,unPure,sliceLo,sliceHi,slicePure,slice3Pure,lenPure,capPure,minPure,maxPure,buildP,resK,endV,yieldE,↓reduceIte,Nat.reduceEqDiff,reduceCtorEq,Nat.reduceAdd,Nat.reduceMul,Nat.reduceSub,Int.reduceLT,Int.reduceLE,Int.reduceToNat,Int.reduceAdd,Int.reduceSub,Int.reduceMul,ne_eq,decide_true,decide_false,tf83, he0]
      refine blk_st3 hb1 rfl rfl rfl (fun w3 hb3 k3 => ?_)
      try simp -dsimp only [↓RE,↓c_seq,RU,RL,if_true,if_false,forall_const,implies_true,Nat.reduceLeDiff,Nat.reduceLT,pureOp,binPure,intBin,strBin,eqPure,isConstO,unPure,sliceLo,sliceHi,slicePure,slice3Pure,lenPure,capPure,minPure,maxPure,buildP,resK,endV,yieldE,↓reduceIte,Nat.reduceEqDiff,reduceCtorEq,Nat.reduceAdd,Nat.reduceMul,Nat.reduceSub,Int.reduceLT,Int.reduceLE,Int.reduceToNat,Int.reduceAdd,Int.reduceSub,Int.reduceMul,ne_eq,decide_true,decide_false,tf83, he0]
      refine blk_agg3 hb3 ?_
      try simp -dsimp only [↓RE,↓c_seq,RU,RL,if_true,if_false,forall_const,implies_true,Nat.reduceLeDiff,Nat.reduceLT,pureOp,binPure,intBin,strBin,eqPure,isConstO,unPure,sliceLo,sliceHi,slicePure,slice3Pure,lenPure,capPure,minPure,maxPure,buildP,resK,endV,yieldE,↓reduceIte,Nat.reduceEqDiff,reduceCtorEq,Nat.reduceAdd,Nat.reduceMul,Nat.reduceSub,Int.reduceLT,Int.reduceLE,Int.reduceToNat,Int.reduceAdd,Int.reduceSub,Int.reduceMul,ne_eq,decide_true,decide_false,tf83, he0]
      exact h w3 (Keep.above g1 k3 (fun k hk e => by omega))
theorem rfirst_ok {w : World} {g : Nat} {v : Value} {l : List Smp} (hS : RefAt w g v l) (hn : l.length ≤ 5864062014634) {R : VWK}
    (h : ∀ w', Grow w w' → R (.tuple #[cS (nthV l (0)).1, .bool (nthV l (0)).2]) w') : CallsV Tryz.prog 66 [.pointer (some ⟨g, 0, none⟩)] w R := by
  have hb1 := Blk.new' w 89 #[.int .i64 0, .int .u8 0, .int .i64 0]
  have g1 := Grow.alloc w (.cells #[.int .i64 0, .int .u8 0, .int .i64 0] 89)
  have hS1 := hS.grow g1
  have hl1 := sub_one hn
  refine calls_of_wpC mixed Tryz.func66 rfl (by kernel_rfl) ?_
  intro e he
  have he0 := he 0
  simp only [List.getD_cons_zero, List.getD_cons_succ] at he0
  clear he
  try simp -dsimp only [↓RE,↓c_seq,RU,RL,if_true,if_false,forall_const,implies_true,Nat.reduceLeDiff,Nat.reduceLT,pureOp,binPure,intBin,strBin,eqPure,isConstO,unPure,sliceLo,sliceHi,slicePure,slice3Pure,lenPure,capPure,minPure,maxPure,buildP,resK,endV,yieldE,↓reduceIte,Nat.reduceEqDiff,reduceCtorEq,Nat.reduceAdd,Nat.reduceMul,Nat.reduceSub,Int.reduceLT,Int.reduceLE,Int.reduceToNat,Int.reduceAdd,Int.reduceSub,Int.reduceMul,ne_eq,decide_true,decide_false,tf66, he0]
  refine rnth_ok hS1 hn (fun w2 g2 => ?_)
  have hb2 := hb1.grow g2
  try simp -dsimp only [↓RE,↓c_seq,RU,RL,if_true,if_false,forall_const,implies_true,Nat.reduceLeDiff,Nat.reduceLT,pureOp,binPure,intBin,strBin,eqPure,isConstO,unPure,sliceLo,sliceHi,slicePure,slice3Pure,lenPure,capPure,minPure,maxPure,buildP,resK,endV,yieldE,↓reduceIte,Nat.reduceEqDiff,reduceCtorEq,Nat.reduceAdd,Nat.reduceMul,Nat.reduceSub,Int.reduceLT,Int.reduceLE,Int.reduceToNat,Int.reduceAdd,Int.reduceSub,Int.reduceMul,ne_eq,decide_true,decide_false,tf66, he0]
  refine blk_st3 hb2 rfl rfl rfl (fun w3 hb3 k3 => ?_)
  try simp -dsimp only [↓RE,↓c_seq,RU,RL,if_true,if_false,forall_const,implies_true,Nat.reduceLeDiff,Nat.reduceLT,pureOp,binPure,intBin,strBin,eqPure,isConstO,unPure,sliceLo,sliceHi,slicePure,slice3Pure,lenPure,capPure,minPure,maxPure,buildP,resK,endV,yieldE,↓reduceIte,Nat.reduceEqDiff,reduceCtorEq,Nat.reduceAdd,Nat.reduceMul,Nat.reduceSub,Int.reduceLT,Int.reduceLE,Int.reduceToNat,Int.reduceAdd,Int.reduceSub,Int.reduceMul,ne_eq,decide_true,decide_false,tf66, he0]
  refine blk_agg3 hb3 ?_
  try simp -dsimp only [↓RE,↓c_seq,RU,RL,if_true,if_false,forall_const,implies_true,Nat.reduceLeDiff,Nat.reduceLT,pureOp,binPure,intBin,strBin,eqPure,isConstO,unPure,sliceLo,sliceHi,slicePure,slice3Pure,lenPure,capPure,minPure,maxPure,buildP,resK,endV,yieldE,↓reduceIte,Nat.reduceEqDiff,reduceCtorEq,Nat.reduceAdd,Nat.reduceMul,Nat.reduceSub,Int.reduceLT,Int.reduceLE,Int.reduceToNat,Int.reduceAdd,Int.reduceSub,Int.reduceMul,ne_eq,decide_true,decide_false,tf66, he0]
  exact h w3 (Keep.above (g1.trans g2) k3 (fun k hk e => by omega))
theorem rlast_ok {w : World} {g : Nat} {v : Value} {l : List Smp} (hS : RefAt w g v l) (hn : l.length ≤ 5864062014634) {R : VWK}
    (h : ∀ w', Grow w w' → R (.tuple #[cS (nthV l ((l.length : Int) - 1)).1, .bool (nthV l ((l.length : Int) - 1)).2]) w') : CallsV Tryz.prog 68 [.pointer (some ⟨g, 0, none⟩)] w R := by
  have hb1 := Blk.new' w 89 #[.int .i64 0, .int .u8 0, .int .i64 0]
  have g1 := Grow.alloc w (.cells #[.int .i64 0, .int .u8 0, .int .i64 0] 89)
  have hS1 := hS.grow g1
  have hl1 := sub_one hn
  refine calls_of_wpC mixed Tryz.func68 rfl (by kernel_rfl) ?_
  intro e he
  have he0 := he 0
  simp only [List.getD_cons_zero, List.getD_cons_succ] at he0
  clear he
  try simp -dsimp only [↓RE,↓c_seq,RU,RL,if_true,if_false,forall_const,implies_true,Nat.reduceLeDiff,Nat.reduceLT,pureOp,binPure,intBin,strBin,eqPure,isConstO,unPure,sliceLo,sliceHi,slicePure,slice3Pure,lenPure,capPure,minPure,maxPure,buildP,resK,endV,yieldE,↓reduceIte,Nat.reduceEqDiff,reduceCtorEq,Nat.reduceAdd,Nat.reduceMul,Nat.reduceSub,Int.reduceLT,Int.reduceLE,Int.reduceToNat,Int.reduceAdd,Int.reduceSub,Int.reduceMul,ne_eq,decide_true,decide_false,tf68, he0]
  refine rlen_ok hS1 ?_
  try simp -dsimp only [↓RE,↓c_seq,RU,RL,if_true,if_false,forall_const,implies_true,Nat.reduceLeDiff,Nat.reduceLT,pureOp,binPure,intBin,strBin,eqPure,isConstO,unPure,sliceLo,sliceHi,slicePure,slice3Pure,lenPure,capPure,minPure,maxPure,buildP,resK,endV,yieldE,↓reduceIte,Nat.reduceEqDiff,reduceCtorEq,Nat.reduceAdd,Nat.reduceMul,Nat.reduceSub,Int.reduceLT,Int.reduceLE,Int.reduceToNat,Int.reduceAdd,Int.reduceSub,Int.reduceMul,ne_eq,decide_true,decide_false,tf68, he0, hl1]
  refine rnth_ok hS1 hn (fun w2 g2 => ?_)
  have hb2 := hb1.grow g2
  try simp -dsimp only [↓RE,↓c_seq,RU,RL,if_true,if_false,forall_const,implies_true,Nat.reduceLeDiff,Nat.reduceLT,pureOp,binPure,intBin,strBin,eqPure,isConstO,unPure,sliceLo,sliceHi,slicePure,slice3Pure,lenPure,capPure,minPure,maxPure,buildP,resK,endV,yieldE,↓reduceIte,Nat.reduceEqDiff,reduceCtorEq,Nat.reduceAdd,Nat.reduceMul,Nat.reduceSub,Int.reduceLT,Int.reduceLE,Int.reduceToNat,Int.reduceAdd,Int.reduceSub,Int.reduceMul,ne_eq,decide_true,decide_false,tf68, he0]
  refine blk_st3 hb2 rfl rfl rfl (fun w3 hb3 k3 => ?_)
  try simp -dsimp only [↓RE,↓c_seq,RU,RL,if_true,if_false,forall_const,implies_true,Nat.reduceLeDiff,Nat.reduceLT,pureOp,binPure,intBin,strBin,eqPure,isConstO,unPure,sliceLo,sliceHi,slicePure,slice3Pure,lenPure,capPure,minPure,maxPure,buildP,resK,endV,yieldE,↓reduceIte,Nat.reduceEqDiff,reduceCtorEq,Nat.reduceAdd,Nat.reduceMul,Nat.reduceSub,Int.reduceLT,Int.reduceLE,Int.reduceToNat,Int.reduceAdd,Int.reduceSub,Int.reduceMul,ne_eq,decide_true,decide_false,tf68, he0]
  refine blk_agg3 hb3 ?_
  try simp -dsimp only [↓RE,↓c_seq,RU,RL,if_true,if_false,forall_const,implies_true,Nat.reduceLeDiff,Nat.reduceLT,pureOp,binPure,intBin,strBin,eqPure,isConstO,unPure,sliceLo,sliceHi,slicePure,slice3Pure,lenPure,capPure,minPure,maxPure,buildP,resK,endV,yieldE,↓reduceIte,Nat.reduceEqDiff,reduceCtorEq,Nat.reduceAdd,Nat.reduceMul,Nat.reduceSub,Int.reduceLT,Int.reduceLE,Int.reduceToNat,Int.reduceAdd,Int.reduceSub,Int.reduceMul,ne_eq,decide_true,decide_false,tf68, he0]
  exact h w3 (Keep.above (g1.trans g2) k3 (fun k hk e => by omega))
theorem rbefore_ok {w : World} {g : Nat} {v : Value} {l : List Smp} (hS : RefAt w g v l) (hn : l.length ≤ 5864062014634) {t : Int} {R : VWK}
    (h : ∀ w', Grow w w' → R (.tuple #[cS (nthV l ((aheadN l t : Int) - 1)).1, .bool (nthV l ((aheadN l t : Int) - 1)).2]) w') : CallsV Tryz.prog 71 [.pointer (some ⟨g, 0, none⟩), .int .i64 t] w R := by
  have hb1 := Blk.new' w 89 #[.int .i64 0, .int .u8 0, .int .i64 0]
  have g1 := Grow.alloc w (.cells #[.int .i64 0, .int .u8 0, .int .i64 0] 89)
  have hS1 := hS.grow g1
  have hl1 := sub_one hn
  refine calls_of_wpC mixed Tryz.func71 rfl (by kernel_rfl) ?_
  intro e he
  have he0 := he 0
  have he1 := he 1
  simp only [List.getD_cons_zero, List.getD_cons_succ] at he0 he1
  clear he
  try simp -dsimp only [↓RE,↓c_seq,RU,RL,if_true,if_false,forall_const,implies_true,Nat.reduceLeDiff,Nat.reduceLT,pureOp,binPure,intBin,strBin,eqPure,isConstO,unPure,sliceLo,sliceHi,slicePure,slice3Pure,lenPure,capPure,minPure,maxPure,buildP,resK,endV,yieldE,↓reduceIte,Nat.reduceEqDiff,reduceCtorEq,Nat.reduceAdd,Nat.reduceMul,Nat.reduceSub,Int.reduceLT,Int.reduceLE,Int.reduceToNat,Int.reduceAdd,Int.reduceSub,Int.reduceMul,ne_eq,decide_true,decide_false,tf71, he0, he1]
  refine ahead_ok hS1 hn (fun i hst => ?_)
  have hli := hst.ahead
  have hil := hst.le
  rw [hli] at h
  have hi1 := sub_one (n := i) (by omega)
  try simp -dsimp only [↓RE,↓c_seq,RU,RL,if_true,if_false,forall_const,implies_true,Nat.reduceLeDiff,Nat.reduceLT,pureOp,binPure,intBin,strBin,eqPure,isConstO,unPure,sliceLo,sliceHi,slicePure,slice3Pure,lenPure,capPure,minPure,maxPure,buildP,resK,endV,yieldE,↓reduceIte,Nat.reduceEqDiff,reduceCtorEq,Nat.reduceAdd,Nat.reduceMul,Nat.reduceSub,Int.reduceLT,Int.reduceLE,Int.reduceToNat,Int.reduceAdd,Int.reduceSub,Int.reduceMul,ne_eq,decide_true,decide_false,tf71, he0, hi1]
  refine rnth_ok hS1 hn (fun w2 g2 => ?_)
  have hb2 := hb1.grow g2
  try simp -dsimp only [↓RE,↓c_seq,RU,RL,if_true,if_false,forall_const,implies_true,Nat.reduceLeDiff,Nat.reduceLT,pureOp,binPure,intBin,strBin,eqPure,isConstO,unPure,sliceLo,sliceHi,slicePure,slice3Pure,lenPure,capPure,minPure,maxPure,buildP,resK,endV,yieldE,↓reduceIte,Nat.reduceEqDiff,reduceCtorEq,Nat.reduceAdd,Nat.reduceMul,Nat.reduceSub,Int.reduceLT,Int.reduceLE,Int.reduceToNat,Int.reduceAdd,Int.reduceSub,Int.reduceMul,ne_eq,decide_true,decide_false,tf71, he0]
  refine blk_st3 hb2 rfl rfl rfl (fun w3 hb3 k3 => ?_)
  try simp -dsimp only [↓RE,↓c_seq,RU,RL,if_true,if_false,forall_const,implies_true,Nat.reduceLeDiff,Nat.reduceLT,pureOp,binPure,intBin,strBin,eqPure,isConstO,unPure,sliceLo,sliceHi,slicePure,slice3Pure,lenPure,capPure,minPure,maxPure,buildP,resK,endV,yieldE,↓reduceIte,Nat.reduceEqDiff,reduceCtorEq,Nat.reduceAdd,Nat.reduceMul,Nat.reduceSub,Int.reduceLT,Int.reduceLE,Int.reduceToNat,Int.reduceAdd,Int.reduceSub,Int.reduceMul,ne_eq,decide_true,decide_false,tf71, he0]
  refine blk_agg3 hb3 ?_
  try simp -dsimp only [↓RE,↓c_seq,RU,RL,if_true,if_false,forall_const,implies_true,Nat.reduceLeDiff,Nat.reduceLT,pureOp,binPure,intBin,strBin,eqPure,isConstO,unPure,sliceLo,sliceHi,slicePure,slice3Pure,lenPure,capPure,minPure,maxPure,buildP,resK,endV,yieldE,↓reduceIte,Nat.reduceEqDiff,reduceCtorEq,Nat.reduceAdd,Nat.reduceMul,Nat.reduceSub,Int.reduceLT,Int.reduceLE,Int.reduceToNat,Int.reduceAdd,Int.reduceSub,Int.reduceMul,ne_eq,decide_true,decide_false,tf71, he0]
  exact h w3 (Keep.above (g1.trans g2) k3 (fun k hk e => by omega))
theorem rbehind_ok {w : World} {g : Nat} {v : Value} {l : List Smp} (hS : RefAt w g v l) (hn : l.length ≤ 5864062014634) {t : Int} {R : VWK}
    (h : ∀ w', Grow w w' → R (.tuple #[cS (nthV l ((aheadN l t : Int))).1, .bool (nthV l ((aheadN l t : Int))).2]) w') : CallsV Tryz.prog 73 [.pointer (some ⟨g, 0, none⟩), .int .i64 t] w R := by
  have hb1 := Blk.new' w 89 #[.int .i64 0, .int .u8 0, .int .i64 0]
  have g1 := Grow.alloc w (.cells #[.int .i64 0, .int .u8 0, .int .i64 0] 89)
  have hS1 := hS.grow g1
  have hl1 := sub_one hn
  refine calls_of_wpC mixed Tryz.func73 rfl (by kernel_rfl) ?_
  intro e he
  have he0 := he 0
  have he1 := he 1
  simp only [List.getD_cons_zero, List.getD_cons_succ] at he0 he1
  clear he
  try simp -dsimp only [↓RE,↓c_seq,RU,RL,if_true,if_false,forall_const,implies_true,Nat.reduceLeDiff,Nat.reduceLT,pureOp,binPure,intBin,strBin,eqPure,isConstO,unPure,sliceLo,sliceHi,slicePure,slice3Pure,lenPure,capPure,minPure,maxPure,buildP,resK,endV,yieldE,↓reduceIte,Nat.reduceEqDiff,reduceCtorEq,Nat.reduceAdd,Nat.reduceMul,Nat.reduceSub,Int.reduceLT,Int.reduceLE,Int.reduceToNat,Int.reduceAdd,Int.reduceSub,Int.reduceMul,ne_eq,decide_true,decide_false,tf73, he0, he1]
  refine ahead_ok hS1 hn (fun i hst => ?_)
  have hli := hst.ahead
  have hil := hst.le
  rw [hli] at h
  have hi1 := sub_one (n := i) (by omega)
  try simp -dsimp only [↓RE,↓c_seq,RU,RL,if_true,if_false,forall_const,implies_true,Nat.reduceLeDiff,Nat.reduceLT,pureOp,binPure,intBin,strBin,eqPure,isConstO,unPure,sliceLo,sliceHi,slicePure,slice3Pure,lenPure,capPure,minPure,maxPure,buildP,resK,endV,yieldE,↓reduceIte,Nat.reduceEqDiff,reduceCtorEq,Nat.reduceAdd,Nat.reduceMul,Nat.reduceSub,Int.reduceLT,Int.reduceLE,Int.reduceToNat,Int.reduceAdd,Int.reduceSub,Int.reduceMul,ne_eq,decide_true,decide_false,tf73, he0, hi1]
  refine rnth_ok hS1 hn (fun w2 g2 => ?_)
  have hb2 := hb1.grow g2
  try simp -dsimp only [↓RE,↓c_seq,RU,RL,if_true,if_false,forall_const,implies_true,Nat.reduceLeDiff,Nat.reduceLT,pureOp,binPure,intBin,strBin,eqPure,isConstO,unPure,sliceLo,sliceHi,slicePure,slice3Pure,lenPure,capPure,minPure,maxPure,buildP,resK,endV,yieldE,↓reduceIte,Nat.reduceEqDiff,reduceCtorEq,Nat.reduceAdd,Nat.reduceMul,Nat.reduceSub,Int.reduceLT,Int.reduceLE,Int.reduceToNat,Int.reduceAdd,Int.reduceSub,Int.reduceMul,ne_eq,decide_true,decide_false,tf73, he0]
  refine blk_st3 hb2 rfl rfl rfl (fun w3 hb3 k3 => ?_)
  try simp -dsimp only [↓RE,↓c_seq,RU,RL,if_true,if_false,forall_const,implies_true,Nat.reduceLeDiff,Nat.reduceLT,pureOp,binPure,intBin,strBin,eqPure,isConstO,unPure,sliceLo,sliceHi,slicePure,slice3Pure,lenPure,capPure,minPure,maxPure,buildP,resK,endV,yieldE,↓reduceIte,Nat.reduceEqDiff,reduceCtorEq,Nat.reduceAdd,Nat.reduceMul,Nat.reduceSub,Int.reduceLT,Int.reduceLE,Int.reduceToNat,Int.reduceAdd,Int.reduceSub,Int.reduceMul,ne_eq,decide_true,decide_false,tf73, he0]
  refine blk_agg3 hb3 ?_
  try simp -dsimp only [↓RE,↓c_seq,RU,RL,if_true,if_false,forall_const,implies_true,Nat.reduceLeDiff,Nat.reduceLT,pureOp,binPure,intBin,strBin,eqPure,isConstO,unPure,sliceLo,sliceHi,slicePure,slice3Pure,lenPure,capPure,minPure,maxPure,buildP,resK,endV,yieldE,↓reduceIte,Nat.reduceEqDiff,reduceCtorEq,Nat.reduceAdd,Nat.reduceMul,Nat.reduceSub,Int.reduceLT,Int.reduceLE,Int.reduceToNat,Int.reduceAdd,Int.reduceSub,Int.reduceMul,ne_eq,decide_true,decide_false,tf73, he0]
  exact h w3 (Keep.above (g1.trans g2) k3 (fun k hk e => by omega))

end Go.Proofs.YtcnebgokbjpjnaaGreat
