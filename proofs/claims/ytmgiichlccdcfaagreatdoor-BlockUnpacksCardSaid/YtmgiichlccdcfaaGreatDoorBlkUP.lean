/- The law BlockUnpacks, walked. -/
import Derived.Test.YtmgiichlccdcfaaGreatDoorHead
import Derived.Test.YtmgiichlccdcfaaGreatDoorRunPack
import Derived.Test.YtmgiichlccdcfaaGreatDoorSameS
import Derived.Test.YtmgiichlccdcfaaGreatDoorLives
import Derived.Test.YtmgiichlccdcfaaGreatDoorHand
set_option linter.unusedVariables false
set_option linter.unusedSimpArgs false
set_option maxRecDepth 100000
namespace Go.Proofs.YtmgiichlccdcfaaGreatDoor
open Go

theorem uPe_er {b : List Int} {x : TypeId × Value} (h : uPe b = some x) : ∃ y : Er, errV (some x) = y.v ∧ badE x = y.bad ∧ y.code ≠ 0 := by
  rcases uPe_kind h with rfl | h
  · exact ⟨.no 90, rfl, rfl, by decide⟩
  · rcases h with h | ⟨p, e, he, h⟩
    · cases h
    · injection h with h
      subst h
      exact ⟨.pl p e, rfl, rfl, he⟩
theorem bunpacks_walk {w : World} (hL : Lay w) {A : Option Addr} {n c : Nat} {xs : List Int} (hR : Rd w A n 1 (xs.map (Value.int .u8))) (hx : ∀ z ∈ xs, 0 ≤ z ∧ z < 256) (hn : n ≤ 140737488355327)
    {R : VWK} (h : ∀ w', Grow w w' → R (.bool true) w') : CallsV Tryz.prog 3 [.slice A n c] w R := by
  have hl := hR.len1
  refine calls_of_wpC mixed Tryz.func3 rfl (by kernel_rfl) ?_
  intro e he
  have he0 := he 0
  simp only [List.getD_cons_zero, List.getD_cons_succ] at he0
  clear he
  rw [c_seq]
  simp -dsimp only [↓RE,RU,RL,if_true,if_false,forall_const,implies_true,Nat.reduceLeDiff,Nat.reduceLT,pureOp,binPure,intBin,strBin,eqPure,isConstO,unPure,sliceLo,sliceHi,slicePure,lenPure,minPure,maxPure,buildP,resK,endV,yieldE,↓reduceIte,Nat.reduceEqDiff,reduceCtorEq,Nat.reduceAdd,Nat.reduceMul,Nat.reduceSub,Int.reduceLT,Int.reduceLE,Int.reduceToNat,Int.reduceAdd,Int.reduceSub,Int.reduceMul,ne_eq,decide_true,decide_false,tf3, he0]
  rw [c_seq]
  simp -dsimp only [↓RE,RU,RL,if_true,if_false,forall_const,implies_true,Nat.reduceLeDiff,Nat.reduceLT,pureOp,binPure,intBin,strBin,eqPure,isConstO,unPure,sliceLo,sliceHi,slicePure,lenPure,minPure,maxPure,buildP,resK,endV,yieldE,↓reduceIte,Nat.reduceEqDiff,reduceCtorEq,Nat.reduceAdd,Nat.reduceMul,Nat.reduceSub,Int.reduceLT,Int.reduceLE,Int.reduceToNat,Int.reduceAdd,Int.reduceSub,Int.reduceMul,ne_eq,decide_true,decide_false,tf3, he0]
  refine hand_ok hR (by omega) (fun w1 g hB1 g1 hge => ?_)
  have hR1 := handed_rd hB1 hl
  simp -dsimp only [↓RE,RU,RL,if_true,if_false,forall_const,implies_true,Nat.reduceLeDiff,Nat.reduceLT,pureOp,binPure,intBin,strBin,eqPure,isConstO,unPure,sliceLo,sliceHi,slicePure,lenPure,minPure,maxPure,buildP,resK,endV,yieldE,↓reduceIte,Nat.reduceEqDiff,reduceCtorEq,Nat.reduceAdd,Nat.reduceMul,Nat.reduceSub,Int.reduceLT,Int.reduceLE,Int.reduceToNat,Int.reduceAdd,Int.reduceSub,Int.reduceMul,ne_eq,decide_true,decide_false,tf3, he0]
  rw [c_seq]
  simp -dsimp only [↓RE,RU,RL,if_true,if_false,forall_const,implies_true,Nat.reduceLeDiff,Nat.reduceLT,pureOp,binPure,intBin,strBin,eqPure,isConstO,unPure,sliceLo,sliceHi,slicePure,lenPure,minPure,maxPure,buildP,resK,endV,yieldE,↓reduceIte,Nat.reduceEqDiff,reduceCtorEq,Nat.reduceAdd,Nat.reduceMul,Nat.reduceSub,Int.reduceLT,Int.reduceLE,Int.reduceToNat,Int.reduceAdd,Int.reduceSub,Int.reduceMul,ne_eq,decide_true,decide_false,tf3, he0]
  cases hd : uPe xs with
  | some x =>
    obtain ⟨y, y1, y2, y3⟩ := uPe_er hd
    refine unpack_ok hR1 hx (by omega) (fun x' w2 hd' g2 => ?_) (fun hq => by rw [hd] at hq; cases hq)
    obtain rfl : x = x' := by rw [hd] at hd'; injection hd'
    try simp -dsimp only [↓RE,↓c_seq,RU,RL,if_true,if_false,forall_const,implies_true,Nat.reduceLeDiff,Nat.reduceLT,pureOp,binPure,intBin,strBin,eqPure,isConstO,unPure,sliceLo,sliceHi,slicePure,lenPure,minPure,maxPure,buildP,resK,endV,yieldE,↓reduceIte,Nat.reduceEqDiff,reduceCtorEq,Nat.reduceAdd,Nat.reduceMul,Nat.reduceSub,Int.reduceLT,Int.reduceLE,Int.reduceToNat,Int.reduceAdd,Int.reduceSub,Int.reduceMul,ne_eq,decide_true,decide_false,tf3, he0, y1]
    refine runpack_ok ((hR.grow g1).grow g2) hx (by omega) (fun x' w3 hd' g3 => ?_) (fun hq => by rw [hd] at hq; cases hq)
    obtain rfl : x = x' := by rw [hd] at hd'; injection hd'
    have gw3 := (g1.trans g2).trans g3
    have hz := Blk.new' w3 31 #[.int .i64 0, .int .i64 0, .int .i64 0, .bool false, .bool false]
    have ga := Grow.alloc w3 (.cells #[.int .i64 0, .int .i64 0, .int .i64 0, .bool false, .bool false] 31)
    rw [y2]
    try simp -dsimp only [↓RE,↓c_seq,RU,RL,if_true,if_false,forall_const,implies_true,Nat.reduceLeDiff,Nat.reduceLT,pureOp,binPure,intBin,strBin,eqPure,isConstO,unPure,sliceLo,sliceHi,slicePure,lenPure,minPure,maxPure,buildP,resK,endV,yieldE,↓reduceIte,Nat.reduceEqDiff,reduceCtorEq,Nat.reduceAdd,Nat.reduceMul,Nat.reduceSub,Int.reduceLT,Int.reduceLE,Int.reduceToNat,Int.reduceAdd,Int.reduceSub,Int.reduceMul,ne_eq,decide_true,decide_false,tf3, he0, y1, BadV.v, BadV.cells]
    refine bad_put (w := w) (b := y.bad) (gw3.trans ga) hz rfl gw3.size (fun w4 hB4 k4 g4 => ?_)
    have k34 : Grow w3 w4 := ga.above k4 (fun i hi e => by omega)
    try simp -dsimp only [↓RE,↓c_seq,RU,RL,if_true,if_false,forall_const,implies_true,Nat.reduceLeDiff,Nat.reduceLT,pureOp,binPure,intBin,strBin,eqPure,isConstO,unPure,sliceLo,sliceHi,slicePure,lenPure,minPure,maxPure,buildP,resK,endV,yieldE,↓reduceIte,Nat.reduceEqDiff,reduceCtorEq,Nat.reduceAdd,Nat.reduceMul,Nat.reduceSub,Int.reduceLT,Int.reduceLE,Int.reduceToNat,Int.reduceAdd,Int.reduceSub,Int.reduceMul,ne_eq,decide_true,decide_false,tf3, he0, y1]
    refine head_ok (((hR1.grow g2).grow g3).grow k34) hx (by omega) (fun x' w5 hd' g5 => ?_) (fun hq => by rw [hd] at hq; cases hq)
    obtain rfl : x = x' := by rw [hd] at hd'; injection hd'
    try simp -dsimp only [↓RE,↓c_seq,RU,RL,if_true,if_false,forall_const,implies_true,Nat.reduceLeDiff,Nat.reduceLT,pureOp,binPure,intBin,strBin,eqPure,isConstO,unPure,sliceLo,sliceHi,slicePure,lenPure,minPure,maxPure,buildP,resK,endV,yieldE,↓reduceIte,Nat.reduceEqDiff,reduceCtorEq,Nat.reduceAdd,Nat.reduceMul,Nat.reduceSub,Int.reduceLT,Int.reduceLE,Int.reduceToNat,Int.reduceAdd,Int.reduceSub,Int.reduceMul,ne_eq,decide_true,decide_false,tf3, he0, y1]
    refine (hB4.grow g5).aggK (by simp [BadV.cells]) ?_
    try simp -dsimp only [↓RE,↓c_seq,RU,RL,if_true,if_false,forall_const,implies_true,Nat.reduceLeDiff,Nat.reduceLT,pureOp,binPure,intBin,strBin,eqPure,isConstO,unPure,sliceLo,sliceHi,slicePure,lenPure,minPure,maxPure,buildP,resK,endV,yieldE,↓reduceIte,Nat.reduceEqDiff,reduceCtorEq,Nat.reduceAdd,Nat.reduceMul,Nat.reduceSub,Int.reduceLT,Int.reduceLE,Int.reduceToNat,Int.reduceAdd,Int.reduceSub,Int.reduceMul,ne_eq,decide_true,decide_false,tf3, he0, y1]
    refine same_err (x := some y) (hL.grow (g4.trans g5)) (by intro z hz; injection hz with hz; subst hz; exact y3) (fun w6 g6 => ?_)
    try simp -dsimp only [↓RE,↓c_seq,RU,RL,if_true,if_false,forall_const,implies_true,Nat.reduceLeDiff,Nat.reduceLT,pureOp,binPure,intBin,strBin,eqPure,isConstO,unPure,sliceLo,sliceHi,slicePure,lenPure,minPure,maxPure,buildP,resK,endV,yieldE,↓reduceIte,Nat.reduceEqDiff,reduceCtorEq,Nat.reduceAdd,Nat.reduceMul,Nat.reduceSub,Int.reduceLT,Int.reduceLE,Int.reduceToNat,Int.reduceAdd,Int.reduceSub,Int.reduceMul,ne_eq,decide_true,decide_false,tf3, he0, y1]
    refine ((hB4.grow g5).grow g6).aggK (by simp [BadV.cells]) ?_
    try simp -dsimp only [↓RE,↓c_seq,RU,RL,if_true,if_false,forall_const,implies_true,Nat.reduceLeDiff,Nat.reduceLT,pureOp,binPure,intBin,strBin,eqPure,isConstO,unPure,sliceLo,sliceHi,slicePure,lenPure,minPure,maxPure,buildP,resK,endV,yieldE,↓reduceIte,Nat.reduceEqDiff,reduceCtorEq,Nat.reduceAdd,Nat.reduceMul,Nat.reduceSub,Int.reduceLT,Int.reduceLE,Int.reduceToNat,Int.reduceAdd,Int.reduceSub,Int.reduceMul,ne_eq,decide_true,decide_false,tf3, he0, y1]
    refine same_err (x := some y) (hL.grow ((g4.trans g5).trans g6)) (by intro z hz; injection hz with hz; subst hz; exact y3) (fun w7 g7 => ?_)
    try simp -dsimp only [↓RE,↓c_seq,RU,RL,if_true,if_false,forall_const,implies_true,Nat.reduceLeDiff,Nat.reduceLT,pureOp,binPure,intBin,strBin,eqPure,isConstO,unPure,sliceLo,sliceHi,slicePure,lenPure,minPure,maxPure,buildP,resK,endV,yieldE,↓reduceIte,Nat.reduceEqDiff,reduceCtorEq,Nat.reduceAdd,Nat.reduceMul,Nat.reduceSub,Int.reduceLT,Int.reduceLE,Int.reduceToNat,Int.reduceAdd,Int.reduceSub,Int.reduceMul,ne_eq,decide_true,decide_false,tf3, he0, y1]
    refine sameSamples_ok (xs := []) (ys := []) (Rd.nil _ _ _) (Rd.nil _ _ _) (by omega) (by omega) (fun w8 g8 => ?_)
    have g48 := (g5.trans g6).trans (g7.trans g8)
    try simp -dsimp only [↓RE,↓c_seq,RU,RL,if_true,if_false,forall_const,implies_true,Nat.reduceLeDiff,Nat.reduceLT,pureOp,binPure,intBin,strBin,eqPure,isConstO,unPure,sliceLo,sliceHi,slicePure,lenPure,minPure,maxPure,buildP,resK,endV,yieldE,↓reduceIte,Nat.reduceEqDiff,reduceCtorEq,Nat.reduceAdd,Nat.reduceMul,Nat.reduceSub,Int.reduceLT,Int.reduceLE,Int.reduceToNat,Int.reduceAdd,Int.reduceSub,Int.reduceMul,ne_eq,decide_true,decide_false,tf3, he0, y1, eq_self, Int.cast_ofNat_Int, undef]
    refine live9_ok (fun w9 g9 => ?_)
    try simp -dsimp only [↓RE,↓c_seq,RU,RL,if_true,if_false,forall_const,implies_true,Nat.reduceLeDiff,Nat.reduceLT,pureOp,binPure,intBin,strBin,eqPure,isConstO,unPure,sliceLo,sliceHi,slicePure,lenPure,minPure,maxPure,buildP,resK,endV,yieldE,↓reduceIte,Nat.reduceEqDiff,reduceCtorEq,Nat.reduceAdd,Nat.reduceMul,Nat.reduceSub,Int.reduceLT,Int.reduceLE,Int.reduceToNat,Int.reduceAdd,Int.reduceSub,Int.reduceMul,ne_eq,decide_true,decide_false,tf3, he0]
    have gg := ((g4.trans g48).trans g9)
    refine kept_ok (hB1.grow ((((g2.trans g3).trans k34).trans g48).trans g9)) (hR.grow gg) (by omega) (fun w10 g10 => ?_)
    try simp -dsimp only [↓RE,↓c_seq,RU,RL,if_true,if_false,forall_const,implies_true,Nat.reduceLeDiff,Nat.reduceLT,pureOp,binPure,intBin,strBin,eqPure,isConstO,unPure,sliceLo,sliceHi,slicePure,lenPure,minPure,maxPure,buildP,resK,endV,yieldE,↓reduceIte,Nat.reduceEqDiff,reduceCtorEq,Nat.reduceAdd,Nat.reduceMul,Nat.reduceSub,Int.reduceLT,Int.reduceLE,Int.reduceToNat,Int.reduceAdd,Int.reduceSub,Int.reduceMul,ne_eq,decide_true,decide_false,tf3, he0]
    exact h w10 (gg.trans g10)
  | none =>
    have hul := uT_len (kX xs)
    have hzl : (uPl xs).length ≤ 1048576 := by unfold uPl; rw [List.length_zip]; omega
    have f1 : hFrom xs = ((uPl xs).getD 0 (0, 0, 0)).1 := rfl
    have f2 : hTo xs = ((uPl xs).getD ((uPl xs).length - 1) (0, 0, 0)).1 := rfl
    rcases Nat.eq_zero_or_pos (uPl xs).length with h0 | h0
    · have hL0 : uPl xs = [] := List.eq_nil_of_length_eq_zero h0
      have f1 : hFrom xs = 0 := by unfold hFrom; rw [hL0]; rfl
      have f2 : hTo xs = 0 := by unfold hTo; rw [hL0]; rfl
      have d1 : decide ((0 : Int) < 0) = false := by decide
      have d2 : decide ((0 : Int) = 0) = true := by decide
      rw [hL0] at hzl
      refine unpack_ok hR1 hx (by omega) (fun x' w2 hq g2 => by rw [hd] at hq; cases hq) (fun _ w2 A2 c2 hO2 g2 hF2 => ?_)
      rw [hL0] at hO2
      try simp -dsimp only [↓RE,↓c_seq,RU,RL,if_true,if_false,forall_const,implies_true,Nat.reduceLeDiff,Nat.reduceLT,pureOp,binPure,intBin,strBin,eqPure,isConstO,unPure,sliceLo,sliceHi,slicePure,lenPure,minPure,maxPure,buildP,resK,endV,yieldE,↓reduceIte,Nat.reduceEqDiff,reduceCtorEq,Nat.reduceAdd,Nat.reduceMul,Nat.reduceSub,Int.reduceLT,Int.reduceLE,Int.reduceToNat,Int.reduceAdd,Int.reduceSub,Int.reduceMul,ne_eq,decide_true,decide_false,tf3, he0, hL0]
      refine runpack_ok ((hR.grow g1).grow g2) hx (by omega) (fun x' w3 hq g3 => by rw [hd] at hq; cases hq) (fun _ w3 A3 c3 hR3 g3 => ?_)
      rw [hL0] at hR3
      have gw3 := (g1.trans g2).trans g3
      have hz := Blk.new' w3 31 #[.int .i64 0, .int .i64 0, .int .i64 0, .bool false, .bool false]
      have ga := Grow.alloc w3 (.cells #[.int .i64 0, .int .i64 0, .int .i64 0, .bool false, .bool false] 31)
      try simp -dsimp only [↓RE,↓c_seq,RU,RL,if_true,if_false,forall_const,implies_true,Nat.reduceLeDiff,Nat.reduceLT,pureOp,binPure,intBin,strBin,eqPure,isConstO,unPure,sliceLo,sliceHi,slicePure,lenPure,minPure,maxPure,buildP,resK,endV,yieldE,↓reduceIte,Nat.reduceEqDiff,reduceCtorEq,Nat.reduceAdd,Nat.reduceMul,Nat.reduceSub,Int.reduceLT,Int.reduceLE,Int.reduceToNat,Int.reduceAdd,Int.reduceSub,Int.reduceMul,ne_eq,decide_true,decide_false,tf3, he0, hL0, BadV.v, BadV.cells, BadV.none]
      refine bad_put (w := w) (b := BadV.none) (gw3.trans ga) hz rfl gw3.size (fun w4 hB4 k4 g4 => ?_)
      have hB4 : Blk w4 w3.heap.size 31 (badOf none).cells := hB4
      have k34 : Grow w3 w4 := ga.above k4 (fun i hi e => by omega)
      try simp -dsimp only [↓RE,↓c_seq,RU,RL,if_true,if_false,forall_const,implies_true,Nat.reduceLeDiff,Nat.reduceLT,pureOp,binPure,intBin,strBin,eqPure,isConstO,unPure,sliceLo,sliceHi,slicePure,lenPure,minPure,maxPure,buildP,resK,endV,yieldE,↓reduceIte,Nat.reduceEqDiff,reduceCtorEq,Nat.reduceAdd,Nat.reduceMul,Nat.reduceSub,Int.reduceLT,Int.reduceLE,Int.reduceToNat,Int.reduceAdd,Int.reduceSub,Int.reduceMul,ne_eq,decide_true,decide_false,tf3, he0, hL0, f1, f2, List.length_nil]
      refine head_ok (((hR1.grow g2).grow g3).grow k34) hx (by omega) (fun x' w5 hq g5 => by rw [hd] at hq; cases hq) (fun _ w5 g5 => ?_)
      try simp -dsimp only [↓RE,↓c_seq,RU,RL,if_true,if_false,forall_const,implies_true,Nat.reduceLeDiff,Nat.reduceLT,pureOp,binPure,intBin,strBin,eqPure,isConstO,unPure,sliceLo,sliceHi,slicePure,lenPure,minPure,maxPure,buildP,resK,endV,yieldE,↓reduceIte,Nat.reduceEqDiff,reduceCtorEq,Nat.reduceAdd,Nat.reduceMul,Nat.reduceSub,Int.reduceLT,Int.reduceLE,Int.reduceToNat,Int.reduceAdd,Int.reduceSub,Int.reduceMul,ne_eq,decide_true,decide_false,tf3, he0, hL0, f1, f2, List.length_nil]
      refine (hB4.grow g5).aggK (by simp [BadV.cells]) ?_
      try simp -dsimp only [↓RE,↓c_seq,RU,RL,if_true,if_false,forall_const,implies_true,Nat.reduceLeDiff,Nat.reduceLT,pureOp,binPure,intBin,strBin,eqPure,isConstO,unPure,sliceLo,sliceHi,slicePure,lenPure,minPure,maxPure,buildP,resK,endV,yieldE,↓reduceIte,Nat.reduceEqDiff,reduceCtorEq,Nat.reduceAdd,Nat.reduceMul,Nat.reduceSub,Int.reduceLT,Int.reduceLE,Int.reduceToNat,Int.reduceAdd,Int.reduceSub,Int.reduceMul,ne_eq,decide_true,decide_false,tf3, he0, hL0, f1, f2, List.length_nil]
      refine same_err (x := none) (hL.grow (g4.trans g5)) (by intro z hz; cases hz) (fun w6 g6 => ?_)
      try simp -dsimp only [↓RE,↓c_seq,RU,RL,if_true,if_false,forall_const,implies_true,Nat.reduceLeDiff,Nat.reduceLT,pureOp,binPure,intBin,strBin,eqPure,isConstO,unPure,sliceLo,sliceHi,slicePure,lenPure,minPure,maxPure,buildP,resK,endV,yieldE,↓reduceIte,Nat.reduceEqDiff,reduceCtorEq,Nat.reduceAdd,Nat.reduceMul,Nat.reduceSub,Int.reduceLT,Int.reduceLE,Int.reduceToNat,Int.reduceAdd,Int.reduceSub,Int.reduceMul,ne_eq,decide_true,decide_false,tf3, he0, hL0, f1, f2, List.length_nil]
      refine ((hB4.grow g5).grow g6).aggK (by simp [BadV.cells]) ?_
      try simp -dsimp only [↓RE,↓c_seq,RU,RL,if_true,if_false,forall_const,implies_true,Nat.reduceLeDiff,Nat.reduceLT,pureOp,binPure,intBin,strBin,eqPure,isConstO,unPure,sliceLo,sliceHi,slicePure,lenPure,minPure,maxPure,buildP,resK,endV,yieldE,↓reduceIte,Nat.reduceEqDiff,reduceCtorEq,Nat.reduceAdd,Nat.reduceMul,Nat.reduceSub,Int.reduceLT,Int.reduceLE,Int.reduceToNat,Int.reduceAdd,Int.reduceSub,Int.reduceMul,ne_eq,decide_true,decide_false,tf3, he0, hL0, f1, f2, List.length_nil]
      refine same_err (x := none) (hL.grow ((g4.trans g5).trans g6)) (by intro z hz; cases hz) (fun w7 g7 => ?_)
      have g37 := ((k34.trans g5).trans g6).trans g7
      have hRl := Rd.of_own (own_grow (own_grow hO2 g3) g37)
      have hRm := hR3.grow g37
      try simp -dsimp only [↓RE,↓c_seq,RU,RL,if_true,if_false,forall_const,implies_true,Nat.reduceLeDiff,Nat.reduceLT,pureOp,binPure,intBin,strBin,eqPure,isConstO,unPure,sliceLo,sliceHi,slicePure,lenPure,minPure,maxPure,buildP,resK,endV,yieldE,↓reduceIte,Nat.reduceEqDiff,reduceCtorEq,Nat.reduceAdd,Nat.reduceMul,Nat.reduceSub,Int.reduceLT,Int.reduceLE,Int.reduceToNat,Int.reduceAdd,Int.reduceSub,Int.reduceMul,ne_eq,decide_true,decide_false,tf3, he0, hL0, f1, f2, List.length_nil]
      refine sameSamples_ok hRl hRm (by omega) (by omega) (fun w8 g8 => ?_)
      have g48 := (g5.trans g6).trans (g7.trans g8)
      have hRm8 := hRm.grow g8
      try simp -dsimp only [↓RE,↓c_seq,RU,RL,if_true,if_false,forall_const,implies_true,Nat.reduceLeDiff,Nat.reduceLT,pureOp,binPure,intBin,strBin,eqPure,isConstO,unPure,sliceLo,sliceHi,slicePure,lenPure,minPure,maxPure,buildP,resK,endV,yieldE,↓reduceIte,Nat.reduceEqDiff,reduceCtorEq,Nat.reduceAdd,Nat.reduceMul,Nat.reduceSub,Int.reduceLT,Int.reduceLE,Int.reduceToNat,Int.reduceAdd,Int.reduceSub,Int.reduceMul,ne_eq,decide_true,decide_false,tf3, he0, hL0, f1, f2, d1, d2, eq_self, undef, List.length_nil, Int.cast_ofNat_Int, decide_true, Bool.not_true]
      refine live9_ok (fun w9 g9 => ?_)
      try simp -dsimp only [↓RE,↓c_seq,RU,RL,if_true,if_false,forall_const,implies_true,Nat.reduceLeDiff,Nat.reduceLT,pureOp,binPure,intBin,strBin,eqPure,isConstO,unPure,sliceLo,sliceHi,slicePure,lenPure,minPure,maxPure,buildP,resK,endV,yieldE,↓reduceIte,Nat.reduceEqDiff,reduceCtorEq,Nat.reduceAdd,Nat.reduceMul,Nat.reduceSub,Int.reduceLT,Int.reduceLE,Int.reduceToNat,Int.reduceAdd,Int.reduceSub,Int.reduceMul,ne_eq,decide_true,decide_false,tf3, he0]
      have gg := (g4.trans g48).trans g9
      refine kept_ok (hB1.grow ((((g2.trans g3).trans k34).trans g48).trans g9)) (hR.grow gg) (by omega) (fun w10 g10 => ?_)
      try simp -dsimp only [↓RE,↓c_seq,RU,RL,if_true,if_false,forall_const,implies_true,Nat.reduceLeDiff,Nat.reduceLT,pureOp,binPure,intBin,strBin,eqPure,isConstO,unPure,sliceLo,sliceHi,slicePure,lenPure,minPure,maxPure,buildP,resK,endV,yieldE,↓reduceIte,Nat.reduceEqDiff,reduceCtorEq,Nat.reduceAdd,Nat.reduceMul,Nat.reduceSub,Int.reduceLT,Int.reduceLE,Int.reduceToNat,Int.reduceAdd,Int.reduceSub,Int.reduceMul,ne_eq,decide_true,decide_false,tf3, he0]
      exact h w10 (gg.trans g10)
    · have d1 : decide (0 < ((uPl xs).length : Int)) = true := decide_eq_true (by omega)
      have d2 : decide (((uPl xs).length : Int) = 0) = false := decide_eq_false (by omega)
      have v1 : IntKind.i64.wrap (((uPl xs).length : Int) - 1) = (((uPl xs).length - 1 : Nat) : Int) := by rw [wrap_i64_in (by omega) (by omega)]; omega
      refine unpack_ok hR1 hx (by omega) (fun x' w2 hq g2 => by rw [hd] at hq; cases hq) (fun _ w2 A2 c2 hO2 g2 hF2 => ?_)
      try simp -dsimp only [↓RE,↓c_seq,RU,RL,if_true,if_false,forall_const,implies_true,Nat.reduceLeDiff,Nat.reduceLT,pureOp,binPure,intBin,strBin,eqPure,isConstO,unPure,sliceLo,sliceHi,slicePure,lenPure,minPure,maxPure,buildP,resK,endV,yieldE,↓reduceIte,Nat.reduceEqDiff,reduceCtorEq,Nat.reduceAdd,Nat.reduceMul,Nat.reduceSub,Int.reduceLT,Int.reduceLE,Int.reduceToNat,Int.reduceAdd,Int.reduceSub,Int.reduceMul,ne_eq,decide_true,decide_false,tf3, he0]
      refine runpack_ok ((hR.grow g1).grow g2) hx (by omega) (fun x' w3 hq g3 => by rw [hd] at hq; cases hq) (fun _ w3 A3 c3 hR3 g3 => ?_)
      obtain ⟨ad, rfl, _⟩ := hR3.smp (k := 0) h0
      have hcells : ∀ wq, Grow w3 wq → wq.cell? ad = some (.int .i64 ((uPl xs).getD 0 (0, 0, 0)).1) ∧ wq.cell? (ad.add (((uPl xs).length - 1) * 3)) = some (.int .i64 ((uPl xs).getD ((uPl xs).length - 1) (0, 0, 0)).1) := by
        intro wq gq
        obtain ⟨ad1, hAd1, hca, _, _⟩ := (hR3.grow gq).smp (k := 0) h0
        obtain ⟨ad2, hAd2, hcb, _, _⟩ := (hR3.grow gq).smp (k := (uPl xs).length - 1) (by omega)
        injection hAd1 with hAd1
        injection hAd2 with hAd2
        subst hAd1
        subst hAd2
        rw [Nat.zero_mul, add_zero'] at hca
        exact ⟨hca, hcb⟩
      have gw3 := (g1.trans g2).trans g3
      have hz := Blk.new' w3 31 #[.int .i64 0, .int .i64 0, .int .i64 0, .bool false, .bool false]
      have ga := Grow.alloc w3 (.cells #[.int .i64 0, .int .i64 0, .int .i64 0, .bool false, .bool false] 31)
      try simp -dsimp only [↓RE,↓c_seq,RU,RL,if_true,if_false,forall_const,implies_true,Nat.reduceLeDiff,Nat.reduceLT,pureOp,binPure,intBin,strBin,eqPure,isConstO,unPure,sliceLo,sliceHi,slicePure,lenPure,minPure,maxPure,buildP,resK,endV,yieldE,↓reduceIte,Nat.reduceEqDiff,reduceCtorEq,Nat.reduceAdd,Nat.reduceMul,Nat.reduceSub,Int.reduceLT,Int.reduceLE,Int.reduceToNat,Int.reduceAdd,Int.reduceSub,Int.reduceMul,ne_eq,decide_true,decide_false,tf3, he0, BadV.v, BadV.cells, BadV.none]
      refine bad_put (w := w) (b := BadV.none) (gw3.trans ga) hz rfl gw3.size (fun w4 hB4 k4 g4 => ?_)
      have hB4 : Blk w4 w3.heap.size 31 (badOf none).cells := hB4
      have k34 : Grow w3 w4 := ga.above k4 (fun i hi e => by omega)
      try simp -dsimp only [↓RE,↓c_seq,RU,RL,if_true,if_false,forall_const,implies_true,Nat.reduceLeDiff,Nat.reduceLT,pureOp,binPure,intBin,strBin,eqPure,isConstO,unPure,sliceLo,sliceHi,slicePure,lenPure,minPure,maxPure,buildP,resK,endV,yieldE,↓reduceIte,Nat.reduceEqDiff,reduceCtorEq,Nat.reduceAdd,Nat.reduceMul,Nat.reduceSub,Int.reduceLT,Int.reduceLE,Int.reduceToNat,Int.reduceAdd,Int.reduceSub,Int.reduceMul,ne_eq,decide_true,decide_false,tf3, he0, f1, f2]
      refine head_ok (((hR1.grow g2).grow g3).grow k34) hx (by omega) (fun x' w5 hq g5 => by rw [hd] at hq; cases hq) (fun _ w5 g5 => ?_)
      try simp -dsimp only [↓RE,↓c_seq,RU,RL,if_true,if_false,forall_const,implies_true,Nat.reduceLeDiff,Nat.reduceLT,pureOp,binPure,intBin,strBin,eqPure,isConstO,unPure,sliceLo,sliceHi,slicePure,lenPure,minPure,maxPure,buildP,resK,endV,yieldE,↓reduceIte,Nat.reduceEqDiff,reduceCtorEq,Nat.reduceAdd,Nat.reduceMul,Nat.reduceSub,Int.reduceLT,Int.reduceLE,Int.reduceToNat,Int.reduceAdd,Int.reduceSub,Int.reduceMul,ne_eq,decide_true,decide_false,tf3, he0, f1, f2]
      refine (hB4.grow g5).aggK (by simp [BadV.cells]) ?_
      try simp -dsimp only [↓RE,↓c_seq,RU,RL,if_true,if_false,forall_const,implies_true,Nat.reduceLeDiff,Nat.reduceLT,pureOp,binPure,intBin,strBin,eqPure,isConstO,unPure,sliceLo,sliceHi,slicePure,lenPure,minPure,maxPure,buildP,resK,endV,yieldE,↓reduceIte,Nat.reduceEqDiff,reduceCtorEq,Nat.reduceAdd,Nat.reduceMul,Nat.reduceSub,Int.reduceLT,Int.reduceLE,Int.reduceToNat,Int.reduceAdd,Int.reduceSub,Int.reduceMul,ne_eq,decide_true,decide_false,tf3, he0, f1, f2]
      refine same_err (x := none) (hL.grow (g4.trans g5)) (by intro z hz; cases hz) (fun w6 g6 => ?_)
      try simp -dsimp only [↓RE,↓c_seq,RU,RL,if_true,if_false,forall_const,implies_true,Nat.reduceLeDiff,Nat.reduceLT,pureOp,binPure,intBin,strBin,eqPure,isConstO,unPure,sliceLo,sliceHi,slicePure,lenPure,minPure,maxPure,buildP,resK,endV,yieldE,↓reduceIte,Nat.reduceEqDiff,reduceCtorEq,Nat.reduceAdd,Nat.reduceMul,Nat.reduceSub,Int.reduceLT,Int.reduceLE,Int.reduceToNat,Int.reduceAdd,Int.reduceSub,Int.reduceMul,ne_eq,decide_true,decide_false,tf3, he0, f1, f2]
      refine ((hB4.grow g5).grow g6).aggK (by simp [BadV.cells]) ?_
      try simp -dsimp only [↓RE,↓c_seq,RU,RL,if_true,if_false,forall_const,implies_true,Nat.reduceLeDiff,Nat.reduceLT,pureOp,binPure,intBin,strBin,eqPure,isConstO,unPure,sliceLo,sliceHi,slicePure,lenPure,minPure,maxPure,buildP,resK,endV,yieldE,↓reduceIte,Nat.reduceEqDiff,reduceCtorEq,Nat.reduceAdd,Nat.reduceMul,Nat.reduceSub,Int.reduceLT,Int.reduceLE,Int.reduceToNat,Int.reduceAdd,Int.reduceSub,Int.reduceMul,ne_eq,decide_true,decide_false,tf3, he0, f1, f2]
      refine same_err (x := none) (hL.grow ((g4.trans g5).trans g6)) (by intro z hz; cases hz) (fun w7 g7 => ?_)
      have g37 := ((k34.trans g5).trans g6).trans g7
      have hRl := Rd.of_own (own_grow (own_grow hO2 g3) g37)
      have hRm := hR3.grow g37
      try simp -dsimp only [↓RE,↓c_seq,RU,RL,if_true,if_false,forall_const,implies_true,Nat.reduceLeDiff,Nat.reduceLT,pureOp,binPure,intBin,strBin,eqPure,isConstO,unPure,sliceLo,sliceHi,slicePure,lenPure,minPure,maxPure,buildP,resK,endV,yieldE,↓reduceIte,Nat.reduceEqDiff,reduceCtorEq,Nat.reduceAdd,Nat.reduceMul,Nat.reduceSub,Int.reduceLT,Int.reduceLE,Int.reduceToNat,Int.reduceAdd,Int.reduceSub,Int.reduceMul,ne_eq,decide_true,decide_false,tf3, he0, f1, f2]
      refine sameSamples_ok hRl hRm (by omega) (by omega) (fun w8 g8 => ?_)
      have g48 := (g5.trans g6).trans (g7.trans g8)
      have hRm8 := hRm.grow g8
      have hcc := hcells w8 (g37.trans g8)
      have hca := hcc.1
      have hcb := hcc.2
      try simp -dsimp only [↓RE,↓c_seq,RU,RL,if_true,if_false,forall_const,implies_true,Nat.reduceLeDiff,Nat.reduceLT,pureOp,binPure,intBin,strBin,eqPure,isConstO,unPure,sliceLo,sliceHi,slicePure,lenPure,minPure,maxPure,buildP,resK,endV,yieldE,↓reduceIte,Nat.reduceEqDiff,reduceCtorEq,Nat.reduceAdd,Nat.reduceMul,Nat.reduceSub,Int.reduceLT,Int.reduceLE,Int.reduceToNat,Int.reduceAdd,Int.reduceSub,Int.reduceMul,ne_eq,decide_true,decide_false,tf3, he0, f1, f2, eq_self, d1, d2, undef, add_zero', hca, v1, Int.toNat_natCast, hcb]
      refine ⟨by omega, ⟨by omega, by omega⟩, ?_⟩
      refine live9_ok (fun w9 g9 => ?_)
      try simp -dsimp only [↓RE,↓c_seq,RU,RL,if_true,if_false,forall_const,implies_true,Nat.reduceLeDiff,Nat.reduceLT,pureOp,binPure,intBin,strBin,eqPure,isConstO,unPure,sliceLo,sliceHi,slicePure,lenPure,minPure,maxPure,buildP,resK,endV,yieldE,↓reduceIte,Nat.reduceEqDiff,reduceCtorEq,Nat.reduceAdd,Nat.reduceMul,Nat.reduceSub,Int.reduceLT,Int.reduceLE,Int.reduceToNat,Int.reduceAdd,Int.reduceSub,Int.reduceMul,ne_eq,decide_true,decide_false,tf3, he0]
      have gg := (g4.trans g48).trans g9
      refine kept_ok (hB1.grow ((((g2.trans g3).trans k34).trans g48).trans g9)) (hR.grow gg) (by omega) (fun w10 g10 => ?_)
      try simp -dsimp only [↓RE,↓c_seq,RU,RL,if_true,if_false,forall_const,implies_true,Nat.reduceLeDiff,Nat.reduceLT,pureOp,binPure,intBin,strBin,eqPure,isConstO,unPure,sliceLo,sliceHi,slicePure,lenPure,minPure,maxPure,buildP,resK,endV,yieldE,↓reduceIte,Nat.reduceEqDiff,reduceCtorEq,Nat.reduceAdd,Nat.reduceMul,Nat.reduceSub,Int.reduceLT,Int.reduceLE,Int.reduceToNat,Int.reduceAdd,Int.reduceSub,Int.reduceMul,ne_eq,decide_true,decide_false,tf3, he0]
      exact h w10 (gg.trans g10)

end Go.Proofs.YtmgiichlccdcfaaGreatDoor
