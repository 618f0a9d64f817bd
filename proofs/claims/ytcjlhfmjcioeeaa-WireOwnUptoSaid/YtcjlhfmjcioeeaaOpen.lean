/- wire.Open, walked. -/
import Derived.Test.YtcjlhfmjcioeeaaFrame
set_option linter.unusedVariables false
set_option linter.unusedSimpArgs false
set_option maxRecDepth 100000
namespace Go.Proofs.Ytcjlhfmjcioeeaa
open Go

def oN (xs : List Int) : Nat := (beNat ((xs.drop 1).take 4)).toNat
def oNum (xs : List Int) : Int := beNat ((xs.drop 5).take 4) * 4294967296 + beNat ((xs.drop 9).take 4)
def oErr (xs : List Int) : Option Int :=
  if xs.length < 17 then some 30
  else if beNat ((xs.drop 13).take 4) ≠ (crcOf (xs.take 13) : Nat) then some 32
  else if 67108864 < oN xs then some 6
  else if xs.length < 21 + oN xs then some 30
  else if beNat ((xs.drop (17 + oN xs)).take 4) ≠ (crcOf (xs.take (17 + oN xs)) : Nat) then some 32
  else none

theorem open1_ok {w : World} {e : Int} (he : e ≠ 0) {R : VWK} (h : R (.tuple #[.int .u8 0, .int .u64 0, .slice none 0 0, .int .i64 0, .iface 105 (.int .i64 e)]) w) :
    CallsV Try.prog 47 [.int .i64 e] w R := by
  refine calls_of_wpC mixed Try.func47 rfl (by kernel_rfl) ?_
  intro e he
  have he0 := he 0
  simp only [List.getD_cons_zero, List.getD_cons_succ] at he0
  clear he
  simp only [↓RD,↓c_seq,RU,RL,if_true,if_false,forall_const,implies_true,Nat.reduceLeDiff,Nat.reduceLT,pureOp,binPure,intBin,strBin,eqPure,isConstO,unPure,sliceLo,sliceHi,slicePure,lenPure,minPure,maxPure,buildP,resK,endV,yieldE,↓reduceIte,Nat.reduceEqDiff,reduceCtorEq,Nat.reduceAdd,Nat.reduceMul,Nat.reduceSub,Int.reduceLT,Int.reduceLE,Int.reduceToNat,Int.reduceAdd,Int.reduceSub,Int.reduceMul,ne_eq,decide_true,decide_false,tf47, he0]
  refine fnew_ok he ?_
  simp only [↓RD,↓c_seq,RU,RL,if_true,if_false,forall_const,implies_true,Nat.reduceLeDiff,Nat.reduceLT,pureOp,binPure,intBin,strBin,eqPure,isConstO,unPure,sliceLo,sliceHi,slicePure,lenPure,minPure,maxPure,buildP,resK,endV,yieldE,↓reduceIte,Nat.reduceEqDiff,reduceCtorEq,Nat.reduceAdd,Nat.reduceMul,Nat.reduceSub,Int.reduceLT,Int.reduceLE,Int.reduceToNat,Int.reduceAdd,Int.reduceSub,Int.reduceMul,ne_eq,decide_true,decide_false,tf47, he0]
  exact h

theorem take_take_drop {xs : List Int} {a b n : Nat} (h : a + b ≤ n) : ((xs.take n).drop a).take b = (xs.drop a).take b := by
  rw [List.drop_take, List.take_take, Nat.min_eq_left (by omega)]

theorem open_ok {w : World} {A : Option Addr} {n c : Nat} {xs : List Int} (hR : Rd w A n 1 (xs.map (Value.int .u8))) (hc : n ≤ c) (hx : ∀ z ∈ xs, 0 ≤ z ∧ z < 256) (hn : n ≤ 140737488355328) {R : VWK}
    (herr : ∀ e w', oErr xs = some e → Grow w w' → R (.tuple #[.int .u8 0, .int .u64 0, .slice none 0 0, .int .i64 0, .iface 105 (.int .i64 e)]) w')
    (h : oErr xs = none → ∀ w' A' c', w'.ownsRow 0 5 1 (.slice A' (oN xs) c') (oN xs) (((xs.drop 17).take (oN xs)).map (Value.int .u8)) → Grow w w' → (∀ k, fpA A' k → w.heap.size ≤ k) →
      R (.tuple #[.int .u8 (xs.getD 0 0), .int .u64 (oNum xs), .slice A' (oN xs) c', .int .i64 (21 + oN xs : Nat), .nilIface]) w') :
    CallsV Try.prog 17 [.slice A n c] w R := by
  have hl := hR.len1
  unfold oErr at herr h
  refine calls_of_wpC mixed Try.func17 rfl (by kernel_rfl) ?_
  intro e he
  have he0 := he 0
  simp only [List.getD_cons_zero, List.getD_cons_succ] at he0
  clear he
  simp only [↓RD,↓c_seq,RU,RL,if_true,if_false,forall_const,implies_true,Nat.reduceLeDiff,Nat.reduceLT,pureOp,binPure,intBin,strBin,eqPure,isConstO,unPure,sliceLo,sliceHi,slicePure,lenPure,minPure,maxPure,buildP,resK,endV,yieldE,↓reduceIte,Nat.reduceEqDiff,reduceCtorEq,Nat.reduceAdd,Nat.reduceMul,Nat.reduceSub,Int.reduceLT,Int.reduceLE,Int.reduceToNat,Int.reduceAdd,Int.reduceSub,Int.reduceMul,ne_eq,decide_true,decide_false,tf17, he0]
  refine ⟨fun hlt => ?_, fun hge => ?_⟩
  · try simp only [↓RD,↓c_seq,RU,RL,if_true,if_false,forall_const,implies_true,Nat.reduceLeDiff,Nat.reduceLT,pureOp,binPure,intBin,strBin,eqPure,isConstO,unPure,sliceLo,sliceHi,slicePure,lenPure,minPure,maxPure,buildP,resK,endV,yieldE,↓reduceIte,Nat.reduceEqDiff,reduceCtorEq,Nat.reduceAdd,Nat.reduceMul,Nat.reduceSub,Int.reduceLT,Int.reduceLE,Int.reduceToNat,Int.reduceAdd,Int.reduceSub,Int.reduceMul,ne_eq,decide_true,decide_false,tf17, he0]
    rw [callK_func tb_callable_47]
    refine open1_ok (by decide) ?_
    simp only [↓RD,↓c_seq,RU,RL,if_true,if_false,forall_const,implies_true,Nat.reduceLeDiff,Nat.reduceLT,pureOp,binPure,intBin,strBin,eqPure,isConstO,unPure,sliceLo,sliceHi,slicePure,lenPure,minPure,maxPure,buildP,resK,endV,yieldE,↓reduceIte,Nat.reduceEqDiff,reduceCtorEq,Nat.reduceAdd,Nat.reduceMul,Nat.reduceSub,Int.reduceLT,Int.reduceLE,Int.reduceToNat,Int.reduceAdd,Int.reduceSub,Int.reduceMul,ne_eq,decide_true,decide_false,tf17, he0]
    exact herr 30 w (by rw [if_pos (by omega)]) (Keep.refl _ _)
  have h17 : 17 ≤ n := by omega
  rw [if_neg (by omega)] at herr h
  try simp only [↓RD,↓c_seq,RU,RL,if_true,if_false,forall_const,implies_true,Nat.reduceLeDiff,Nat.reduceLT,pureOp,binPure,intBin,strBin,eqPure,isConstO,unPure,sliceLo,sliceHi,slicePure,lenPure,minPure,maxPure,buildP,resK,endV,yieldE,↓reduceIte,Nat.reduceEqDiff,reduceCtorEq,Nat.reduceAdd,Nat.reduceMul,Nat.reduceSub,Int.reduceLT,Int.reduceLE,Int.reduceToNat,Int.reduceAdd,Int.reduceSub,Int.reduceMul,ne_eq,decide_true,decide_false,tf17, he0]
  refine ⟨by omega, ?_⟩
  try simp only [↓RD,↓c_seq,RU,RL,if_true,if_false,forall_const,implies_true,Nat.reduceLeDiff,Nat.reduceLT,pureOp,binPure,intBin,strBin,eqPure,isConstO,unPure,sliceLo,sliceHi,slicePure,lenPure,minPure,maxPure,buildP,resK,endV,yieldE,↓reduceIte,Nat.reduceEqDiff,reduceCtorEq,Nat.reduceAdd,Nat.reduceMul,Nat.reduceSub,Int.reduceLT,Int.reduceLE,Int.reduceToNat,Int.reduceAdd,Int.reduceSub,Int.reduceMul,ne_eq,decide_true,decide_false,tf17, he0]
  have hcut := hR.cut (k := 0) (m := 17) (cap := c) (by omega) h17 hc
  simp only [Nat.zero_mul, List.drop_zero, Nat.sub_zero, Nat.mul_one, ← List.map_take] at hcut
  refine newReader_ok hcut (by omega) (fun w1 F p hR1 g1 hF => ?_)
  have l17 : (xs.take 17).length = 17 := by rw [List.length_take]; omega
  have b17 : ∀ z ∈ xs.take 17, 0 ≤ z ∧ z < 256 := fun z hz => hx z (List.mem_of_mem_take hz)
  have okk : ∀ k, k ≤ 17 → RSok ⟨xs.take 17, k, 0, none⟩ := fun k hk => ⟨by simp only; omega, by simp, by simp, by simp only; omega, b17⟩
  have tk : ∀ k m, k + m ≤ 17 → rTake m ⟨xs.take 17, k, 0, none⟩ = (⟨xs.take 17, k + m, 0, none⟩, (xs.drop k).take m) := fun k m hk => by
    rw [rTake_ok rfl rfl (by simp only; omega)]
    simp only [take_take_drop hk]
  have b4 : ∀ k, 0 ≤ beNat ((xs.drop k).take 4) ∧ beNat ((xs.drop k).take 4) < 4294967296 := fun k => by
    have h1 := beNat_range 4 ((xs.drop k).take 4) (fun z hz => hx z (List.mem_of_mem_drop (List.mem_of_mem_take hz))) (by rw [List.length_take]; omega)
    have h2 : ((xs.drop k).take 4).length = 0 ∨ ((xs.drop k).take 4).length = 1 ∨ ((xs.drop k).take 4).length = 2 ∨ ((xs.drop k).take 4).length = 3 ∨ ((xs.drop k).take 4).length = 4 := by
      have : ((xs.drop k).take 4).length ≤ 4 := by rw [List.length_take]; omega
      omega
    rcases h2 with h2 | h2 | h2 | h2 | h2 <;> rw [h2] at h1 <;> omega
  simp only [↓RD,↓c_seq,RU,RL,if_true,if_false,forall_const,implies_true,Nat.reduceLeDiff,Nat.reduceLT,pureOp,binPure,intBin,strBin,eqPure,isConstO,unPure,sliceLo,sliceHi,slicePure,lenPure,minPure,maxPure,buildP,resK,endV,yieldE,↓reduceIte,Nat.reduceEqDiff,reduceCtorEq,Nat.reduceAdd,Nat.reduceMul,Nat.reduceSub,Int.reduceLT,Int.reduceLE,Int.reduceToNat,Int.reduceAdd,Int.reduceSub,Int.reduceMul,ne_eq,decide_true,decide_false,tf17, he0]
  refine byteR_ok hR1 (okk 0 (by omega)) (fun w2 hR2 k2 => ?_)
  rw [tk 0 1 (by omega)] at hR2 ⊢
  simp only [Nat.zero_add] at hR2
  simp only [↓RD,↓c_seq,RU,RL,if_true,if_false,forall_const,implies_true,Nat.reduceLeDiff,Nat.reduceLT,pureOp,binPure,intBin,strBin,eqPure,isConstO,unPure,sliceLo,sliceHi,slicePure,lenPure,minPure,maxPure,buildP,resK,endV,yieldE,↓reduceIte,Nat.reduceEqDiff,reduceCtorEq,Nat.reduceAdd,Nat.reduceMul,Nat.reduceSub,Int.reduceLT,Int.reduceLE,Int.reduceToNat,Int.reduceAdd,Int.reduceSub,Int.reduceMul,ne_eq,decide_true,decide_false,tf17, he0]
  refine fix32R_ok hR2 (okk 1 (by omega)) (fun w3 hR3 k3 => ?_)
  rw [tk 1 4 (by omega)] at hR3 ⊢
  simp only [Nat.reduceAdd] at hR3
  simp only [↓RD,↓c_seq,RU,RL,if_true,if_false,forall_const,implies_true,Nat.reduceLeDiff,Nat.reduceLT,pureOp,binPure,intBin,strBin,eqPure,isConstO,unPure,sliceLo,sliceHi,slicePure,lenPure,minPure,maxPure,buildP,resK,endV,yieldE,↓reduceIte,Nat.reduceEqDiff,reduceCtorEq,Nat.reduceAdd,Nat.reduceMul,Nat.reduceSub,Int.reduceLT,Int.reduceLE,Int.reduceToNat,Int.reduceAdd,Int.reduceSub,Int.reduceMul,ne_eq,decide_true,decide_false,tf17, he0]
  refine fix32R_ok hR3 (okk 5 (by omega)) (fun w4 hR4 k4 => ?_)
  rw [tk 5 4 (by omega)] at hR4 ⊢
  simp only [Nat.reduceAdd] at hR4
  have b5 := b4 5
  have b9 := b4 9
  have b1 := b4 1
  have hnum : bitsOp .or .u64 (beNat ((xs.drop 5).take 4) % 18446744073709551616 * 4294967296 % 18446744073709551616) (beNat ((xs.drop 9).take 4) % 18446744073709551616) = oNum xs := by
    unfold oNum
    rw [or_join_u64 32 (by omega) (by omega) (by omega) (by omega) (by omega) (by omega)]; omega
  have hoN : IntKind.i64.wrap (beNat ((xs.drop 1).take 4)) = (oN xs : Nat) := by
    unfold oN
    rw [wrap_i64_in (by omega) (by omega)]; omega
  have hoNr : oN xs < 4294967296 := by unfold oN; omega
  simp only [↓RD,↓c_seq,RU,RL,if_true,if_false,forall_const,implies_true,Nat.reduceLeDiff,Nat.reduceLT,pureOp,binPure,intBin,strBin,eqPure,isConstO,unPure,sliceLo,sliceHi,slicePure,lenPure,minPure,maxPure,buildP,resK,endV,yieldE,↓reduceIte,Nat.reduceEqDiff,reduceCtorEq,Nat.reduceAdd,Nat.reduceMul,Nat.reduceSub,Int.reduceLT,Int.reduceLE,Int.reduceToNat,Int.reduceAdd,Int.reduceSub,Int.reduceMul,ne_eq,decide_true,decide_false,tf17, he0, wrap_u64, shl_u64_32]
  refine fix32R_ok hR4 (okk 9 (by omega)) (fun w5 hR5 k5 => ?_)
  rw [tk 9 4 (by omega)] at hR5 ⊢
  simp only [Nat.reduceAdd] at hR5
  simp only [↓RD,↓c_seq,RU,RL,if_true,if_false,forall_const,implies_true,Nat.reduceLeDiff,Nat.reduceLT,pureOp,binPure,intBin,strBin,eqPure,isConstO,unPure,sliceLo,sliceHi,slicePure,lenPure,minPure,maxPure,buildP,resK,endV,yieldE,↓reduceIte,Nat.reduceEqDiff,reduceCtorEq,Nat.reduceAdd,Nat.reduceMul,Nat.reduceSub,Int.reduceLT,Int.reduceLE,Int.reduceToNat,Int.reduceAdd,Int.reduceSub,Int.reduceMul,ne_eq,decide_true,decide_false,tf17, he0, wrap_u64, shl_u64_32, hnum, hoN]
  refine wpDraw_by (fun _ => True) [(0, true), (2, true), (3, true), (1, false), (4, false), (5, true), (6, true)] (by kernel_rfl) trivial ?_
  simp only [planL, List.getElem?_toArray, List.getElem?_cons_zero, List.getElem?_cons_succ, Option.toList_some, List.map_cons, List.map_nil, List.cons_append, List.nil_append]
  simp only [↓RD,↓c_seq,RU,RL,if_true,if_false,forall_const,implies_true,Nat.reduceLeDiff,Nat.reduceLT,pureOp,binPure,intBin,strBin,eqPure,isConstO,unPure,sliceLo,sliceHi,slicePure,lenPure,minPure,maxPure,buildP,resK,endV,yieldE,↓reduceIte,Nat.reduceEqDiff,reduceCtorEq,Nat.reduceAdd,Nat.reduceMul,Nat.reduceSub,Int.reduceLT,Int.reduceLE,Int.reduceToNat,Int.reduceAdd,Int.reduceSub,Int.reduceMul,ne_eq,decide_true,decide_false,tf17, he0]
  have hp : w.heap.size ≤ p := hF p hR1.at
  have hne : ∀ i, i < w.heap.size → i = p → False := fun i hi e => by omega
  have g5 : Grow w w5 := (((g1.above k2 hne).above k3 hne).above k4 hne).above k5 hne
  refine ⟨by omega, fix32R_ok (hR5.grow (Grow.drew w5)) (okk 13 (by omega)) (fun w6 hR6 k6 => ?_)⟩
  rw [tk 13 4 (by omega)] at hR6 ⊢
  have g6 : Grow w w6 := (g5.trans (Grow.drew w5)).above k6 hne
  simp only [↓RD,↓c_seq,RU,RL,if_true,if_false,forall_const,implies_true,Nat.reduceLeDiff,Nat.reduceLT,pureOp,binPure,intBin,strBin,eqPure,isConstO,unPure,sliceLo,sliceHi,slicePure,lenPure,minPure,maxPure,buildP,resK,endV,yieldE,↓reduceIte,Nat.reduceEqDiff,reduceCtorEq,Nat.reduceAdd,Nat.reduceMul,Nat.reduceSub,Int.reduceLT,Int.reduceLE,Int.reduceToNat,Int.reduceAdd,Int.reduceSub,Int.reduceMul,ne_eq,decide_true,decide_false,tf17, he0, hoN]
  have hcut13 := (hR.grow g6).cut (k := 0) (m := 13) (cap := c) (by omega) (by omega) hc
  simp only [Nat.zero_mul, List.drop_zero, Nat.sub_zero, Nat.mul_one, ← List.map_take] at hcut13
  refine crc_ok hcut13 (fun z hz => hx z (List.mem_of_mem_take hz)) (by omega) (fun w7 g7 => ?_)
  have g7' := g6.trans g7
  simp only [↓RD,↓c_seq,RU,RL,if_true,if_false,forall_const,implies_true,Nat.reduceLeDiff,Nat.reduceLT,pureOp,binPure,intBin,strBin,eqPure,isConstO,unPure,sliceLo,sliceHi,slicePure,lenPure,minPure,maxPure,buildP,resK,endV,yieldE,↓reduceIte,Nat.reduceEqDiff,reduceCtorEq,Nat.reduceAdd,Nat.reduceMul,Nat.reduceSub,Int.reduceLT,Int.reduceLE,Int.reduceToNat,Int.reduceAdd,Int.reduceSub,Int.reduceMul,ne_eq,decide_true,decide_false,tf17, he0, hoN]
  refine ⟨fun hne1 => ?_, fun heq1 => ?_⟩
  · try simp only [↓RD,↓c_seq,RU,RL,if_true,if_false,forall_const,implies_true,Nat.reduceLeDiff,Nat.reduceLT,pureOp,binPure,intBin,strBin,eqPure,isConstO,unPure,sliceLo,sliceHi,slicePure,lenPure,minPure,maxPure,buildP,resK,endV,yieldE,↓reduceIte,Nat.reduceEqDiff,reduceCtorEq,Nat.reduceAdd,Nat.reduceMul,Nat.reduceSub,Int.reduceLT,Int.reduceLE,Int.reduceToNat,Int.reduceAdd,Int.reduceSub,Int.reduceMul,ne_eq,decide_true,decide_false,tf17, he0, hoN]
    rw [callK_func tb_callable_47]
    refine open1_ok (by decide) ?_
    simp only [↓RD,↓c_seq,RU,RL,if_true,if_false,forall_const,implies_true,Nat.reduceLeDiff,Nat.reduceLT,pureOp,binPure,intBin,strBin,eqPure,isConstO,unPure,sliceLo,sliceHi,slicePure,lenPure,minPure,maxPure,buildP,resK,endV,yieldE,↓reduceIte,Nat.reduceEqDiff,reduceCtorEq,Nat.reduceAdd,Nat.reduceMul,Nat.reduceSub,Int.reduceLT,Int.reduceLE,Int.reduceToNat,Int.reduceAdd,Int.reduceSub,Int.reduceMul,ne_eq,decide_true,decide_false,tf17, he0, hoN]
    exact herr 32 w7 (by rw [if_pos hne1]) g7'
  rw [if_neg (by simpa using heq1)] at herr h
  try simp only [↓RD,↓c_seq,RU,RL,if_true,if_false,forall_const,implies_true,Nat.reduceLeDiff,Nat.reduceLT,pureOp,binPure,intBin,strBin,eqPure,isConstO,unPure,sliceLo,sliceHi,slicePure,lenPure,minPure,maxPure,buildP,resK,endV,yieldE,↓reduceIte,Nat.reduceEqDiff,reduceCtorEq,Nat.reduceAdd,Nat.reduceMul,Nat.reduceSub,Int.reduceLT,Int.reduceLE,Int.reduceToNat,Int.reduceAdd,Int.reduceSub,Int.reduceMul,ne_eq,decide_true,decide_false,tf17, he0, hoN]
  refine ⟨fun hgt => ?_, fun hle => ?_⟩
  · try simp only [↓RD,↓c_seq,RU,RL,if_true,if_false,forall_const,implies_true,Nat.reduceLeDiff,Nat.reduceLT,pureOp,binPure,intBin,strBin,eqPure,isConstO,unPure,sliceLo,sliceHi,slicePure,lenPure,minPure,maxPure,buildP,resK,endV,yieldE,↓reduceIte,Nat.reduceEqDiff,reduceCtorEq,Nat.reduceAdd,Nat.reduceMul,Nat.reduceSub,Int.reduceLT,Int.reduceLE,Int.reduceToNat,Int.reduceAdd,Int.reduceSub,Int.reduceMul,ne_eq,decide_true,decide_false,tf17, he0, hoN]
    rw [callK_func tb_callable_47]
    refine open1_ok (by decide) ?_
    simp only [↓RD,↓c_seq,RU,RL,if_true,if_false,forall_const,implies_true,Nat.reduceLeDiff,Nat.reduceLT,pureOp,binPure,intBin,strBin,eqPure,isConstO,unPure,sliceLo,sliceHi,slicePure,lenPure,minPure,maxPure,buildP,resK,endV,yieldE,↓reduceIte,Nat.reduceEqDiff,reduceCtorEq,Nat.reduceAdd,Nat.reduceMul,Nat.reduceSub,Int.reduceLT,Int.reduceLE,Int.reduceToNat,Int.reduceAdd,Int.reduceSub,Int.reduceMul,ne_eq,decide_true,decide_false,tf17, he0, hoN]
    exact herr 6 w7 (by rw [if_pos (by omega)]) g7'
  have hN : oN xs ≤ 67108864 := by omega
  rw [if_neg (by omega)] at herr h
  have hw1 : IntKind.i64.wrap (17 + ((oN xs : Nat) : Int)) = ((17 + oN xs : Nat) : Int) := by rw [wrap_i64_in (by omega) (by omega)]; omega
  have hw2 : IntKind.i64.wrap (((17 + oN xs : Nat) : Int) + 4) = ((21 + oN xs : Nat) : Int) := by rw [wrap_i64_in (by omega) (by omega)]; omega
  try simp only [↓RD,↓c_seq,RU,RL,if_true,if_false,forall_const,implies_true,Nat.reduceLeDiff,Nat.reduceLT,pureOp,binPure,intBin,strBin,eqPure,isConstO,unPure,sliceLo,sliceHi,slicePure,lenPure,minPure,maxPure,buildP,resK,endV,yieldE,↓reduceIte,Nat.reduceEqDiff,reduceCtorEq,Nat.reduceAdd,Nat.reduceMul,Nat.reduceSub,Int.reduceLT,Int.reduceLE,Int.reduceToNat,Int.reduceAdd,Int.reduceSub,Int.reduceMul,ne_eq,decide_true,decide_false,tf17, he0, hoN, hw1, hw2]
  refine ⟨fun hlt => ?_, fun hge => ?_⟩
  · try simp only [↓RD,↓c_seq,RU,RL,if_true,if_false,forall_const,implies_true,Nat.reduceLeDiff,Nat.reduceLT,pureOp,binPure,intBin,strBin,eqPure,isConstO,unPure,sliceLo,sliceHi,slicePure,lenPure,minPure,maxPure,buildP,resK,endV,yieldE,↓reduceIte,Nat.reduceEqDiff,reduceCtorEq,Nat.reduceAdd,Nat.reduceMul,Nat.reduceSub,Int.reduceLT,Int.reduceLE,Int.reduceToNat,Int.reduceAdd,Int.reduceSub,Int.reduceMul,ne_eq,decide_true,decide_false,tf17, he0, hoN]
    rw [callK_func tb_callable_47]
    refine open1_ok (by decide) ?_
    simp only [↓RD,↓c_seq,RU,RL,if_true,if_false,forall_const,implies_true,Nat.reduceLeDiff,Nat.reduceLT,pureOp,binPure,intBin,strBin,eqPure,isConstO,unPure,sliceLo,sliceHi,slicePure,lenPure,minPure,maxPure,buildP,resK,endV,yieldE,↓reduceIte,Nat.reduceEqDiff,reduceCtorEq,Nat.reduceAdd,Nat.reduceMul,Nat.reduceSub,Int.reduceLT,Int.reduceLE,Int.reduceToNat,Int.reduceAdd,Int.reduceSub,Int.reduceMul,ne_eq,decide_true,decide_false,tf17, he0, hoN]
    exact herr 30 w7 (by rw [if_pos (by omega)]) g7'
  have hlen : 21 + oN xs ≤ n := by omega
  rw [if_neg (by omega)] at herr h
  try simp only [↓RD,↓c_seq,RU,RL,if_true,if_false,forall_const,implies_true,Nat.reduceLeDiff,Nat.reduceLT,pureOp,binPure,intBin,strBin,eqPure,isConstO,unPure,sliceLo,sliceHi,slicePure,lenPure,minPure,maxPure,buildP,resK,endV,yieldE,↓reduceIte,Nat.reduceEqDiff,reduceCtorEq,Nat.reduceAdd,Nat.reduceMul,Nat.reduceSub,Int.reduceLT,Int.reduceLE,Int.reduceToNat,Int.reduceAdd,Int.reduceSub,Int.reduceMul,ne_eq,decide_true,decide_false,tf17, he0, hoN, hw1, hw2]
  refine wpDraw_by (fun _ => True) [(0, true), (1, true), (2, true), (3, true), (4, true), (7, true), (8, true), (9, true), (5, false), (6, false), (10, false), (11, true)] (by kernel_rfl) trivial ?_
  simp only [planL, List.getElem?_toArray, List.getElem?_cons_zero, List.getElem?_cons_succ, Option.toList_some, List.map_cons, List.map_nil, List.cons_append, List.nil_append]
  simp only [↓RD,↓c_seq,RU,RL,if_true,if_false,forall_const,implies_true,Nat.reduceLeDiff,Nat.reduceLT,pureOp,binPure,intBin,strBin,eqPure,isConstO,unPure,sliceLo,sliceHi,slicePure,lenPure,minPure,maxPure,buildP,resK,endV,yieldE,↓reduceIte,Nat.reduceEqDiff,reduceCtorEq,Nat.reduceAdd,Nat.reduceMul,Nat.reduceSub,Int.reduceLT,Int.reduceLE,Int.reduceToNat,Int.reduceAdd,Int.reduceSub,Int.reduceMul,ne_eq,decide_true,decide_false,tf17, he0, hoN, hw1, hw2]
  have hcutE := ((hR.grow g7').grow (Grow.drew w7)).cut (k := 17 + oN xs) (m := 21 + oN xs) (cap := c) (by omega) (by omega) hc
  have e4 : 21 + oN xs - (17 + oN xs) = 4 := by omega
  simp only [Nat.mul_one, e4, ← List.map_drop, ← List.map_take] at hcutE
  rw [e4]
  refine ⟨⟨by omega, by omega, by omega⟩, ⟨by omega, by omega⟩, newReader_ok hcutE (by omega) (fun w8 F8 p8 hR8 g8 hF8 => ?_)⟩
  simp only [↓RD,↓c_seq,RU,RL,if_true,if_false,forall_const,implies_true,Nat.reduceLeDiff,Nat.reduceLT,pureOp,binPure,intBin,strBin,eqPure,isConstO,unPure,sliceLo,sliceHi,slicePure,lenPure,minPure,maxPure,buildP,resK,endV,yieldE,↓reduceIte,Nat.reduceEqDiff,reduceCtorEq,Nat.reduceAdd,Nat.reduceMul,Nat.reduceSub,Int.reduceLT,Int.reduceLE,Int.reduceToNat,Int.reduceAdd,Int.reduceSub,Int.reduceMul,ne_eq,decide_true,decide_false,tf17, he0, hoN]
  have g8' := (g7'.trans (Grow.drew w7)).trans g8
  have lE : ((xs.drop (17 + oN xs)).take 4).length = 4 := by rw [List.length_take, List.length_drop]; omega
  have okE : RSok ⟨(xs.drop (17 + oN xs)).take 4, 0, 0, none⟩ := ⟨by simp, by simp, by simp, by simp only; omega, fun z hz => hx z (List.mem_of_mem_drop (List.mem_of_mem_take hz))⟩
  have hp8 : w.heap.size ≤ p8 := Nat.le_trans (g7'.trans (Grow.drew w7)).size (hF8 p8 hR8.at)
  refine fix32R_ok hR8 okE (fun w9 hR9 k9 => ?_)
  have g9 : Grow w w9 := g8'.above k9 (fun i hi e => by omega)
  rw [rTake_ok rfl rfl (by simp only; omega)] at hR9 ⊢
  simp only [List.drop_zero] at hR9 ⊢
  rw [List.take_of_length_le (by omega : ((xs.drop (17 + oN xs)).take 4).length ≤ 4)]
  simp only [↓RD,↓c_seq,RU,RL,if_true,if_false,forall_const,implies_true,Nat.reduceLeDiff,Nat.reduceLT,pureOp,binPure,intBin,strBin,eqPure,isConstO,unPure,sliceLo,sliceHi,slicePure,lenPure,minPure,maxPure,buildP,resK,endV,yieldE,↓reduceIte,Nat.reduceEqDiff,reduceCtorEq,Nat.reduceAdd,Nat.reduceMul,Nat.reduceSub,Int.reduceLT,Int.reduceLE,Int.reduceToNat,Int.reduceAdd,Int.reduceSub,Int.reduceMul,ne_eq,decide_true,decide_false,tf17, he0, hoN]
  have hcutB := (hR.grow g9).cut (k := 0) (m := 17 + oN xs) (cap := c) (by omega) (by omega) hc
  simp only [Nat.zero_mul, List.drop_zero, Nat.sub_zero, Nat.mul_one, ← List.map_take] at hcutB
  refine crc_ok hcutB (fun z hz => hx z (List.mem_of_mem_take hz)) (by omega) (fun w10 g10 => ?_)
  have g10' := g9.trans g10
  simp only [↓RD,↓c_seq,RU,RL,if_true,if_false,forall_const,implies_true,Nat.reduceLeDiff,Nat.reduceLT,pureOp,binPure,intBin,strBin,eqPure,isConstO,unPure,sliceLo,sliceHi,slicePure,lenPure,minPure,maxPure,buildP,resK,endV,yieldE,↓reduceIte,Nat.reduceEqDiff,reduceCtorEq,Nat.reduceAdd,Nat.reduceMul,Nat.reduceSub,Int.reduceLT,Int.reduceLE,Int.reduceToNat,Int.reduceAdd,Int.reduceSub,Int.reduceMul,ne_eq,decide_true,decide_false,tf17, he0, hoN]
  refine ⟨fun hne1 => ?_, fun heq1 => ?_⟩
  · try simp only [↓RD,↓c_seq,RU,RL,if_true,if_false,forall_const,implies_true,Nat.reduceLeDiff,Nat.reduceLT,pureOp,binPure,intBin,strBin,eqPure,isConstO,unPure,sliceLo,sliceHi,slicePure,lenPure,minPure,maxPure,buildP,resK,endV,yieldE,↓reduceIte,Nat.reduceEqDiff,reduceCtorEq,Nat.reduceAdd,Nat.reduceMul,Nat.reduceSub,Int.reduceLT,Int.reduceLE,Int.reduceToNat,Int.reduceAdd,Int.reduceSub,Int.reduceMul,ne_eq,decide_true,decide_false,tf17, he0, hoN]
    rw [callK_func tb_callable_47]
    refine open1_ok (by decide) ?_
    simp only [↓RD,↓c_seq,RU,RL,if_true,if_false,forall_const,implies_true,Nat.reduceLeDiff,Nat.reduceLT,pureOp,binPure,intBin,strBin,eqPure,isConstO,unPure,sliceLo,sliceHi,slicePure,lenPure,minPure,maxPure,buildP,resK,endV,yieldE,↓reduceIte,Nat.reduceEqDiff,reduceCtorEq,Nat.reduceAdd,Nat.reduceMul,Nat.reduceSub,Int.reduceLT,Int.reduceLE,Int.reduceToNat,Int.reduceAdd,Int.reduceSub,Int.reduceMul,ne_eq,decide_true,decide_false,tf17, he0, hoN]
    exact herr 32 w10 (by rw [if_pos hne1]) g10'
  rw [if_neg (by simpa using heq1)] at herr h
  try simp only [↓RD,↓c_seq,RU,RL,if_true,if_false,forall_const,implies_true,Nat.reduceLeDiff,Nat.reduceLT,pureOp,binPure,intBin,strBin,eqPure,isConstO,unPure,sliceLo,sliceHi,slicePure,lenPure,minPure,maxPure,buildP,resK,endV,yieldE,↓reduceIte,Nat.reduceEqDiff,reduceCtorEq,Nat.reduceAdd,Nat.reduceMul,Nat.reduceSub,Int.reduceLT,Int.reduceLE,Int.reduceToNat,Int.reduceAdd,Int.reduceSub,Int.reduceMul,ne_eq,decide_true,decide_false,tf17, he0, hoN, hw1, hw2]
  have hcutP := (hR.grow g10').cut (k := 17) (m := 17 + oN xs) (cap := c) (by omega) (by omega) hc
  have eN : 17 + oN xs - 17 = oN xs := by omega
  simp only [Nat.mul_one, eN, ← List.map_drop, ← List.map_take] at hcutP
  refine ⟨⟨by omega, by omega⟩, ?_⟩
  rw [eN]
  refine clone_ok hcutP (by omega) (fun w11 A11 c11 hO11 g11 hF11 => ?_)
  simp only [↓RD,↓c_seq,RU,RL,if_true,if_false,forall_const,implies_true,Nat.reduceLeDiff,Nat.reduceLT,pureOp,binPure,intBin,strBin,eqPure,isConstO,unPure,sliceLo,sliceHi,slicePure,lenPure,minPure,maxPure,buildP,resK,endV,yieldE,↓reduceIte,Nat.reduceEqDiff,reduceCtorEq,Nat.reduceAdd,Nat.reduceMul,Nat.reduceSub,Int.reduceLT,Int.reduceLE,Int.reduceToNat,Int.reduceAdd,Int.reduceSub,Int.reduceMul,ne_eq,decide_true,decide_false,tf17, he0, hoN, hw1, hw2]
  have h := h rfl w11 A11 c11 hO11 (g10'.trans g11) (fun k hk => Nat.le_trans g10'.size (hF11 k hk))
  rw [show (xs.take 1).getD 0 0 = xs.getD 0 0 by cases xs <;> rfl]
  exact h

end Go.Proofs.Ytcjlhfmjcioeeaa
