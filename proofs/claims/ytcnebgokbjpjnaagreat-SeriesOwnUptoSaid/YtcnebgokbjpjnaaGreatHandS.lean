/- weirmem.SameSamples, HandSamples, KeptSamples. -/
import Derived.Test.YtcnebgokbjpjnaaGreatSmpSpec
import Derived.Test.YtcnebgokbjpjnaaGreatTab
import Derived.Test.YtcnebgokbjpjnaaGreatSerSpec
import Derived.Test.YtcnebgokbjpjnaaGreatSer
import Derived.Laws.MakeOwn
import Derived.Laws.OwnMore
set_option linter.unusedVariables false
set_option linter.unusedSimpArgs false
set_option maxRecDepth 100000
namespace Go.Proofs.YtcnebgokbjpjnaaGreat
open Go

theorem msameSamples_ok {w : World} {A B : Option Addr} {n m c d : Nat} {xs ys : List (Int × Int × Int)} (hA : Rd w A n 3 (xs.flatMap scells)) (hB : Rd w B m 3 (ys.flatMap scells))
    (hn : n ≤ 140737488355328) (hm : m ≤ 140737488355328) {R : VWK} (h : ∀ w', Grow w w' → R (.bool (decide (xs = ys))) w') :
    CallsV Tryz.prog 33 [.slice A n c, .slice B m d] w R := by
  have hx := hA.flat3
  have hy := hB.flat3
  refine calls_of_wpC mixed Tryz.func33 rfl (by kernel_rfl) ?_
  intro e he
  have he0 := he 0
  have he1 := he 1
  simp only [List.getD_cons_zero, List.getD_cons_succ] at he0 he1
  clear he
  try simp -dsimp only [↓RE,↓c_seq,RU,RL,if_true,if_false,forall_const,implies_true,Nat.reduceLeDiff,Nat.reduceLT,pureOp,binPure,intBin,strBin,eqPure,isConstO,unPure,sliceLo,sliceHi,slicePure,slice3Pure,lenPure,capPure,minPure,maxPure,buildP,resK,endV,yieldE,↓reduceIte,Nat.reduceEqDiff,reduceCtorEq,Nat.reduceAdd,Nat.reduceMul,Nat.reduceSub,Int.reduceLT,Int.reduceLE,Int.reduceToNat,Int.reduceAdd,Int.reduceSub,Int.reduceMul,ne_eq,decide_true,decide_false,tf33, he0, he1]
  refine ⟨fun hne => ?_, fun heq => ?_⟩
  · have : decide (xs = ys) = false := by
      rw [decide_eq_false_iff_not]; rintro rfl; omega
    try simp -dsimp only [↓RE,↓c_seq,RU,RL,if_true,if_false,forall_const,implies_true,Nat.reduceLeDiff,Nat.reduceLT,pureOp,binPure,intBin,strBin,eqPure,isConstO,unPure,sliceLo,sliceHi,slicePure,slice3Pure,lenPure,capPure,minPure,maxPure,buildP,resK,endV,yieldE,↓reduceIte,Nat.reduceEqDiff,reduceCtorEq,Nat.reduceAdd,Nat.reduceMul,Nat.reduceSub,Int.reduceLT,Int.reduceLE,Int.reduceToNat,Int.reduceAdd,Int.reduceSub,Int.reduceMul,ne_eq,decide_true,decide_false,tf33, he0]
    rw [← this]
    exact h w (Keep.refl _ _)
  · obtain rfl : n = m := by omega
    try simp -dsimp only [↓RE,↓c_seq,RU,RL,if_true,if_false,forall_const,implies_true,Nat.reduceLeDiff,Nat.reduceLT,pureOp,binPure,intBin,strBin,eqPure,isConstO,unPure,sliceLo,sliceHi,slicePure,slice3Pure,lenPure,capPure,minPure,maxPure,buildP,resK,endV,yieldE,↓reduceIte,Nat.reduceEqDiff,reduceCtorEq,Nat.reduceAdd,Nat.reduceMul,Nat.reduceSub,Int.reduceLT,Int.reduceLE,Int.reduceToNat,Int.reduceAdd,Int.reduceSub,Int.reduceMul,ne_eq,decide_true,decide_false,tf33, he0, he1]
    refine wpLoop_intro (fun e' w' => e' 0 = .slice A n c ∧ e' 1 = .slice B n d ∧ ∃ k : Nat, k ≤ n ∧ e' 5 = .int .i64 k ∧ xs.take k = ys.take k ∧ Grow w w') (fun e' _ => n - (envInt (e' 5)).toNat) ?_ ?_
    · exact ⟨by simp -dsimp only [↓RE,RU,RL,if_true,if_false,↓reduceIte,Nat.reduceEqDiff,reduceCtorEq,decide_true,decide_false, he0], by simp -dsimp only [↓RE,RU,RL,if_true,if_false,↓reduceIte,Nat.reduceEqDiff,reduceCtorEq,decide_true,decide_false, he1], 0, Nat.zero_le _, by simp -dsimp only [↓RE,RU,RL,if_true,if_false,↓reduceIte,Nat.reduceEqDiff,reduceCtorEq,decide_true,decide_false, Int.cast_ofNat_Int], by simp, Keep.refl _ _⟩
    · rintro e' w' ⟨h0, h1, k, hk, h5, htk, hg⟩
      try simp -dsimp only [↓RE,↓c_seq,RU,RL,if_true,if_false,forall_const,implies_true,Nat.reduceLeDiff,Nat.reduceLT,pureOp,binPure,intBin,strBin,eqPure,isConstO,unPure,sliceLo,sliceHi,slicePure,slice3Pure,lenPure,capPure,minPure,maxPure,buildP,resK,endV,yieldE,↓reduceIte,Nat.reduceEqDiff,reduceCtorEq,Nat.reduceAdd,Nat.reduceMul,Nat.reduceSub,Int.reduceLT,Int.reduceLE,Int.reduceToNat,Int.reduceAdd,Int.reduceSub,Int.reduceMul,ne_eq,decide_true,decide_false,tf33, h0, h1, h5]
      refine ⟨fun hlt => ?_, fun hge => ?_⟩
      · have hgd := hg.trans (Grow.drew w')
        obtain ⟨ad, rfl, _, _, hca⟩ := (hA.grow hgd).smp (k := k) (by omega)
        obtain ⟨bd, rfl, _, _, hcb⟩ := (hB.grow hgd).smp (k := k) (by omega)
        try simp -dsimp only [↓RE,↓c_seq,RU,RL,if_true,if_false,forall_const,implies_true,Nat.reduceLeDiff,Nat.reduceLT,pureOp,binPure,intBin,strBin,eqPure,isConstO,unPure,sliceLo,sliceHi,slicePure,slice3Pure,lenPure,capPure,minPure,maxPure,buildP,resK,endV,yieldE,↓reduceIte,Nat.reduceEqDiff,reduceCtorEq,Nat.reduceAdd,Nat.reduceMul,Nat.reduceSub,Int.reduceLT,Int.reduceLE,Int.reduceToNat,Int.reduceAdd,Int.reduceSub,Int.reduceMul,ne_eq,decide_true,decide_false,tf33, h0, h1, h5]
        refine wpDraw_still (by kernel_rfl) ?_
        try simp -dsimp only [↓RE,↓c_seq,RU,RL,if_true,if_false,forall_const,implies_true,Nat.reduceLeDiff,Nat.reduceLT,pureOp,binPure,intBin,strBin,eqPure,isConstO,unPure,sliceLo,sliceHi,slicePure,slice3Pure,lenPure,capPure,minPure,maxPure,buildP,resK,endV,yieldE,↓reduceIte,Nat.reduceEqDiff,reduceCtorEq,Nat.reduceAdd,Nat.reduceMul,Nat.reduceSub,Int.reduceLT,Int.reduceLE,Int.reduceToNat,Int.reduceAdd,Int.reduceSub,Int.reduceMul,ne_eq,decide_true,decide_false,tf33, h0, h1, h5]
        refine ⟨⟨by omega, by omega⟩, ?_⟩
        refine hca ?_
        try simp -dsimp only [↓RE,↓c_seq,RU,RL,if_true,if_false,forall_const,implies_true,Nat.reduceLeDiff,Nat.reduceLT,pureOp,binPure,intBin,strBin,eqPure,isConstO,unPure,sliceLo,sliceHi,slicePure,slice3Pure,lenPure,capPure,minPure,maxPure,buildP,resK,endV,yieldE,↓reduceIte,Nat.reduceEqDiff,reduceCtorEq,Nat.reduceAdd,Nat.reduceMul,Nat.reduceSub,Int.reduceLT,Int.reduceLE,Int.reduceToNat,Int.reduceAdd,Int.reduceSub,Int.reduceMul,ne_eq,decide_true,decide_false,tf33, h0, h1, h5]
        refine ⟨⟨by omega, by omega⟩, ?_⟩
        refine hcb ?_
        try simp -dsimp only [↓RE,↓c_seq,RU,RL,if_true,if_false,forall_const,implies_true,Nat.reduceLeDiff,Nat.reduceLT,pureOp,binPure,intBin,strBin,eqPure,isConstO,unPure,sliceLo,sliceHi,slicePure,slice3Pure,lenPure,capPure,minPure,maxPure,buildP,resK,endV,yieldE,↓reduceIte,Nat.reduceEqDiff,reduceCtorEq,Nat.reduceAdd,Nat.reduceMul,Nat.reduceSub,Int.reduceLT,Int.reduceLE,Int.reduceToNat,Int.reduceAdd,Int.reduceSub,Int.reduceMul,ne_eq,decide_true,decide_false,tf33, h0, h1, h5, Option.map_some]
        refine ⟨fun hne => ?_, fun heq => ?_⟩
        · have : decide (xs = ys) = false := by
            rw [decide_eq_false_iff_not]; rintro rfl; exact hne ⟨rfl, rfl, rfl⟩
          try simp -dsimp only [↓RE,↓c_seq,RU,RL,if_true,if_false,forall_const,implies_true,Nat.reduceLeDiff,Nat.reduceLT,pureOp,binPure,intBin,strBin,eqPure,isConstO,unPure,sliceLo,sliceHi,slicePure,slice3Pure,lenPure,capPure,minPure,maxPure,buildP,resK,endV,yieldE,↓reduceIte,Nat.reduceEqDiff,reduceCtorEq,Nat.reduceAdd,Nat.reduceMul,Nat.reduceSub,Int.reduceLT,Int.reduceLE,Int.reduceToNat,Int.reduceAdd,Int.reduceSub,Int.reduceMul,ne_eq,decide_true,decide_false,tf33, h0]
          rw [← this]
          exact h _ (hg.trans (Grow.drew _))
        · try simp -dsimp only [↓RE,↓c_seq,RU,RL,if_true,if_false,forall_const,implies_true,Nat.reduceLeDiff,Nat.reduceLT,pureOp,binPure,intBin,strBin,eqPure,isConstO,unPure,sliceLo,sliceHi,slicePure,slice3Pure,lenPure,capPure,minPure,maxPure,buildP,resK,endV,yieldE,↓reduceIte,Nat.reduceEqDiff,reduceCtorEq,Nat.reduceAdd,Nat.reduceMul,Nat.reduceSub,Int.reduceLT,Int.reduceLE,Int.reduceToNat,Int.reduceAdd,Int.reduceSub,Int.reduceMul,ne_eq,decide_true,decide_false,tf33, h0, h5]
          have heq : (xs.getD k (0, 0, 0)).1 = (ys.getD k (0, 0, 0)).1 ∧ (xs.getD k (0, 0, 0)).2.1 = (ys.getD k (0, 0, 0)).2.1 ∧ (xs.getD k (0, 0, 0)).2.2 = (ys.getD k (0, 0, 0)).2.2 := by first | exact heq | exact Classical.not_not.1 heq
          refine hold_intro ⟨⟨?_, ?_, k + 1, by omega, ?_, take_succ_of (d := (0, 0, 0)) htk (by omega) (by omega) (Prod.ext heq.1 (Prod.ext heq.2.1 heq.2.2)), hg.trans (Grow.drew _)⟩, ?_⟩
          · simp -dsimp only [↓RE,RU,RL,if_true,if_false,↓reduceIte,Nat.reduceEqDiff,reduceCtorEq,decide_true,decide_false, h0]
          · simp -dsimp only [↓RE,RU,RL,if_true,if_false,↓reduceIte,Nat.reduceEqDiff,reduceCtorEq,decide_true,decide_false, h1]
          · simp -dsimp only [↓RE,RU,RL,if_true,if_false,↓reduceIte,Nat.reduceEqDiff,reduceCtorEq,decide_true,decide_false, h5]
            rw [wrap_i64_in (by omega) (by omega)]; rfl
          · simp -dsimp only [↓RE,RU,RL,if_true,if_false,↓reduceIte,Nat.reduceEqDiff,reduceCtorEq,decide_true,decide_false, h5]
            rw [wrap_i64_in (by omega) (by omega), envInt_int, envInt_int]; omega
      · obtain rfl : k = n := by omega
        have : decide (xs = ys) = true := by
          rw [decide_eq_true_iff]
          rw [List.take_of_length_le (by omega), List.take_of_length_le (by omega)] at htk
          exact htk
        try simp -dsimp only [↓RE,↓c_seq,RU,RL,if_true,if_false,forall_const,implies_true,Nat.reduceLeDiff,Nat.reduceLT,pureOp,binPure,intBin,strBin,eqPure,isConstO,unPure,sliceLo,sliceHi,slicePure,slice3Pure,lenPure,capPure,minPure,maxPure,buildP,resK,endV,yieldE,↓reduceIte,Nat.reduceEqDiff,reduceCtorEq,Nat.reduceAdd,Nat.reduceMul,Nat.reduceSub,Int.reduceLT,Int.reduceLE,Int.reduceToNat,Int.reduceAdd,Int.reduceSub,Int.reduceMul,ne_eq,decide_true,decide_false,tf33, h0]
        rw [← this]
        exact h _ hg

theorem madeCells_smp (n : Nat) : madeCells #[.int .i64 0, .int .u8 0, .int .i64 0] (n * 3) = ((List.replicate n ((0, 0, 0) : Smp)).flatMap scells).toArray := by
  apply Array.ext'
  apply List.ext_getElem?
  intro i
  rcases Nat.lt_or_ge i (n * 3) with hi | hi
  · have hk : (List.replicate n ((0, 0, 0) : Smp))[i / 3]? = some (0, 0, 0) := by rw [List.getElem?_replicate, if_pos (by omega)]
    have h1 := flat_get scells (size := 3) _ (fun _ _ => rfl) hk (Nat.mod_lt i (by omega))
    rw [show i / 3 * 3 + i % 3 = i by omega] at h1
    rw [h1, madeCells, Array.getElem?_toList, Array.getElem?_map, Array.getElem?_range, if_pos hi]
    have h3 : i % 3 = 0 ∨ i % 3 = 1 ∨ i % 3 = 2 := by omega
    have h4 : i % (#[Value.int .i64 0, Value.int .u8 0, Value.int .i64 0] : Array Value).size = i % 3 := rfl
    rw [Option.map_some, h4]
    rcases h3 with h | h | h <;> rw [h] <;> rfl
  · rw [List.getElem?_eq_none (by rw [Array.length_toList, size_madeCells]; exact hi), List.getElem?_eq_none (by rw [Array.length_toList, List.size_toArray, flat_length, List.length_replicate]; exact hi)]
theorem set_flat {L : List Smp} {k : Nat} (hk : k < L.length) (s : Smp) : (L.flatMap scells).take (k * 3) ++ scells s ++ (L.flatMap scells).drop (k * 3 + 3) = (L.set k s).flatMap scells := by
  rw [List.set_eq_take_append_cons_drop, if_pos hk, List.flatMap_append, List.flatMap_cons, flat_take, flat_drop, show (k + 1) * 3 = k * 3 + 3 by omega, List.append_assoc]
theorem blk_smp_set {P : Program} {w : World} {g : Nat} {t : TypeId} {L : List Smp} (h : Blk w g t (L.flatMap scells)) {k : Nat} (hk : k < L.length) (s : Smp) {K : WK} {tk : Tok K}
    (hK : ∀ w', Blk w' g t ((L.set k s).flatMap scells) → Keep (fun q => q = g) w w' → K w') : aggSt P w ⟨g, k * 3, none⟩ (scells s) K tk :=
  h.stAgg (by rw [scells_len, flat_length]; omega) (by intro u hu; exact scells_one [s] u (by simpa using hu)) (fun w' hB hk' => hK w' (by rw [scells_len, set_flat hk] at hB; exact hB) hk')
theorem genK_make3 {o : Oper} {x y : Operand} (hop : o.op = .makeSlice 62 x y) {ρ : Operand → Value} {k k' : IntKind} {n : Nat} (hx : ρ x = .int k n) (hy : ρ y = .int k' n) (hb : n ≤ 5864062014643) {w : World} {K : VWK} {tk : Tok (ρ, K)}
    (hk : K (.slice (some ⟨w.heap.size, 0, none⟩) n n) (w.alloc (.cells ((List.replicate n ((0, 0, 0) : Smp)).flatMap scells).toArray 89))) : genK Tryz.prog o ρ w K tk := by
  obtain ⟨i, hi, hzz, hs, hby⟩ : ∃ i, Tryz.prog.info? 89 = some i ∧ i.zero = some (.agg #[.int .i64 0, .int .u8 0, .int .i64 0]) ∧ i.size = 3 ∧ i.bytes = 24 := ⟨_, rfl, by kernel_rfl, by kernel_rfl, by kernel_rfl⟩
  have hb' : (i.bytes : Int) * (n : Int) ≤ 281474976710656 := by rw [hby]; omega
  have hr := run_make (P := Tryz.prog) w 62 89 i _ Tryz.underlying62 hi hzz k k' n n (by omega) (Int.le_refl _) hb' (by omega)
  simp only [Int.toNat_natCast, hs, Value.cells, madeCells_smp] at hr
  refine ⟨_, _, .inl ?_, hk⟩
  unfold execOp
  simp only [hop, hx, hy, Sem.run_bind, hr, Result.andThen_ok, Sem.run_pure]
def markS : List Smp := [(-700, 0, 0), (-701, 0, 0), (-702, 0, 0), (-703, 0, 0), (-704, 0, 0), (-705, 0, 0), (-706, 0, 0), (-707, 0, 0), (-708, 0, 0)]
theorem markS_at {k : Nat} (hk : k < 9) : markS.getD k (0, 0, 0) = (-700 - (k : Int), 0, 0) := by
  have : k = 0 ∨ k = 1 ∨ k = 2 ∨ k = 3 ∨ k = 4 ∨ k = 5 ∨ k = 6 ∨ k = 7 ∨ k = 8 := by omega
  rcases this with rfl | rfl | rfl | rfl | rfl | rfl | rfl | rfl | rfl <;> rfl
theorem mark_wrap {n k : Nat} (hn : n ≤ 5864062014634) (hk : k < 9) : IntKind.i64.wrap (IntKind.i64.wrap (-700 - ((n + k : Nat) : Int)) + (n : Int)) = -700 - (k : Int) := by
  rw [wrap_i64_in (n := -700 - ((n + k : Nat) : Int)) (by omega) (by omega), wrap_i64_in (by omega) (by omega)]; omega
theorem hands_ok {w : World} {A : Option Addr} {n c : Nat} {xs : List Smp} (hR : Rd w A n 3 (xs.flatMap scells)) (hn : n ≤ 5864062014634) {R : VWK}
    (h : ∀ w' g, Blk w' g 89 ((xs ++ markS).flatMap scells) → Grow w w' → w.heap.size ≤ g → R (.slice (some ⟨g, 0, none⟩) n (n + 9)) w') :
    CallsV Tryz.prog 34 [.slice A n c] w R := by
  have hx := hR.flat3
  refine calls_of_wpC mixed Tryz.func34 rfl (by kernel_rfl) ?_
  intro e he
  have he0 := he 0
  simp only [List.getD_cons_zero, List.getD_cons_succ] at he0
  clear he
  rw [c_seq]
  simp -dsimp only [↓RE,RU,RL,if_true,if_false,forall_const,implies_true,Nat.reduceLeDiff,Nat.reduceLT,pureOp,binPure,intBin,strBin,eqPure,isConstO,unPure,sliceLo,sliceHi,slicePure,slice3Pure,lenPure,capPure,minPure,maxPure,buildP,resK,endV,yieldE,↓reduceIte,Nat.reduceEqDiff,reduceCtorEq,Nat.reduceAdd,Nat.reduceMul,Nat.reduceSub,Int.reduceLT,Int.reduceLE,Int.reduceToNat,Int.reduceAdd,Int.reduceSub,Int.reduceMul,ne_eq,decide_true,decide_false,tf34, he0]
  rw [c_seq]
  simp -dsimp only [↓RE,RU,RL,if_true,if_false,forall_const,implies_true,Nat.reduceLeDiff,Nat.reduceLT,pureOp,binPure,intBin,strBin,eqPure,isConstO,unPure,sliceLo,sliceHi,slicePure,slice3Pure,lenPure,capPure,minPure,maxPure,buildP,resK,endV,yieldE,↓reduceIte,Nat.reduceEqDiff,reduceCtorEq,Nat.reduceAdd,Nat.reduceMul,Nat.reduceSub,Int.reduceLT,Int.reduceLE,Int.reduceToNat,Int.reduceAdd,Int.reduceSub,Int.reduceMul,ne_eq,decide_true,decide_false,tf34, he0]
  have hw9 : IntKind.i64.wrap ((n : Int) + 9) = ((n + 9 : Nat) : Int) := by rw [wrap_i64_in (by omega) (by omega)]; omega
  refine genK_make3 rfl (k := .i64) (k' := .i64) (n := n + 9) (by simp -dsimp only [↓RE,RU,RL,if_true,if_false,↓reduceIte,Nat.reduceEqDiff,reduceCtorEq,decide_true,decide_false, he0, hw9]) (by simp -dsimp only [↓RE,RU,RL,if_true,if_false,↓reduceIte,Nat.reduceEqDiff,reduceCtorEq,decide_true,decide_false, he0, hw9]) (by omega) ?_
  have hB := Blk.new w 89 ((List.replicate (n + 9) ((0, 0, 0) : Smp)).flatMap scells)
  have g1 := Grow.alloc w (.cells ((List.replicate (n + 9) ((0, 0, 0) : Smp)).flatMap scells).toArray 89)
  generalize hw1 : w.alloc (.cells ((List.replicate (n + 9) ((0, 0, 0) : Smp)).flatMap scells).toArray 89) = w1 at hB g1
  simp -dsimp only [↓RE,RU,RL,if_true,if_false,forall_const,implies_true,Nat.reduceLeDiff,Nat.reduceLT,pureOp,binPure,intBin,strBin,eqPure,isConstO,unPure,sliceLo,sliceHi,slicePure,slice3Pure,lenPure,capPure,minPure,maxPure,buildP,resK,endV,yieldE,↓reduceIte,Nat.reduceEqDiff,reduceCtorEq,Nat.reduceAdd,Nat.reduceMul,Nat.reduceSub,Int.reduceLT,Int.reduceLE,Int.reduceToNat,Int.reduceAdd,Int.reduceSub,Int.reduceMul,ne_eq,decide_true,decide_false,tf34, he0]
  refine c_seq_cut (fun e' w' => e' 0 = .slice A n c ∧ e' 3 = .slice (some ⟨w.heap.size, 0, none⟩) (n + 9) (n + 9) ∧ Blk w' w.heap.size 89 ((xs ++ List.replicate 9 (0, 0, 0)).flatMap scells) ∧ Grow w w') ?_ ?_
  · rw [c_seq]
    simp -dsimp only [↓RE,RU,RL,if_true,if_false,forall_const,implies_true,Nat.reduceLeDiff,Nat.reduceLT,pureOp,binPure,intBin,strBin,eqPure,isConstO,unPure,sliceLo,sliceHi,slicePure,slice3Pure,lenPure,capPure,minPure,maxPure,buildP,resK,endV,yieldE,↓reduceIte,Nat.reduceEqDiff,reduceCtorEq,Nat.reduceAdd,Nat.reduceMul,Nat.reduceSub,Int.reduceLT,Int.reduceLE,Int.reduceToNat,Int.reduceAdd,Int.reduceSub,Int.reduceMul,ne_eq,decide_true,decide_false,tf34, he0]
    refine wpLoop_intro (fun e' w' => e' 0 = .slice A n c ∧ e' 3 = .slice (some ⟨w.heap.size, 0, none⟩) (n + 9) (n + 9) ∧ ∃ k : Nat, k ≤ n ∧ e' 4 = .int .i64 k ∧ Blk w' w.heap.size 89 ((xs.take k ++ List.replicate (n + 9 - k) (0, 0, 0)).flatMap scells) ∧ Grow w w')
      (fun e' _ => n - (envInt (e' 4)).toNat) ⟨?_, ?_, 0, Nat.zero_le _, ?_, ?_, g1⟩ ?_
    · simp -dsimp only [↓RE,RU,RL,if_true,if_false,↓reduceIte,Nat.reduceEqDiff,reduceCtorEq,decide_true,decide_false, he0]
    · simp -dsimp only [↓RE,RU,RL,if_true,if_false,↓reduceIte,Nat.reduceEqDiff,reduceCtorEq,decide_true,decide_false, he0]
    · simp -dsimp only [↓RE,RU,RL,if_true,if_false,↓reduceIte,Nat.reduceEqDiff,reduceCtorEq,decide_true,decide_false, he0, Int.cast_ofNat_Int]
    · rw [List.take_zero, List.nil_append, Nat.sub_zero]; exact hB
    rintro e' w' ⟨h0, h3, k, hk, h4, hB', hg⟩
    try simp -dsimp only [↓RE,↓c_seq,RU,RL,if_true,if_false,forall_const,implies_true,Nat.reduceLeDiff,Nat.reduceLT,pureOp,binPure,intBin,strBin,eqPure,isConstO,unPure,sliceLo,sliceHi,slicePure,slice3Pure,lenPure,capPure,minPure,maxPure,buildP,resK,endV,yieldE,↓reduceIte,Nat.reduceEqDiff,reduceCtorEq,Nat.reduceAdd,Nat.reduceMul,Nat.reduceSub,Int.reduceLT,Int.reduceLE,Int.reduceToNat,Int.reduceAdd,Int.reduceSub,Int.reduceMul,ne_eq,decide_true,decide_false,tf34, h0, h3, h4]
    refine ⟨fun hlt => ?_, fun hge => ?_⟩
    · obtain ⟨ad, rfl, _, _, hcs⟩ := (hR.grow hg).smp (k := k) (by omega)
      have hw1 : IntKind.i64.wrap ((k : Int) + 1) = ((k + 1 : Nat) : Int) := by rw [wrap_i64_in (by omega) (by omega)]; omega
      try simp -dsimp only [↓RE,↓c_seq,RU,RL,if_true,if_false,forall_const,implies_true,Nat.reduceLeDiff,Nat.reduceLT,pureOp,binPure,intBin,strBin,eqPure,isConstO,unPure,sliceLo,sliceHi,slicePure,slice3Pure,lenPure,capPure,minPure,maxPure,buildP,resK,endV,yieldE,↓reduceIte,Nat.reduceEqDiff,reduceCtorEq,Nat.reduceAdd,Nat.reduceMul,Nat.reduceSub,Int.reduceLT,Int.reduceLE,Int.reduceToNat,Int.reduceAdd,Int.reduceSub,Int.reduceMul,ne_eq,decide_true,decide_false,tf34, h0, h3, h4]
      refine ⟨⟨by omega, by omega⟩, hcs ?_⟩
      try simp -dsimp only [↓RE,↓c_seq,RU,RL,if_true,if_false,forall_const,implies_true,Nat.reduceLeDiff,Nat.reduceLT,pureOp,binPure,intBin,strBin,eqPure,isConstO,unPure,sliceLo,sliceHi,slicePure,slice3Pure,lenPure,capPure,minPure,maxPure,buildP,resK,endV,yieldE,↓reduceIte,Nat.reduceEqDiff,reduceCtorEq,Nat.reduceAdd,Nat.reduceMul,Nat.reduceSub,Int.reduceLT,Int.reduceLE,Int.reduceToNat,Int.reduceAdd,Int.reduceSub,Int.reduceMul,ne_eq,decide_true,decide_false,tf34, h0, h3, h4, add_lit', Nat.zero_add]
      refine ⟨⟨by omega, by omega⟩, ?_⟩
      refine blk_smp_set (L := xs.take k ++ List.replicate (n + 9 - k) (0, 0, 0)) hB' (by rw [List.length_append, List.length_take, List.length_replicate]; omega) (xs.getD k (0, 0, 0)) (fun w2 hB2 k2 => ?_)
      have e2 : (xs.take k ++ List.replicate (n + 9 - k) (0, 0, 0)).set k (xs.getD k (0, 0, 0)) = xs.take (k + 1) ++ List.replicate (n + 9 - (k + 1)) (0, 0, 0) := by
        rw [List.set_append_right _ _ (by rw [List.length_take]; omega), List.length_take, Nat.min_eq_left (by omega), Nat.sub_self, show n + 9 - k = (n + 9 - (k + 1)) + 1 by omega, List.replicate_succ, List.set_cons_zero, take_snoc (0, 0, 0) (show k < xs.length by omega), List.append_assoc]
        rfl
      rw [e2] at hB2
      try simp -dsimp only [↓RE,↓c_seq,RU,RL,if_true,if_false,forall_const,implies_true,Nat.reduceLeDiff,Nat.reduceLT,pureOp,binPure,intBin,strBin,eqPure,isConstO,unPure,sliceLo,sliceHi,slicePure,slice3Pure,lenPure,capPure,minPure,maxPure,buildP,resK,endV,yieldE,↓reduceIte,Nat.reduceEqDiff,reduceCtorEq,Nat.reduceAdd,Nat.reduceMul,Nat.reduceSub,Int.reduceLT,Int.reduceLE,Int.reduceToNat,Int.reduceAdd,Int.reduceSub,Int.reduceMul,ne_eq,decide_true,decide_false,tf34, h0, h3, h4, hw1]
      refine hold_intro ⟨⟨?_, ?_, k + 1, by omega, ?_, hB2, hg.above k2 (fun i hi e => by omega)⟩, ?_⟩
      · simp -dsimp only [↓RE,RU,RL,if_true,if_false,↓reduceIte,Nat.reduceEqDiff,reduceCtorEq,decide_true,decide_false, h0]
      · simp -dsimp only [↓RE,RU,RL,if_true,if_false,↓reduceIte,Nat.reduceEqDiff,reduceCtorEq,decide_true,decide_false, h3]
      · simp -dsimp only [↓RE,RU,RL,if_true,if_false,↓reduceIte,Nat.reduceEqDiff,reduceCtorEq,decide_true,decide_false, h4, hw1]
      · simp -dsimp only [↓RE,RU,RL,if_true,if_false,↓reduceIte,Nat.reduceEqDiff,reduceCtorEq,decide_true,decide_false, h4, hw1]
        simp only [envInt_int]; omega
    · obtain rfl : k = n := by omega
      rw [List.take_of_length_le (by omega), show k + 9 - k = 9 by omega] at hB'
      exact hold_intro ⟨by simp -dsimp only [↓RE,RU,RL,if_true,if_false,↓reduceIte,Nat.reduceEqDiff,reduceCtorEq,decide_true,decide_false, h0], by simp -dsimp only [↓RE,RU,RL,if_true,if_false,↓reduceIte,Nat.reduceEqDiff,reduceCtorEq,decide_true,decide_false, h3], hB', hg⟩
  · rintro e' w' ⟨h0, h3, hB', hg⟩
    try simp -dsimp only [↓RE,↓c_seq,RU,RL,if_true,if_false,forall_const,implies_true,Nat.reduceLeDiff,Nat.reduceLT,pureOp,binPure,intBin,strBin,eqPure,isConstO,unPure,sliceLo,sliceHi,slicePure,slice3Pure,lenPure,capPure,minPure,maxPure,buildP,resK,endV,yieldE,↓reduceIte,Nat.reduceEqDiff,reduceCtorEq,Nat.reduceAdd,Nat.reduceMul,Nat.reduceSub,Int.reduceLT,Int.reduceLE,Int.reduceToNat,Int.reduceAdd,Int.reduceSub,Int.reduceMul,ne_eq,decide_true,decide_false,tf34, h0, h3]
    refine wpLoop_intro (fun e' w' => e' 0 = .slice A n c ∧ e' 3 = .slice (some ⟨w.heap.size, 0, none⟩) (n + 9) (n + 9) ∧ ∃ k : Nat, k ≤ 9 ∧ e' 5 = .int .i64 (n + k : Nat) ∧ Blk w' w.heap.size 89 ((xs ++ (markS.take k ++ List.replicate (9 - k) (0, 0, 0))).flatMap scells) ∧ Grow w w')
      (fun e' _ => n + 9 - (envInt (e' 5)).toNat) ⟨?_, ?_, 0, Nat.zero_le _, ?_, ?_, hg⟩ ?_
    · simp -dsimp only [↓RE,RU,RL,if_true,if_false,↓reduceIte,Nat.reduceEqDiff,reduceCtorEq,decide_true,decide_false, h0]
    · simp -dsimp only [↓RE,RU,RL,if_true,if_false,↓reduceIte,Nat.reduceEqDiff,reduceCtorEq,decide_true,decide_false, h3]
    · simp -dsimp only [↓RE,RU,RL,if_true,if_false,↓reduceIte,Nat.reduceEqDiff,reduceCtorEq,decide_true,decide_false, h0]
    · exact hB'
    rintro e' w' ⟨h0, h3, k, hk, h5, hB', hg⟩
    try simp -dsimp only [↓RE,↓c_seq,RU,RL,if_true,if_false,forall_const,implies_true,Nat.reduceLeDiff,Nat.reduceLT,pureOp,binPure,intBin,strBin,eqPure,isConstO,unPure,sliceLo,sliceHi,slicePure,slice3Pure,lenPure,capPure,minPure,maxPure,buildP,resK,endV,yieldE,↓reduceIte,Nat.reduceEqDiff,reduceCtorEq,Nat.reduceAdd,Nat.reduceMul,Nat.reduceSub,Int.reduceLT,Int.reduceLE,Int.reduceToNat,Int.reduceAdd,Int.reduceSub,Int.reduceMul,ne_eq,decide_true,decide_false,tf34, h0, h3, h5]
    refine ⟨fun hlt => ?_, fun hge => ?_⟩
    · have hk9 : k < 9 := by omega
      have hv := mark_wrap hn hk9
      have hw1 : IntKind.i64.wrap (((n + k : Nat) : Int) + 1) = ((n + (k + 1) : Nat) : Int) := by rw [wrap_i64_in (by omega) (by omega)]; omega
      have hml : markS.length = 9 := rfl
      try simp -dsimp only [↓RE,↓c_seq,RU,RL,if_true,if_false,forall_const,implies_true,Nat.reduceLeDiff,Nat.reduceLT,pureOp,binPure,intBin,strBin,eqPure,isConstO,unPure,sliceLo,sliceHi,slicePure,slice3Pure,lenPure,capPure,minPure,maxPure,buildP,resK,endV,yieldE,↓reduceIte,Nat.reduceEqDiff,reduceCtorEq,Nat.reduceAdd,Nat.reduceMul,Nat.reduceSub,Int.reduceLT,Int.reduceLE,Int.reduceToNat,Int.reduceAdd,Int.reduceSub,Int.reduceMul,ne_eq,decide_true,decide_false,tf34, h0, h3, h5, hv, add_lit', Nat.zero_add]
      refine ⟨⟨by omega, by omega⟩, ?_⟩
      refine blk_smp_set (L := xs ++ (markS.take k ++ List.replicate (9 - k) (0, 0, 0))) (k := n + k) hB' (by simp only [List.length_append, List.length_take, List.length_replicate]; omega) (-700 - (k : Int), 0, 0) (fun w2 hB2 k2 => ?_)
      have e2 : (xs ++ (markS.take k ++ List.replicate (9 - k) (0, 0, 0))).set (n + k) (-700 - (k : Int), 0, 0) = xs ++ (markS.take (k + 1) ++ List.replicate (9 - (k + 1)) (0, 0, 0)) := by
        rw [List.set_append_right _ _ (by omega), show n + k - xs.length = k by omega, List.set_append_right _ _ (by rw [List.length_take]; omega), List.length_take, Nat.min_eq_left (by omega), Nat.sub_self,
          show 9 - k = (9 - (k + 1)) + 1 by omega, List.replicate_succ, List.set_cons_zero, take_snoc (0, 0, 0) (show k < markS.length by omega), markS_at hk9, List.append_assoc]
        rfl
      rw [e2] at hB2
      try simp -dsimp only [↓RE,↓c_seq,RU,RL,if_true,if_false,forall_const,implies_true,Nat.reduceLeDiff,Nat.reduceLT,pureOp,binPure,intBin,strBin,eqPure,isConstO,unPure,sliceLo,sliceHi,slicePure,slice3Pure,lenPure,capPure,minPure,maxPure,buildP,resK,endV,yieldE,↓reduceIte,Nat.reduceEqDiff,reduceCtorEq,Nat.reduceAdd,Nat.reduceMul,Nat.reduceSub,Int.reduceLT,Int.reduceLE,Int.reduceToNat,Int.reduceAdd,Int.reduceSub,Int.reduceMul,ne_eq,decide_true,decide_false,tf34, h0, h3, h5, hw1]
      refine hold_intro ⟨⟨?_, ?_, k + 1, by omega, ?_, hB2, hg.above k2 (fun i hi e => by omega)⟩, ?_⟩
      · simp -dsimp only [↓RE,RU,RL,if_true,if_false,↓reduceIte,Nat.reduceEqDiff,reduceCtorEq,decide_true,decide_false, h0]
      · simp -dsimp only [↓RE,RU,RL,if_true,if_false,↓reduceIte,Nat.reduceEqDiff,reduceCtorEq,decide_true,decide_false, h3]
      · simp -dsimp only [↓RE,RU,RL,if_true,if_false,↓reduceIte,Nat.reduceEqDiff,reduceCtorEq,decide_true,decide_false, h5, hw1]
      · simp -dsimp only [↓RE,RU,RL,if_true,if_false,↓reduceIte,Nat.reduceEqDiff,reduceCtorEq,decide_true,decide_false, h5, hw1]
        simp only [envInt_int]; omega
    · obtain rfl : k = 9 := by omega
      have hB2 : Blk w' w.heap.size 89 ((xs ++ markS).flatMap scells) := by
        rw [List.take_of_length_le (by exact Nat.le_refl 9), Nat.sub_self, List.replicate_zero, List.append_nil] at hB'
        exact hB'
      try simp -dsimp only [↓RE,↓c_seq,RU,RL,if_true,if_false,forall_const,implies_true,Nat.reduceLeDiff,Nat.reduceLT,pureOp,binPure,intBin,strBin,eqPure,isConstO,unPure,sliceLo,sliceHi,slicePure,slice3Pure,lenPure,capPure,minPure,maxPure,buildP,resK,endV,yieldE,↓reduceIte,Nat.reduceEqDiff,reduceCtorEq,Nat.reduceAdd,Nat.reduceMul,Nat.reduceSub,Int.reduceLT,Int.reduceLE,Int.reduceToNat,Int.reduceAdd,Int.reduceSub,Int.reduceMul,ne_eq,decide_true,decide_false,tf34, h0, h3, h5, add_zero', Nat.sub_zero, ite_self, Option.map_some]
      refine ⟨by omega, ?_⟩
      try simp -dsimp only [↓RE,↓c_seq,RU,RL,if_true,if_false,forall_const,implies_true,Nat.reduceLeDiff,Nat.reduceLT,pureOp,binPure,intBin,strBin,eqPure,isConstO,unPure,sliceLo,sliceHi,slicePure,slice3Pure,lenPure,capPure,minPure,maxPure,buildP,resK,endV,yieldE,↓reduceIte,Nat.reduceEqDiff,reduceCtorEq,Nat.reduceAdd,Nat.reduceMul,Nat.reduceSub,Int.reduceLT,Int.reduceLE,Int.reduceToNat,Int.reduceAdd,Int.reduceSub,Int.reduceMul,ne_eq,decide_true,decide_false,tf34, h0, h3, h5, add_zero', Nat.sub_zero, ite_self, Option.map_some]
      exact h w' w.heap.size hB2 hg (Nat.le_refl _)
theorem blk_front {w : World} {g n : Nat} {t : TypeId} {xs ys : List Smp} (h : Blk w g t ((xs ++ ys).flatMap scells)) (hl : xs.length = n) : Rd w (some ⟨g, 0, none⟩) n 3 (xs.flatMap scells) := by
  subst hl
  refine ⟨flat_length xs, fun _ => ⟨_, rfl, fun j u hu => ?_⟩⟩
  rw [add_lit', Nat.zero_add, h.cell, List.flatMap_append, List.getElem?_append_left (List.getElem?_eq_some_iff.1 hu).1]
  exact hu
theorem kepts_ok {w : World} {g : Nat} {A : Option Addr} {n c : Nat} {xs : List Smp} (hB : Blk w g 89 ((xs ++ markS).flatMap scells)) (hR : Rd w A n 3 (xs.flatMap scells)) (hn : n ≤ 5864062014634) {R : VWK}
    (h : ∀ w', Grow w w' → R (.bool true) w') : CallsV Tryz.prog 36 [.slice (some ⟨g, 0, none⟩) n (n + 9), .slice A n c] w R := by
  have hx := hR.flat3
  have hml : (xs ++ markS).length = n + 9 := by rw [List.length_append, hx]; rfl
  refine calls_of_wpC mixed Tryz.func36 rfl (by kernel_rfl) ?_
  intro e he
  have he0 := he 0
  have he1 := he 1
  simp only [List.getD_cons_zero, List.getD_cons_succ] at he0 he1
  clear he
  try simp -dsimp only [↓RE,↓c_seq,RU,RL,if_true,if_false,forall_const,implies_true,Nat.reduceLeDiff,Nat.reduceLT,pureOp,binPure,intBin,strBin,eqPure,isConstO,unPure,sliceLo,sliceHi,slicePure,slice3Pure,lenPure,capPure,minPure,maxPure,buildP,resK,endV,yieldE,↓reduceIte,Nat.reduceEqDiff,reduceCtorEq,Nat.reduceAdd,Nat.reduceMul,Nat.reduceSub,Int.reduceLT,Int.reduceLE,Int.reduceToNat,Int.reduceAdd,Int.reduceSub,Int.reduceMul,ne_eq,decide_true,decide_false,tf36, he0, he1]
  refine msameSamples_ok (blk_front hB hx) hR (by omega) (by omega) (fun w1 g1 => ?_)
  rw [decide_eq_true rfl]
  have hw9 : IntKind.i64.wrap ((n : Int) + 9) = ((n + 9 : Nat) : Int) := by rw [wrap_i64_in (by omega) (by omega)]; omega
  try simp -dsimp only [↓RE,↓c_seq,RU,RL,if_true,if_false,forall_const,implies_true,Nat.reduceLeDiff,Nat.reduceLT,pureOp,binPure,intBin,strBin,eqPure,isConstO,unPure,sliceLo,sliceHi,slicePure,slice3Pure,lenPure,capPure,minPure,maxPure,buildP,resK,endV,yieldE,↓reduceIte,Nat.reduceEqDiff,reduceCtorEq,Nat.reduceAdd,Nat.reduceMul,Nat.reduceSub,Int.reduceLT,Int.reduceLE,Int.reduceToNat,Int.reduceAdd,Int.reduceSub,Int.reduceMul,ne_eq,decide_true,decide_false,tf36, he0, he1, hw9, add_zero', Nat.sub_zero, ite_self, Option.map_some]
  refine ⟨by omega, ?_⟩
  try simp -dsimp only [↓RE,↓c_seq,RU,RL,if_true,if_false,forall_const,implies_true,Nat.reduceLeDiff,Nat.reduceLT,pureOp,binPure,intBin,strBin,eqPure,isConstO,unPure,sliceLo,sliceHi,slicePure,slice3Pure,lenPure,capPure,minPure,maxPure,buildP,resK,endV,yieldE,↓reduceIte,Nat.reduceEqDiff,reduceCtorEq,Nat.reduceAdd,Nat.reduceMul,Nat.reduceSub,Int.reduceLT,Int.reduceLE,Int.reduceToNat,Int.reduceAdd,Int.reduceSub,Int.reduceMul,ne_eq,decide_true,decide_false,tf36, he0, he1, hw9, add_zero', Nat.sub_zero, ite_self, Option.map_some]
  refine wpLoop_intro (fun e' w' => e' 1 = .slice A n c ∧ e' 5 = .slice (some ⟨g, 0, none⟩) (n + 9) (n + 9) ∧ ∃ k : Nat, k ≤ 9 ∧ e' 6 = .int .i64 (n + k : Nat) ∧ Grow w w')
    (fun e' _ => n + 9 - (envInt (e' 6)).toNat) ⟨?_, ?_, 0, Nat.zero_le _, ?_, g1⟩ ?_
  · simp -dsimp only [↓RE,RU,RL,if_true,if_false,↓reduceIte,Nat.reduceEqDiff,reduceCtorEq,decide_true,decide_false, he1]
  · simp -dsimp only [↓RE,RU,RL,if_true,if_false,↓reduceIte,Nat.reduceEqDiff,reduceCtorEq,decide_true,decide_false, he1]
  · simp -dsimp only [↓RE,RU,RL,if_true,if_false,↓reduceIte,Nat.reduceEqDiff,reduceCtorEq,decide_true,decide_false, he1]
  rintro e' w' ⟨h1, h5, k, hk, h6, hg⟩
  try simp -dsimp only [↓RE,↓c_seq,RU,RL,if_true,if_false,forall_const,implies_true,Nat.reduceLeDiff,Nat.reduceLT,pureOp,binPure,intBin,strBin,eqPure,isConstO,unPure,sliceLo,sliceHi,slicePure,slice3Pure,lenPure,capPure,minPure,maxPure,buildP,resK,endV,yieldE,↓reduceIte,Nat.reduceEqDiff,reduceCtorEq,Nat.reduceAdd,Nat.reduceMul,Nat.reduceSub,Int.reduceLT,Int.reduceLE,Int.reduceToNat,Int.reduceAdd,Int.reduceSub,Int.reduceMul,ne_eq,decide_true,decide_false,tf36, h1, h5, h6]
  refine ⟨fun hlt => ?_, fun hge => ?_⟩
  · have hk9 : k < 9 := by omega
    have hv := mark_wrap hn hk9
    have hw1 : IntKind.i64.wrap (((n + k : Nat) : Int) + 1) = ((n + (k + 1) : Nat) : Int) := by rw [wrap_i64_in (by omega) (by omega)]; omega
    have hRa : Rd w' (some ⟨g, 0, none⟩) (n + 9) 3 ((xs ++ markS).flatMap scells) := Rd.of_sblk (hB.grow hg) (by rw [flat_length, hml])
    obtain ⟨ad, hAd, _, _, hcs⟩ := hRa.smp (k := n + k) (by omega)
    injection hAd with hAd
    subst hAd
    have hgd : (xs ++ markS).getD (n + k) (0, 0, 0) = (-700 - (k : Int), 0, 0) := by
      rw [← markS_at hk9, List.getD_eq_getElem?_getD, List.getD_eq_getElem?_getD, List.getElem?_append_right (by omega), hx, show n + k - n = k by omega]
    rw [hgd] at hcs
    simp only [add_lit', Nat.zero_add] at hcs
    try simp -dsimp only [↓RE,↓c_seq,RU,RL,if_true,if_false,forall_const,implies_true,Nat.reduceLeDiff,Nat.reduceLT,pureOp,binPure,intBin,strBin,eqPure,isConstO,unPure,sliceLo,sliceHi,slicePure,slice3Pure,lenPure,capPure,minPure,maxPure,buildP,resK,endV,yieldE,↓reduceIte,Nat.reduceEqDiff,reduceCtorEq,Nat.reduceAdd,Nat.reduceMul,Nat.reduceSub,Int.reduceLT,Int.reduceLE,Int.reduceToNat,Int.reduceAdd,Int.reduceSub,Int.reduceMul,ne_eq,decide_true,decide_false,tf36, h1, h5, h6, hv]
    refine ⟨by omega, hcs ?_⟩
    try simp -dsimp only [↓RE,↓c_seq,RU,RL,if_true,if_false,forall_const,implies_true,Nat.reduceLeDiff,Nat.reduceLT,pureOp,binPure,intBin,strBin,eqPure,isConstO,unPure,sliceLo,sliceHi,slicePure,slice3Pure,lenPure,capPure,minPure,maxPure,buildP,resK,endV,yieldE,↓reduceIte,Nat.reduceEqDiff,reduceCtorEq,Nat.reduceAdd,Nat.reduceMul,Nat.reduceSub,Int.reduceLT,Int.reduceLE,Int.reduceToNat,Int.reduceAdd,Int.reduceSub,Int.reduceMul,ne_eq,decide_true,decide_false,tf36, h1, h5, h6, hv, hw1, eq_self, and_self, decide_true, Bool.not_true]
    refine hold_intro ⟨⟨?_, ?_, k + 1, by omega, ?_, hg⟩, ?_⟩
    · simp -dsimp only [↓RE,RU,RL,if_true,if_false,↓reduceIte,Nat.reduceEqDiff,reduceCtorEq,decide_true,decide_false, h1]
    · simp -dsimp only [↓RE,RU,RL,if_true,if_false,↓reduceIte,Nat.reduceEqDiff,reduceCtorEq,decide_true,decide_false, h5]
    · simp -dsimp only [↓RE,RU,RL,if_true,if_false,↓reduceIte,Nat.reduceEqDiff,reduceCtorEq,decide_true,decide_false, h6, hw1]
    · simp -dsimp only [↓RE,RU,RL,if_true,if_false,↓reduceIte,Nat.reduceEqDiff,reduceCtorEq,decide_true,decide_false, h6, hw1]
      simp only [envInt_int]; omega
  · try simp -dsimp only [↓RE,↓c_seq,RU,RL,if_true,if_false,forall_const,implies_true,Nat.reduceLeDiff,Nat.reduceLT,pureOp,binPure,intBin,strBin,eqPure,isConstO,unPure,sliceLo,sliceHi,slicePure,slice3Pure,lenPure,capPure,minPure,maxPure,buildP,resK,endV,yieldE,↓reduceIte,Nat.reduceEqDiff,reduceCtorEq,Nat.reduceAdd,Nat.reduceMul,Nat.reduceSub,Int.reduceLT,Int.reduceLE,Int.reduceToNat,Int.reduceAdd,Int.reduceSub,Int.reduceMul,ne_eq,decide_true,decide_false,tf36, h1, h5, h6]
    exact h w' hg

end Go.Proofs.YtcnebgokbjpjnaaGreat
