/- block.Pack: what it writes, or what is wrong. -/
import Derived.Test.YtpocfghkolppmaaSmpSpec
import Derived.Test.YtpocfghkolppmaaPureA
import Derived.Test.YtpocfghkolppmaaLives
set_option linter.unusedVariables false
set_option linter.unusedSimpArgs false
set_option maxRecDepth 100000
namespace Go.Proofs.Ytpocfghkolppmaa
open Go

theorem tms_snoc {l : List (Int × Int × Int)} {k : Nat} (h : k < l.length) : tms (l.take (k + 1)) = tms (l.take k) ++ [(l.getD k (0, 0, 0)).1] := by
  rw [take_snoc (0, 0, 0) h, tms, List.map_append]; rfl
theorem vls_snoc {l : List (Int × Int × Int)} {k : Nat} (h : k < l.length) : vls (l.take (k + 1)) = vls (l.take k) ++ [(l.getD k (0, 0, 0)).2] := by
  rw [take_snoc (0, 0, 0) h, vls, List.map_append]; rfl

/-- two rows of one's own: the times and the values of the samples so far. -/
structure TV (w : World) (l : List (Int × Int × Int)) (k : Nat) (s1 s2 : Value) (w' : World) : Prop where
  t : w'.ownsRow 0 2 1 s1 k ((tms (l.take k)).map (Value.int .i64))
  v : w'.ownsRow 0 35 2 s2 k ((vls (l.take k)).flatMap vcells)
  ft : ∀ i, fpV s1 i → w.heap.size ≤ i
  fv : ∀ i, fpV s2 i → w.heap.size ≤ i
  grow : Grow w w'
theorem TV.nil (w : World) (l : List (Int × Int × Int)) : TV w l 0 (.slice none 0 0) (.slice none 0 0) w :=
  ⟨own_nil _ _ _, own_nil _ _ _, fun i hi => absurd hi (fpV_none _), fun i hi => absurd hi (fpV_none _), Keep.refl _ _⟩

theorem pack_ok {w : World} {A : Option Addr} {n c : Nat} {l : List (Int × Int × Int)} (hR : Rd w A n 3 (l.flatMap scells)) (hl0 : ∀ s ∈ l, SOk s) (hn : n ≤ 8796093021952) {R : VWK}
    (herr : ∀ er w', pErr l = some er → Grow w w' → R (.tuple #[.slice none 0 0, .iface 77 (.int .i64 er)]) w')
    (h : pErr l = none → ∀ w' A' c', w'.ownsRow 0 5 1 (.slice A' (pOut l).length c') (pOut l).length ((pOut l).map (Value.int .u8)) → Grow w w' → (∀ k, fpA A' k → w.heap.size ≤ k) →
      R (.tuple #[.slice A' (pOut l).length c', .nilIface]) w') :
    CallsV Try.prog 7 [.slice A n c] w R := by
  have hl := hR.flat3
  refine calls_of_wpC mixed Try.func7 rfl (by kernel_rfl) ?_
  intro e he
  have he0 := he 0
  simp only [List.getD_cons_zero, List.getD_cons_succ] at he0
  clear he
  rw [c_seq]
  simp -dsimp only [↓RE,RU,RL,if_true,if_false,forall_const,implies_true,Nat.reduceLeDiff,Nat.reduceLT,pureOp,binPure,intBin,strBin,eqPure,isConstO,unPure,sliceLo,sliceHi,slicePure,slice3Pure,lenPure,capPure,minPure,maxPure,buildP,resK,endV,yieldE,↓reduceIte,Nat.reduceEqDiff,reduceCtorEq,Nat.reduceAdd,Nat.reduceMul,Nat.reduceSub,Int.reduceLT,Int.reduceLE,Int.reduceToNat,Int.reduceAdd,Int.reduceSub,Int.reduceMul,ne_eq,decide_true,decide_false,tf7, he0]
  rw [c_seq]
  simp -dsimp only [↓RE,RU,RL,if_true,if_false,forall_const,implies_true,Nat.reduceLeDiff,Nat.reduceLT,pureOp,binPure,intBin,strBin,eqPure,isConstO,unPure,sliceLo,sliceHi,slicePure,slice3Pure,lenPure,capPure,minPure,maxPure,buildP,resK,endV,yieldE,↓reduceIte,Nat.reduceEqDiff,reduceCtorEq,Nat.reduceAdd,Nat.reduceMul,Nat.reduceSub,Int.reduceLT,Int.reduceLE,Int.reduceToNat,Int.reduceAdd,Int.reduceSub,Int.reduceMul,ne_eq,decide_true,decide_false,tf7, he0]
  rw [c_seq]
  simp -dsimp only [↓RE,RU,RL,if_true,if_false,forall_const,implies_true,Nat.reduceLeDiff,Nat.reduceLT,pureOp,binPure,intBin,strBin,eqPure,isConstO,unPure,sliceLo,sliceHi,slicePure,slice3Pure,lenPure,capPure,minPure,maxPure,buildP,resK,endV,yieldE,↓reduceIte,Nat.reduceEqDiff,reduceCtorEq,Nat.reduceAdd,Nat.reduceMul,Nat.reduceSub,Int.reduceLT,Int.reduceLE,Int.reduceToNat,Int.reduceAdd,Int.reduceSub,Int.reduceMul,ne_eq,decide_true,decide_false,tf7, he0]
  refine c_seq_cut (fun e' w' => ∃ s1 s2, e' 4 = s1 ∧ e' 5 = s2 ∧ TV w l n s1 s2 w') ?_ ?_
  · try simp -dsimp only [↓RE,↓c_seq,RU,RL,if_true,if_false,forall_const,implies_true,Nat.reduceLeDiff,Nat.reduceLT,pureOp,binPure,intBin,strBin,eqPure,isConstO,unPure,sliceLo,sliceHi,slicePure,slice3Pure,lenPure,capPure,minPure,maxPure,buildP,resK,endV,yieldE,↓reduceIte,Nat.reduceEqDiff,reduceCtorEq,Nat.reduceAdd,Nat.reduceMul,Nat.reduceSub,Int.reduceLT,Int.reduceLE,Int.reduceToNat,Int.reduceAdd,Int.reduceSub,Int.reduceMul,ne_eq,decide_true,decide_false,tf7, he0]
    refine wpLoop_intro (fun e' w' => e' 12 = .slice A n c ∧ e' 13 = .int .i64 n ∧ ∃ (k : Nat) (s1 s2 : Value), k ≤ n ∧ e' 14 = .int .i64 k ∧ e' 4 = s1 ∧ e' 5 = s2 ∧ TV w l k s1 s2 w')
      (fun e' _ => n - (envInt (e' 14)).toNat) ⟨?_, ?_, 0, .slice none 0 0, .slice none 0 0, Nat.zero_le _, ?_, ?_, ?_, TV.nil w l⟩ ?_
    · simp -dsimp only [↓RE,RU,RL,if_true,if_false,↓reduceIte,Nat.reduceEqDiff,reduceCtorEq,decide_true,decide_false, he0]
    · simp -dsimp only [↓RE,RU,RL,if_true,if_false,↓reduceIte,Nat.reduceEqDiff,reduceCtorEq,decide_true,decide_false, he0]
    · simp -dsimp only [↓RE,RU,RL,if_true,if_false,↓reduceIte,Nat.reduceEqDiff,reduceCtorEq,decide_true,decide_false, he0, Int.cast_ofNat_Int]
    · simp -dsimp only [↓RE,RU,RL,if_true,if_false,↓reduceIte,Nat.reduceEqDiff,reduceCtorEq,decide_true,decide_false, he0]
    · simp -dsimp only [↓RE,RU,RL,if_true,if_false,↓reduceIte,Nat.reduceEqDiff,reduceCtorEq,decide_true,decide_false, he0]
    rintro e' w' ⟨h12, h13, k, s1, s2, hk, h14, h4, h5, hT⟩
    try simp -dsimp only [↓RE,↓c_seq,RU,RL,if_true,if_false,forall_const,implies_true,Nat.reduceLeDiff,Nat.reduceLT,pureOp,binPure,intBin,strBin,eqPure,isConstO,unPure,sliceLo,sliceHi,slicePure,slice3Pure,lenPure,capPure,minPure,maxPure,buildP,resK,endV,yieldE,↓reduceIte,Nat.reduceEqDiff,reduceCtorEq,Nat.reduceAdd,Nat.reduceMul,Nat.reduceSub,Int.reduceLT,Int.reduceLE,Int.reduceToNat,Int.reduceAdd,Int.reduceSub,Int.reduceMul,ne_eq,decide_true,decide_false,tf7, h12, h13, h14, h4, h5]
    refine ⟨fun hlt => ?_, fun hge => ?_⟩
    · obtain ⟨ad, rfl, hca, hcv, hcs⟩ := (hR.grow hT.grow).smp (k := k) (by omega)
      try simp -dsimp only [↓RE,↓c_seq,RU,RL,if_true,if_false,forall_const,implies_true,Nat.reduceLeDiff,Nat.reduceLT,pureOp,binPure,intBin,strBin,eqPure,isConstO,unPure,sliceLo,sliceHi,slicePure,slice3Pure,lenPure,capPure,minPure,maxPure,buildP,resK,endV,yieldE,↓reduceIte,Nat.reduceEqDiff,reduceCtorEq,Nat.reduceAdd,Nat.reduceMul,Nat.reduceSub,Int.reduceLT,Int.reduceLE,Int.reduceToNat,Int.reduceAdd,Int.reduceSub,Int.reduceMul,ne_eq,decide_true,decide_false,tf7, h12, h13, h14, h4, h5]
      refine ⟨⟨by omega, by omega⟩, hcs ?_⟩
      generalize hx : l.getD k (0, 0, 0) = x at *
      have hz := Blk.new' w' 37 #[.int .i64 0, .int .u8 0, .int .i64 0]
      have gz := Grow.alloc w' (.cells #[.int .i64 0, .int .u8 0, .int .i64 0] 37)
      try simp -dsimp only [↓RE,↓c_seq,RU,RL,if_true,if_false,forall_const,implies_true,Nat.reduceLeDiff,Nat.reduceLT,pureOp,binPure,intBin,strBin,eqPure,isConstO,unPure,sliceLo,sliceHi,slicePure,slice3Pure,lenPure,capPure,minPure,maxPure,buildP,resK,endV,yieldE,↓reduceIte,Nat.reduceEqDiff,reduceCtorEq,Nat.reduceAdd,Nat.reduceMul,Nat.reduceSub,Int.reduceLT,Int.reduceLE,Int.reduceToNat,Int.reduceAdd,Int.reduceSub,Int.reduceMul,ne_eq,decide_true,decide_false,tf7, h12, h13, h14, h4, h5]
      refine hz.stAgg (by simp) (by simp [Value.oneCell']) (fun w2 hB2 hK2 => ?_)
      have hB2 : Blk w2 w'.heap.size 37 (scells x) := by simpa [scells] using hB2
      have g2 : Grow w' w2 := gz.above hK2 (fun i hi e => by omega)
      try simp -dsimp only [↓RE,↓c_seq,RU,RL,if_true,if_false,forall_const,implies_true,Nat.reduceLeDiff,Nat.reduceLT,pureOp,binPure,intBin,strBin,eqPure,isConstO,unPure,sliceLo,sliceHi,slicePure,slice3Pure,lenPure,capPure,minPure,maxPure,buildP,resK,endV,yieldE,↓reduceIte,Nat.reduceEqDiff,reduceCtorEq,Nat.reduceAdd,Nat.reduceMul,Nat.reduceSub,Int.reduceLT,Int.reduceLE,Int.reduceToNat,Int.reduceAdd,Int.reduceSub,Int.reduceMul,ne_eq,decide_true,decide_false,tf7, h12, h13, h14, h4, h5, hB2.cell, scells]
      have hb1 := Blk.new' w2 2 #[.int .i64 x.1]
      have ga1 := Grow.alloc w2 (.cells #[.int .i64 x.1] 2)
      have hr1 : Rd (w2.alloc (.cells #[.int .i64 x.1] 2)) (some ⟨w2.heap.size, 0, none⟩) 1 1 (([x.1] : List Int).map (Value.int .i64)) := Rd.of_cells _ _ _ _ _ hb1 rfl
      have hlt := own_lt hT.t
      have hlv := own_lt hT.v
      have hs2 := g2.size
      have hs0 := hT.grow.size
      have hB2s := hB2.lt
      refine appK_own (m := 1) (bytes := 8) (by kernel_rfl) (own_grow (own_grow hT.t g2) ga1) hr1 (ints_one _ _) (by show k + 1 ≤ maxLen; simp only [maxLen]; omega) (by show (k + 1) * 8 ≤ 140737488355328; omega) (fun A3 c3 w3 hO3 hK3 hF3 => ?_)
      have hB3 := (hB2.grow ga1).keep hK3 (fun hf => absurd (hlt _ hf) (by omega))
      have hV3 := own_keep (own_grow (own_grow hT.v g2) ga1) hK3 (own_ne hT.v hT.t (by decide))
      have g3 : Grow w w3 := ((hT.grow.trans g2).trans ga1).above hK3 (fun i hi hf => absurd (hT.ft i hf) (by omega))
      have hT3 : w3.ownsRow 0 2 1 (.slice A3 (k + 1) c3) (k + 1) ((tms (l.take (k + 1))).map (Value.int .i64)) := by
        rw [tms_snoc (by omega), hx, List.map_append]; exact hO3
      have hF3' : ∀ i, fpV (.slice A3 (k + 1) c3) i → w.heap.size ≤ i := fun i hi => (hF3 i hi).elim (hT.ft i) (fun q => by have := ga1.size; omega)
      try simp -dsimp only [↓RE,↓c_seq,RU,RL,if_true,if_false,forall_const,implies_true,Nat.reduceLeDiff,Nat.reduceLT,pureOp,binPure,intBin,strBin,eqPure,isConstO,unPure,sliceLo,sliceHi,slicePure,slice3Pure,lenPure,capPure,minPure,maxPure,buildP,resK,endV,yieldE,↓reduceIte,Nat.reduceEqDiff,reduceCtorEq,Nat.reduceAdd,Nat.reduceMul,Nat.reduceSub,Int.reduceLT,Int.reduceLE,Int.reduceToNat,Int.reduceAdd,Int.reduceSub,Int.reduceMul,ne_eq,decide_true,decide_false,tf7, h12, h13, h14, h4, h5]
      refine hB3.aggK (o := 1) (by simp [scells]) ?_
      have hb4 := Blk.new' w3 35 #[.int .u8 x.2.1, .int .i64 x.2.2]
      have ga4 := Grow.alloc w3 (.cells #[.int .u8 x.2.1, .int .i64 x.2.2] 35)
      have hr4 : Rd (w3.alloc (.cells #[.int .u8 x.2.1, .int .i64 x.2.2] 35)) (some ⟨w3.heap.size, 0, none⟩) 1 2 (([x.2] : List (Int × Int)).flatMap vcells) := Rd.of_blk hb4 rfl
      try simp -dsimp only [↓RE,↓c_seq,RU,RL,if_true,if_false,forall_const,implies_true,Nat.reduceLeDiff,Nat.reduceLT,pureOp,binPure,intBin,strBin,eqPure,isConstO,unPure,sliceLo,sliceHi,slicePure,slice3Pure,lenPure,capPure,minPure,maxPure,buildP,resK,endV,yieldE,↓reduceIte,Nat.reduceEqDiff,reduceCtorEq,Nat.reduceAdd,Nat.reduceMul,Nat.reduceSub,Int.reduceLT,Int.reduceLE,Int.reduceToNat,Int.reduceAdd,Int.reduceSub,Int.reduceMul,ne_eq,decide_true,decide_false,tf7, h12, h13, h14, h4, h5, scells, List.drop_succ_cons, List.drop_zero, List.take_succ_cons, List.take_zero]
      refine appK_own (m := 1) (bytes := 16) (by kernel_rfl) (own_grow hV3 ga4) hr4 (vcells_one _) (by show k + 1 ≤ maxLen; simp only [maxLen]; omega) (by show (k + 1) * 16 ≤ 140737488355328; omega) (fun A5 c5 w5 hO5 hK5 hF5 => ?_)
      have g5 : Grow w w5 := (g3.trans ga4).above hK5 (fun i hi hf => absurd (hT.fv i hf) (by omega))
      have hV5 : w5.ownsRow 0 35 2 (.slice A5 (k + 1) c5) (k + 1) ((vls (l.take (k + 1))).flatMap vcells) := by
        rw [vls_snoc (by omega), hx, List.flatMap_append]; exact hO5
      have hF5' : ∀ i, fpV (.slice A5 (k + 1) c5) i → w.heap.size ≤ i := fun i hi => (hF5 i hi).elim (hT.fv i) (fun q => by have := g3.size; have := ga4.size; omega)
      have hT5 := own_keep (own_grow hT3 ga4) hK5 (own_ne hT3 hV3 (by decide))
      try simp -dsimp only [↓RE,↓c_seq,RU,RL,if_true,if_false,forall_const,implies_true,Nat.reduceLeDiff,Nat.reduceLT,pureOp,binPure,intBin,strBin,eqPure,isConstO,unPure,sliceLo,sliceHi,slicePure,slice3Pure,lenPure,capPure,minPure,maxPure,buildP,resK,endV,yieldE,↓reduceIte,Nat.reduceEqDiff,reduceCtorEq,Nat.reduceAdd,Nat.reduceMul,Nat.reduceSub,Int.reduceLT,Int.reduceLE,Int.reduceToNat,Int.reduceAdd,Int.reduceSub,Int.reduceMul,ne_eq,decide_true,decide_false,tf7, h12, h13, h14, h4, h5]
      refine hold_intro ⟨⟨?_, ?_, k + 1, .slice A3 (k + 1) c3, .slice A5 (k + 1) c5, by omega, ?_, ?_, ?_, hT5, hV5, hF3', hF5', g5⟩, ?_⟩
      · simp -dsimp only [↓RE,RU,RL,if_true,if_false,↓reduceIte,Nat.reduceEqDiff,reduceCtorEq,decide_true,decide_false, h12]
      · simp -dsimp only [↓RE,RU,RL,if_true,if_false,↓reduceIte,Nat.reduceEqDiff,reduceCtorEq,decide_true,decide_false, h13]
      · simp -dsimp only [↓RE,RU,RL,if_true,if_false,↓reduceIte,Nat.reduceEqDiff,reduceCtorEq,decide_true,decide_false, h14]
        rw [wrap_i64_in (by omega) (by omega)]; rfl
      · simp -dsimp only [↓RE,RU,RL,if_true,if_false,↓reduceIte,Nat.reduceEqDiff,reduceCtorEq,decide_true,decide_false, h4]
      · simp -dsimp only [↓RE,RU,RL,if_true,if_false,↓reduceIte,Nat.reduceEqDiff,reduceCtorEq,decide_true,decide_false, h5]
      · simp -dsimp only [↓RE,RU,RL,if_true,if_false,↓reduceIte,Nat.reduceEqDiff,reduceCtorEq,decide_true,decide_false, h14]
        rw [wrap_i64_in (by omega) (by omega), envInt_int, envInt_int]; omega
    · obtain rfl : k = n := by omega
      try simp -dsimp only [↓RE,↓c_seq,RU,RL,if_true,if_false,forall_const,implies_true,Nat.reduceLeDiff,Nat.reduceLT,pureOp,binPure,intBin,strBin,eqPure,isConstO,unPure,sliceLo,sliceHi,slicePure,slice3Pure,lenPure,capPure,minPure,maxPure,buildP,resK,endV,yieldE,↓reduceIte,Nat.reduceEqDiff,reduceCtorEq,Nat.reduceAdd,Nat.reduceMul,Nat.reduceSub,Int.reduceLT,Int.reduceLE,Int.reduceToNat,Int.reduceAdd,Int.reduceSub,Int.reduceMul,ne_eq,decide_true,decide_false,tf7, h12, h13, h14, h4, h5]
      refine hold_intro ⟨s1, s2, ?_, ?_, hT⟩
      · simp -dsimp only [↓RE,RU,RL,if_true,if_false,↓reduceIte,Nat.reduceEqDiff,reduceCtorEq,decide_true,decide_false, h4]
      · simp -dsimp only [↓RE,RU,RL,if_true,if_false,↓reduceIte,Nat.reduceEqDiff,reduceCtorEq,decide_true,decide_false, h5]
  · rintro e w1 ⟨s1, s2, he4, he5, hT⟩
    have htk : l.take n = l := List.take_of_length_le (by omega)
    have hOt := hT.t
    have hOv := hT.v
    have hg1 := hT.grow
    rw [htk] at hOt hOv
    obtain ⟨A1, c1, rfl, _, _⟩ := own_form hOt
    obtain ⟨A2, c2, rfl, _, _⟩ := own_form hOv
    have hRt := Rd.of_own hOt
    have hRv := Rd.of_own hOv
    have hs1 := hg1.size
    try simp -dsimp only [↓RE,↓c_seq,RU,RL,if_true,if_false,forall_const,implies_true,Nat.reduceLeDiff,Nat.reduceLT,pureOp,binPure,intBin,strBin,eqPure,isConstO,unPure,sliceLo,sliceHi,slicePure,slice3Pure,lenPure,capPure,minPure,maxPure,buildP,resK,endV,yieldE,↓reduceIte,Nat.reduceEqDiff,reduceCtorEq,Nat.reduceAdd,Nat.reduceMul,Nat.reduceSub,Int.reduceLT,Int.reduceLE,Int.reduceToNat,Int.reduceAdd,Int.reduceSub,Int.reduceMul,ne_eq,decide_true,decide_false,tf7, he4, he5]
    refine times_ok hRt (sok_tms hl0) (by omega) (fun er w3 hte g3 => ?_) (fun hte w3 A3 c3 hO3 g3 hF3 => ?_)
    · try simp -dsimp only [↓RE,↓c_seq,RU,RL,if_true,if_false,forall_const,implies_true,Nat.reduceLeDiff,Nat.reduceLT,pureOp,binPure,intBin,strBin,eqPure,isConstO,unPure,sliceLo,sliceHi,slicePure,slice3Pure,lenPure,capPure,minPure,maxPure,buildP,resK,endV,yieldE,↓reduceIte,Nat.reduceEqDiff,reduceCtorEq,Nat.reduceAdd,Nat.reduceMul,Nat.reduceSub,Int.reduceLT,Int.reduceLE,Int.reduceToNat,Int.reduceAdd,Int.reduceSub,Int.reduceMul,ne_eq,decide_true,decide_false,tf7, he4, he5]
      exact herr er w3 (pErr_t hte) (hg1.trans g3)
    try simp -dsimp only [↓RE,↓c_seq,RU,RL,if_true,if_false,forall_const,implies_true,Nat.reduceLeDiff,Nat.reduceLT,pureOp,binPure,intBin,strBin,eqPure,isConstO,unPure,sliceLo,sliceHi,slicePure,slice3Pure,lenPure,capPure,minPure,maxPure,buildP,resK,endV,yieldE,↓reduceIte,Nat.reduceEqDiff,reduceCtorEq,Nat.reduceAdd,Nat.reduceMul,Nat.reduceSub,Int.reduceLT,Int.reduceLE,Int.reduceToNat,Int.reduceAdd,Int.reduceSub,Int.reduceMul,ne_eq,decide_true,decide_false,tf7, he4, he5]
    refine values_ok (hRv.grow g3) (sok_vls hl0) (by omega) (fun er w4 hve g4 => ?_) (fun hve w4 A4 c4 hO4 g4 hF4 => ?_)
    · try simp -dsimp only [↓RE,↓c_seq,RU,RL,if_true,if_false,forall_const,implies_true,Nat.reduceLeDiff,Nat.reduceLT,pureOp,binPure,intBin,strBin,eqPure,isConstO,unPure,sliceLo,sliceHi,slicePure,slice3Pure,lenPure,capPure,minPure,maxPure,buildP,resK,endV,yieldE,↓reduceIte,Nat.reduceEqDiff,reduceCtorEq,Nat.reduceAdd,Nat.reduceMul,Nat.reduceSub,Int.reduceLT,Int.reduceLE,Int.reduceToNat,Int.reduceAdd,Int.reduceSub,Int.reduceMul,ne_eq,decide_true,decide_false,tf7, he4, he5]
      exact herr er w4 ((pErr_v hte).trans hve) ((hg1.trans g3).trans g4)
    have hpe : pErr l = none := (pErr_v hte).trans hve
    have hln : l.length ≤ 1048576 := by have := tErr_none hte; rwa [tms_len] at this
    have hpl := pOut_len hln hl0
    have hp : pOut l = rawB (tW (tms l) n).1 ++ rawB (vS (vls l) n).q.1 := by rw [pOut, hl]
    have hg4 := (hg1.trans g3).trans g4
    have hs4 := hg4.size
    have hs3 := (hg1.trans g3).size
    rw [hp] at h hpl
    simp only [rawB, List.length_append] at hpl
    generalize (tW (tms l) n).1 = Z1 at *
    generalize (vS (vls l) n).q.1 = Z2 at *
    have hR3 := (Rd.of_own hO3).grow g4
    have hR4 := Rd.of_own hO4
    have hB1 := Blk.new' w4 65 #[.slice none 0 0, .int .i64 0]
    have ga := Grow.alloc w4 (.cells #[.slice none 0 0, .int .i64 0] 65)
    have hW0 : WAt 65 (w4.alloc (.cells #[.slice none 0 0, .int .i64 0] 65)) (fun k => k = w4.heap.size ∨ fpV (.slice none 0 0) k) w4.heap.size [] 0 := ⟨_, hB1, own_nil _ _ _, rfl⟩
    have hge : ∀ k, (k = w4.heap.size ∨ fpV (.slice none 0 0) k) → w4.heap.size ≤ k := by
      rintro k (rfl | hk)
      · exact Nat.le_refl _
      · exact absurd hk (fpV_none _)
    try simp -dsimp only [↓RE,↓c_seq,RU,RL,if_true,if_false,forall_const,implies_true,Nat.reduceLeDiff,Nat.reduceLT,pureOp,binPure,intBin,strBin,eqPure,isConstO,unPure,sliceLo,sliceHi,slicePure,slice3Pure,lenPure,capPure,minPure,maxPure,buildP,resK,endV,yieldE,↓reduceIte,Nat.reduceEqDiff,reduceCtorEq,Nat.reduceAdd,Nat.reduceMul,Nat.reduceSub,Int.reduceLT,Int.reduceLE,Int.reduceToNat,Int.reduceAdd,Int.reduceSub,Int.reduceMul,ne_eq,decide_true,decide_false,tf7, he4, he5]
    refine raw_ok hW0 (hR3.grow ga) (fun h0 k hk hf => by have := hR3.lt h0 (by omega) k hk; have := hge k hf; omega) (by simp only [List.length_nil]; omega) (fun w5 F5 hW5 hS5 => ?_)
    have hF5 : ∀ k, F5 k → w4.heap.size ≤ k := fun k hk => (hS5.sub k hk).elim (hge k) (fun q => by have := ga.size; omega)
    have g5 : Grow w4 w5 := ga.above hS5.keep (fun i hi hf => absurd (hge i hf) (by omega))
    try simp -dsimp only [↓RE,↓c_seq,RU,RL,if_true,if_false,forall_const,implies_true,Nat.reduceLeDiff,Nat.reduceLT,pureOp,binPure,intBin,strBin,eqPure,isConstO,unPure,sliceLo,sliceHi,slicePure,slice3Pure,lenPure,capPure,minPure,maxPure,buildP,resK,endV,yieldE,↓reduceIte,Nat.reduceEqDiff,reduceCtorEq,Nat.reduceAdd,Nat.reduceMul,Nat.reduceSub,Int.reduceLT,Int.reduceLE,Int.reduceToNat,Int.reduceAdd,Int.reduceSub,Int.reduceMul,ne_eq,decide_true,decide_false,tf7, he4, he5]
    refine raw_ok hW5 (hR4.grow g5) (fun h0 k hk hf => by have := hR4.lt h0 (by omega) k hk; have := hF5 k hf; omega) (by simp only [List.length_nil, List.nil_append, List.length_append]; omega) (fun w6 F6 hW6 hS6 => ?_)
    have hF6 : ∀ k, F6 k → w4.heap.size ≤ k := fun k hk => (hS6.sub k hk).elim (hF5 k) (fun q => by have := g5.size; omega)
    have g6 : Grow w4 w6 := g5.above hS6.keep (fun i hi hf => absurd (hF5 i hf) (by omega))
    try simp -dsimp only [↓RE,↓c_seq,RU,RL,if_true,if_false,forall_const,implies_true,Nat.reduceLeDiff,Nat.reduceLT,pureOp,binPure,intBin,strBin,eqPure,isConstO,unPure,sliceLo,sliceHi,slicePure,slice3Pure,lenPure,capPure,minPure,maxPure,buildP,resK,endV,yieldE,↓reduceIte,Nat.reduceEqDiff,reduceCtorEq,Nat.reduceAdd,Nat.reduceMul,Nat.reduceSub,Int.reduceLT,Int.reduceLE,Int.reduceToNat,Int.reduceAdd,Int.reduceSub,Int.reduceMul,ne_eq,decide_true,decide_false,tf7, he4, he5]
    refine bytes_ok hW6 (by simp only [List.length_nil, List.nil_append, List.length_append]; omega) (fun w7 A7 c7 hO7 g7 hF7 => ?_)
    try simp -dsimp only [↓RE,↓c_seq,RU,RL,if_true,if_false,forall_const,implies_true,Nat.reduceLeDiff,Nat.reduceLT,pureOp,binPure,intBin,strBin,eqPure,isConstO,unPure,sliceLo,sliceHi,slicePure,slice3Pure,lenPure,capPure,minPure,maxPure,buildP,resK,endV,yieldE,↓reduceIte,Nat.reduceEqDiff,reduceCtorEq,Nat.reduceAdd,Nat.reduceMul,Nat.reduceSub,Int.reduceLT,Int.reduceLE,Int.reduceToNat,Int.reduceAdd,Int.reduceSub,Int.reduceMul,ne_eq,decide_true,decide_false,tf7, he4, he5]
    exact h hpe w7 A7 c7 (by simpa [rawB] using hO7) ((hg4.trans g6).trans g7) (fun k hk => by have := hF7 k hk; have := g6.size; omega)

end Go.Proofs.Ytpocfghkolppmaa
