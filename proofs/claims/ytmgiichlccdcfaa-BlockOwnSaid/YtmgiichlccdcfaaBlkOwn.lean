/- The law BlockOwn, walked. -/
import Derived.Test.YtmgiichlccdcfaaTakes
import Derived.Test.YtmgiichlccdcfaaUnpack
import Derived.Test.YtmgiichlccdcfaaLive9
set_option linter.unusedVariables false
set_option linter.unusedSimpArgs false
set_option maxRecDepth 100000
namespace Go.Proofs.Ytmgiichlccdcfaa
open Go

theorem none_fp {k : Nat} (h : fpA none k) : False := by obtain ⟨ad, h, _⟩ := h; cases h
theorem times_any {w : World} {A : Option Addr} {n c : Nat} {l : List Int} (hR : Rd w A n 1 (l.map (Value.int .i64))) (hl0 : ∀ z ∈ l, -9223372036854775808 ≤ z ∧ z < 9223372036854775808) (hn : n ≤ 140737488355328) {R : VWK}
    (h : ∀ w' A' n' c' (Z : List Int) ev, w'.ownsRow 0 5 1 (.slice A' n' c') n' (Z.map (Value.int .u8)) → (∀ z ∈ Z, 0 ≤ z ∧ z < 256) → n' ≤ 134217728 → Grow w w' → (∀ k, fpA A' k → w.heap.size ≤ k) → R (.tuple #[.slice A' n' c', ev]) w') :
    CallsV Try.prog 14 [.slice A n c] w R :=
  times_ok hR hl0 hn (fun er w' _ g => h w' none 0 0 [] _ (own_nil _ _ _) (by simp) (by omega) g (fun k hk => (none_fp hk).elim)) (fun hte w' A' c' hO g hF => by
    have hl := hR.len1
    have h1 := tW_len (tErr_none hte) hl0 n
    have := tErr_none hte
    exact h w' A' _ c' _ _ hO (tW_ok l n).2.1 (by omega) g hF)
theorem values_any {w : World} {A : Option Addr} {n c : Nat} {l : List (Int × Int)} (hR : Rd w A n 2 (l.flatMap vcells)) (hl0 : ∀ v ∈ l, VOk v) (hn : n ≤ 140737488355328) {R : VWK}
    (h : ∀ w' A' n' c' (Z : List Int) ev, w'.ownsRow 0 5 1 (.slice A' n' c') n' (Z.map (Value.int .u8)) → (∀ z ∈ Z, 0 ≤ z ∧ z < 256) → n' ≤ 134217728 → Grow w w' → (∀ k, fpA A' k → w.heap.size ≤ k) → R (.tuple #[.slice A' n' c', ev]) w') :
    CallsV Try.prog 15 [.slice A n c] w R :=
  values_ok hR hl0 hn (fun er w' _ g => h w' none 0 0 [] _ (own_nil _ _ _) (by simp) (by omega) g (fun k hk => (none_fp hk).elim)) (fun hte w' A' c' hO g hF => by
    have hl := hR.flat2
    have h1 := vS_len (vErr_none hte) n
    have := vErr_none hte
    exact h w' A' _ c' _ _ hO (vS_ok l n).2.1 (by omega) g hF)
theorem pack_any {w : World} {A : Option Addr} {n c : Nat} {l : List (Int × Int × Int)} (hR : Rd w A n 3 (l.flatMap scells)) (hl0 : ∀ s ∈ l, SOk s) (hn : n ≤ 8796093021952) {R : VWK}
    (h : ∀ w' A' n' c' (Z : List Int) ev, w'.ownsRow 0 5 1 (.slice A' n' c') n' (Z.map (Value.int .u8)) → (∀ z ∈ Z, 0 ≤ z ∧ z < 256) → n' ≤ 268435456 → Grow w w' → (∀ k, fpA A' k → w.heap.size ≤ k) → R (.tuple #[.slice A' n' c', ev]) w') :
    CallsV Try.prog 9 [.slice A n c] w R :=
  pack_ok hR hl0 hn (fun er w' _ g => h w' none 0 0 [] _ (own_nil _ _ _) (by simp) (by omega) g (fun k hk => (none_fp hk).elim)) (fun hpe w' A' c' hO g hF => by
    have hln : l.length ≤ 1048576 := by have := tErr_none (pErr_none hpe).1; rwa [tms_len] at this
    have := pOut_len hln hl0
    exact h w' A' _ c' _ _ hO (fun z hz => (List.mem_append.1 hz).elim (fun hz => (List.mem_append.1 hz).elim (uvar_byte _ z) ((tW_ok (tms l) l.length).2.1 z)) (fun hz => (List.mem_append.1 hz).elim (uvar_byte _ z) ((vS_ok (vls l) l.length).2.1 z))) (by omega) g hF)
theorem untimes_any {w : World} {A : Option Addr} {n c : Nat} {b : List Int} (hR : Rd w A n 1 (b.map (Value.int .u8))) (hb : ∀ z ∈ b, 0 ≤ z ∧ z < 256) (hn : n ≤ 140737488355328) {R : VWK}
    (h : ∀ w' A' n' c' (xs : List Value) ev, w'.ownsRow 0 2 1 (.slice A' n' c') n' xs → n' ≤ 1048576 → Grow w w' → (∀ k, fpA A' k → w.heap.size ≤ k) → R (.tuple #[.slice A' n' c', ev]) w') :
    CallsV Try.prog 16 [.slice A n c] w R :=
  untimes_ok hR hb hn (fun x w' _ g => h w' none 0 0 [] _ (own_nil _ _ _) (by omega) g (fun k hk => (none_fp hk).elim)) (fun w' _ _ g => h w' none 0 0 [] _ (own_nil _ _ _) (by omega) g (fun k hk => (none_fp hk).elim))
    (fun _ _ w' A' c' hO g hF => h w' A' _ c' _ _ hO (uT_len b) g hF)
theorem unpack_any {w : World} {A : Option Addr} {n c : Nat} {b : List Int} (hR : Rd w A n 1 (b.map (Value.int .u8))) (hb : ∀ z ∈ b, 0 ≤ z ∧ z < 256) (hn : n ≤ 140737488355328) {R : VWK}
    (h : ∀ w' A' n' c' (xs : List Value) ev, w'.ownsRow 0 28 3 (.slice A' n' c') n' xs → n' ≤ 1048576 → Grow w w' → (∀ k, fpA A' k → w.heap.size ≤ k) → R (.tuple #[.slice A' n' c', ev]) w') :
    CallsV Try.prog 11 [.slice A n c] w R :=
  unpack_ok hR hb hn (fun x w' _ g => h w' none 0 0 [] _ (own_nil _ _ _) (by omega) g (fun k hk => (none_fp hk).elim))
    (fun _ w' A' c' hO g hF => h w' A' _ c' _ _ hO (by have := uT_len (kX b); unfold uPl; rw [List.length_zip]; omega) g hF)

theorem bown_walk {w : World} {A : Option Addr} {n c : Nat} {l : List (Int × Int × Int)} (hR : Rd w A n 3 (l.flatMap scells)) (hl0 : ∀ z ∈ l, SOk z) (hn : n ≤ 5864062014634)
    {R : VWK} (h : ∀ w', Grow w w' → R (.bool true) w') : CallsV Try.prog 7 [.slice A n c] w R := by
  have hl := hR.flat3
  have hbb : Blk (w.alloc (.cells (bkCells (.slice none 0 0) (.slice none 0 0) (.slice none 0 0)).toArray 76)) w.heap.size 76 (bkCells (.slice none 0 0) (.slice none 0 0) (.slice none 0 0)) := Blk.new _ _ _
  have gB := Grow.alloc w (.cells (bkCells (.slice none 0 0) (.slice none 0 0) (.slice none 0 0)).toArray 76)
  generalize hwB : w.alloc (.cells (bkCells (.slice none 0 0) (.slice none 0 0) (.slice none 0 0)).toArray 76) = wB at hbb gB
  have hBk0 : Bk w wB w.heap.size [] [] [] (.slice none 0 0) (.slice none 0 0) (.slice none 0 0) (fun _ => []) (fun _ => []) (fun _ => []) :=
    ⟨hbb, own_nil _ _ _, own_nil _ _ _, own_nil _ _ _, Held.nil _ _ _ _ _, Held.nil _ _ _ _ _, Held.nil _ _ _ _ _, Nat.le_refl _, fun k q => by rcases q with q | q | q <;> exact absurd q (fpV_none k), fun k q => by rcases q with ⟨v, hv, _⟩ | ⟨v, hv, _⟩ | ⟨v, hv, _⟩ <;> cases hv⟩
  refine calls_of_wpC mixed Try.func7 rfl (by kernel_rfl) ?_
  intro e he
  have he0 := he 0
  simp only [List.getD_cons_zero, List.getD_cons_succ] at he0
  clear he
  rw [c_seq]
  simp -dsimp only [↓RE,RU,RL,if_true,if_false,forall_const,implies_true,Nat.reduceLeDiff,Nat.reduceLT,pureOp,binPure,intBin,strBin,eqPure,isConstO,unPure,sliceLo,sliceHi,slicePure,lenPure,minPure,maxPure,buildP,resK,endV,yieldE,↓reduceIte,Nat.reduceEqDiff,reduceCtorEq,Nat.reduceAdd,Nat.reduceMul,Nat.reduceSub,Int.reduceLT,Int.reduceLE,Int.reduceToNat,Int.reduceAdd,Int.reduceSub,Int.reduceMul,ne_eq,decide_true,decide_false,tf7, he0]
  rw [c_seq]
  simp -dsimp only [↓RE,RU,RL,if_true,if_false,forall_const,implies_true,Nat.reduceLeDiff,Nat.reduceLT,pureOp,binPure,intBin,strBin,eqPure,isConstO,unPure,sliceLo,sliceHi,slicePure,lenPure,minPure,maxPure,buildP,resK,endV,yieldE,↓reduceIte,Nat.reduceEqDiff,reduceCtorEq,Nat.reduceAdd,Nat.reduceMul,Nat.reduceSub,Int.reduceLT,Int.reduceLE,Int.reduceToNat,Int.reduceAdd,Int.reduceSub,Int.reduceMul,ne_eq,decide_true,decide_false,tf7, he0]
  have hwB' : w.alloc (.cells #[.slice none 0 0, .slice none 0 0, .slice none 0 0, .slice none 0 0, .slice none 0 0, .slice none 0 0, .slice none 0 0, .slice none 0 0, .slice none 0 0, .slice none 0 0, .slice none 0 0, .slice none 0 0, .slice none 0 0, .slice none 0 0, .slice none 0 0, .slice none 0 0, .slice none 0 0, .slice none 0 0, .slice none 0 0, .slice none 0 0, .slice none 0 0, .slice none 0 0, .slice none 0 0, .slice none 0 0, .slice none 0 0, .slice none 0 0, .slice none 0 0, .slice none 0 0] 76) = wB := hwB
  rw [c_seq]
  simp -dsimp only [↓RE,RU,RL,if_true,if_false,forall_const,implies_true,Nat.reduceLeDiff,Nat.reduceLT,pureOp,binPure,intBin,strBin,eqPure,isConstO,unPure,sliceLo,sliceHi,slicePure,lenPure,minPure,maxPure,buildP,resK,endV,yieldE,↓reduceIte,Nat.reduceEqDiff,reduceCtorEq,Nat.reduceAdd,Nat.reduceMul,Nat.reduceSub,Int.reduceLT,Int.reduceLE,Int.reduceToNat,Int.reduceAdd,Int.reduceSub,Int.reduceMul,ne_eq,decide_true,decide_false,tf7, he0, hwB']
  rw [c_seq]
  simp -dsimp only [↓RE,RU,RL,if_true,if_false,forall_const,implies_true,Nat.reduceLeDiff,Nat.reduceLT,pureOp,binPure,intBin,strBin,eqPure,isConstO,unPure,sliceLo,sliceHi,slicePure,lenPure,minPure,maxPure,buildP,resK,endV,yieldE,↓reduceIte,Nat.reduceEqDiff,reduceCtorEq,Nat.reduceAdd,Nat.reduceMul,Nat.reduceSub,Int.reduceLT,Int.reduceLE,Int.reduceToNat,Int.reduceAdd,Int.reduceSub,Int.reduceMul,ne_eq,decide_true,decide_false,tf7, he0, hwB']
  refine c_seq_cut (fun e' w' => ∃ s1 s2, e' 0 = .slice A n c ∧ e' 3 = .pointer (some ⟨w.heap.size, 0, none⟩) ∧ e' 4 = s1 ∧ e' 5 = s2 ∧ TV wB l n s1 s2 w') ?_ ?_
  · try simp -dsimp only [↓RE,↓c_seq,RU,RL,if_true,if_false,forall_const,implies_true,Nat.reduceLeDiff,Nat.reduceLT,pureOp,binPure,intBin,strBin,eqPure,isConstO,unPure,sliceLo,sliceHi,slicePure,lenPure,minPure,maxPure,buildP,resK,endV,yieldE,↓reduceIte,Nat.reduceEqDiff,reduceCtorEq,Nat.reduceAdd,Nat.reduceMul,Nat.reduceSub,Int.reduceLT,Int.reduceLE,Int.reduceToNat,Int.reduceAdd,Int.reduceSub,Int.reduceMul,ne_eq,decide_true,decide_false,tf7, he0, hwB']
    refine wpLoop_intro (fun e' w' => e' 0 = .slice A n c ∧ e' 3 = .pointer (some ⟨w.heap.size, 0, none⟩) ∧ ∃ (k : Nat) (s1 s2 : Value), k ≤ n ∧ e' 6 = .int .i64 k ∧ e' 4 = s1 ∧ e' 5 = s2 ∧ TV wB l k s1 s2 w')
      (fun e' _ => n - (envInt (e' 6)).toNat) ⟨?_, ?_, 0, .slice none 0 0, .slice none 0 0, Nat.zero_le _, ?_, ?_, ?_, TV.nil wB l⟩ ?_
    · simp -dsimp only [↓RE,RU,RL,if_true,if_false,↓reduceIte,Nat.reduceEqDiff,reduceCtorEq,decide_true,decide_false, he0]
    · simp -dsimp only [↓RE,RU,RL,if_true,if_false,↓reduceIte,Nat.reduceEqDiff,reduceCtorEq,decide_true,decide_false, he0]
    · simp -dsimp only [↓RE,RU,RL,if_true,if_false,↓reduceIte,Nat.reduceEqDiff,reduceCtorEq,decide_true,decide_false, he0, Int.cast_ofNat_Int]
    · simp -dsimp only [↓RE,RU,RL,if_true,if_false,↓reduceIte,Nat.reduceEqDiff,reduceCtorEq,decide_true,decide_false, he0]
    · simp -dsimp only [↓RE,RU,RL,if_true,if_false,↓reduceIte,Nat.reduceEqDiff,reduceCtorEq,decide_true,decide_false, he0]
    rintro e' w' ⟨h0, h3, k, s1, s2, hk, h6, h4, h5, hT⟩
    try simp -dsimp only [↓RE,↓c_seq,RU,RL,if_true,if_false,forall_const,implies_true,Nat.reduceLeDiff,Nat.reduceLT,pureOp,binPure,intBin,strBin,eqPure,isConstO,unPure,sliceLo,sliceHi,slicePure,lenPure,minPure,maxPure,buildP,resK,endV,yieldE,↓reduceIte,Nat.reduceEqDiff,reduceCtorEq,Nat.reduceAdd,Nat.reduceMul,Nat.reduceSub,Int.reduceLT,Int.reduceLE,Int.reduceToNat,Int.reduceAdd,Int.reduceSub,Int.reduceMul,ne_eq,decide_true,decide_false,tf7, h0, h3, h6, h4, h5]
    refine ⟨fun hlt => ?_, fun hge => ?_⟩
    · obtain ⟨ad, hA, hca, hcv, hcs⟩ := ((hR.grow gB).grow hT.grow).smp (k := k) (by omega)
      subst hA
      generalize hx : l.getD k (0, 0, 0) = x at *
      try simp -dsimp only [↓RE,↓c_seq,RU,RL,if_true,if_false,forall_const,implies_true,Nat.reduceLeDiff,Nat.reduceLT,pureOp,binPure,intBin,strBin,eqPure,isConstO,unPure,sliceLo,sliceHi,slicePure,lenPure,minPure,maxPure,buildP,resK,endV,yieldE,↓reduceIte,Nat.reduceEqDiff,reduceCtorEq,Nat.reduceAdd,Nat.reduceMul,Nat.reduceSub,Int.reduceLT,Int.reduceLE,Int.reduceToNat,Int.reduceAdd,Int.reduceSub,Int.reduceMul,ne_eq,decide_true,decide_false,tf7, h0, h3, h6, h4, h5, Int.toNat_natCast, hca]
      refine ⟨⟨by omega, by omega⟩, ?_⟩
      try simp -dsimp only [↓RE,↓c_seq,RU,RL,if_true,if_false,forall_const,implies_true,Nat.reduceLeDiff,Nat.reduceLT,pureOp,binPure,intBin,strBin,eqPure,isConstO,unPure,sliceLo,sliceHi,slicePure,lenPure,minPure,maxPure,buildP,resK,endV,yieldE,↓reduceIte,Nat.reduceEqDiff,reduceCtorEq,Nat.reduceAdd,Nat.reduceMul,Nat.reduceSub,Int.reduceLT,Int.reduceLE,Int.reduceToNat,Int.reduceAdd,Int.reduceSub,Int.reduceMul,ne_eq,decide_true,decide_false,tf7, h0, h3, h6, h4, h5, Int.toNat_natCast, add_zero', hca]
      have hb1 := Blk.new' w' 2 #[.int .i64 x.1]
      have ga1 := Grow.alloc w' (.cells #[.int .i64 x.1] 2)
      have hr1 : Rd (w'.alloc (.cells #[.int .i64 x.1] 2)) (some ⟨w'.heap.size, 0, none⟩) 1 1 (([x.1] : List Int).map (Value.int .i64)) := Rd.of_cells _ _ _ _ _ hb1 rfl
      have hlt := own_lt hT.t
      have hlv := own_lt hT.v
      have hsw := hT.grow.size
      refine appK_own (m := 1) (bytes := 8) (by kernel_rfl) (own_grow hT.t ga1) hr1 (ints_one _ _) (by show k + 1 ≤ maxLen; simp only [maxLen]; omega) (by show (k + 1) * 8 ≤ 140737488355328; omega) (fun A3 c3 w3 hO3 hK3 hF3 => ?_)
      have hV3 := own_keep (own_grow hT.v ga1) hK3 (own_ne hT.v hT.t (by decide))
      have g3 : Grow wB w3 := (hT.grow.trans ga1).above hK3 (fun i hi hf => absurd (hT.ft i hf) (by omega))
      have hT3 : w3.ownsRow 0 2 1 (.slice A3 (k + 1) c3) (k + 1) ((tms (l.take (k + 1))).map (Value.int .i64)) := by
        rw [tms_snoc (by omega), hx, List.map_append]; exact hO3
      have hF3' : ∀ i, fpV (.slice A3 (k + 1) c3) i → wB.heap.size ≤ i := fun i hi => (hF3 i hi).elim (hT.ft i) (fun q => by have := ga1.size; omega)
      try simp -dsimp only [↓RE,↓c_seq,RU,RL,if_true,if_false,forall_const,implies_true,Nat.reduceLeDiff,Nat.reduceLT,pureOp,binPure,intBin,strBin,eqPure,isConstO,unPure,sliceLo,sliceHi,slicePure,lenPure,minPure,maxPure,buildP,resK,endV,yieldE,↓reduceIte,Nat.reduceEqDiff,reduceCtorEq,Nat.reduceAdd,Nat.reduceMul,Nat.reduceSub,Int.reduceLT,Int.reduceLE,Int.reduceToNat,Int.reduceAdd,Int.reduceSub,Int.reduceMul,ne_eq,decide_true,decide_false,tf7, h0, h3, h6, h4, h5, Int.toNat_natCast, add_zero']
      refine ⟨⟨by omega, by omega⟩, ?_⟩
      obtain ⟨ad', hA', _, hcv', _⟩ := ((hR.grow gB).grow g3).smp (k := k) (by omega)
      injection hA' with hA'
      subst hA'
      rw [hx] at hcv'
      refine hcv' ?_
      have hb4 := Blk.new' w3 26 #[.int .u8 x.2.1, .int .i64 x.2.2]
      have ga4 := Grow.alloc w3 (.cells #[.int .u8 x.2.1, .int .i64 x.2.2] 26)
      have hr4 : Rd (w3.alloc (.cells #[.int .u8 x.2.1, .int .i64 x.2.2] 26)) (some ⟨w3.heap.size, 0, none⟩) 1 2 (([x.2] : List (Int × Int)).flatMap vcells) := Rd.of_blk hb4 rfl
      try simp -dsimp only [↓RE,↓c_seq,RU,RL,if_true,if_false,forall_const,implies_true,Nat.reduceLeDiff,Nat.reduceLT,pureOp,binPure,intBin,strBin,eqPure,isConstO,unPure,sliceLo,sliceHi,slicePure,lenPure,minPure,maxPure,buildP,resK,endV,yieldE,↓reduceIte,Nat.reduceEqDiff,reduceCtorEq,Nat.reduceAdd,Nat.reduceMul,Nat.reduceSub,Int.reduceLT,Int.reduceLE,Int.reduceToNat,Int.reduceAdd,Int.reduceSub,Int.reduceMul,ne_eq,decide_true,decide_false,tf7, h0, h3, h6, h4, h5]
      refine appK_own (m := 1) (bytes := 16) (by kernel_rfl) (own_grow hV3 ga4) hr4 (vcells_one _) (by show k + 1 ≤ maxLen; simp only [maxLen]; omega) (by show (k + 1) * 16 ≤ 140737488355328; omega) (fun A5 c5 w5 hO5 hK5 hF5 => ?_)
      have g5 : Grow wB w5 := (g3.trans ga4).above hK5 (fun i hi hf => absurd (hT.fv i hf) (by omega))
      have hV5 : w5.ownsRow 0 26 2 (.slice A5 (k + 1) c5) (k + 1) ((vls (l.take (k + 1))).flatMap vcells) := by
        rw [vls_snoc (by omega), hx, List.flatMap_append]; exact hO5
      have hF5' : ∀ i, fpV (.slice A5 (k + 1) c5) i → wB.heap.size ≤ i := fun i hi => (hF5 i hi).elim (hT.fv i) (fun q => by have := g3.size; have := ga4.size; omega)
      have hT5 := own_keep (own_grow hT3 ga4) hK5 (own_ne hT3 hV3 (by decide))
      try simp -dsimp only [↓RE,↓c_seq,RU,RL,if_true,if_false,forall_const,implies_true,Nat.reduceLeDiff,Nat.reduceLT,pureOp,binPure,intBin,strBin,eqPure,isConstO,unPure,sliceLo,sliceHi,slicePure,lenPure,minPure,maxPure,buildP,resK,endV,yieldE,↓reduceIte,Nat.reduceEqDiff,reduceCtorEq,Nat.reduceAdd,Nat.reduceMul,Nat.reduceSub,Int.reduceLT,Int.reduceLE,Int.reduceToNat,Int.reduceAdd,Int.reduceSub,Int.reduceMul,ne_eq,decide_true,decide_false,tf7, h0, h3, h6, h4, h5]
      refine hold_intro ⟨⟨?_, ?_, k + 1, .slice A3 (k + 1) c3, .slice A5 (k + 1) c5, by omega, ?_, ?_, ?_, hT5, hV5, hF3', hF5', g5⟩, ?_⟩
      · simp -dsimp only [↓RE,RU,RL,if_true,if_false,↓reduceIte,Nat.reduceEqDiff,reduceCtorEq,decide_true,decide_false, h0]
      · simp -dsimp only [↓RE,RU,RL,if_true,if_false,↓reduceIte,Nat.reduceEqDiff,reduceCtorEq,decide_true,decide_false, h3]
      · simp -dsimp only [↓RE,RU,RL,if_true,if_false,↓reduceIte,Nat.reduceEqDiff,reduceCtorEq,decide_true,decide_false, h6]
        rw [wrap_i64_in (by omega) (by omega)]; rfl
      · simp -dsimp only [↓RE,RU,RL,if_true,if_false,↓reduceIte,Nat.reduceEqDiff,reduceCtorEq,decide_true,decide_false, h4]
      · simp -dsimp only [↓RE,RU,RL,if_true,if_false,↓reduceIte,Nat.reduceEqDiff,reduceCtorEq,decide_true,decide_false, h5]
      · simp -dsimp only [↓RE,RU,RL,if_true,if_false,↓reduceIte,Nat.reduceEqDiff,reduceCtorEq,decide_true,decide_false, h6]
        rw [wrap_i64_in (by omega) (by omega), envInt_int, envInt_int]; omega
    · obtain rfl : k = n := by omega
      try simp -dsimp only [↓RE,↓c_seq,RU,RL,if_true,if_false,forall_const,implies_true,Nat.reduceLeDiff,Nat.reduceLT,pureOp,binPure,intBin,strBin,eqPure,isConstO,unPure,sliceLo,sliceHi,slicePure,lenPure,minPure,maxPure,buildP,resK,endV,yieldE,↓reduceIte,Nat.reduceEqDiff,reduceCtorEq,Nat.reduceAdd,Nat.reduceMul,Nat.reduceSub,Int.reduceLT,Int.reduceLE,Int.reduceToNat,Int.reduceAdd,Int.reduceSub,Int.reduceMul,ne_eq,decide_true,decide_false,tf7, h0, h3, h6, h4, h5]
      refine hold_intro ⟨s1, s2, ?_, ?_, ?_, ?_, hT⟩
      · simp -dsimp only [↓RE,RU,RL,if_true,if_false,↓reduceIte,Nat.reduceEqDiff,reduceCtorEq,decide_true,decide_false, h0]
      · simp -dsimp only [↓RE,RU,RL,if_true,if_false,↓reduceIte,Nat.reduceEqDiff,reduceCtorEq,decide_true,decide_false, h3]
      · simp -dsimp only [↓RE,RU,RL,if_true,if_false,↓reduceIte,Nat.reduceEqDiff,reduceCtorEq,decide_true,decide_false, h4]
      · simp -dsimp only [↓RE,RU,RL,if_true,if_false,↓reduceIte,Nat.reduceEqDiff,reduceCtorEq,decide_true,decide_false, h5]
  rintro e1 w1 ⟨s1, s2, he0, he3, he4, he5, hT⟩
  have htk : l.take n = l := List.take_of_length_le (by omega)
  have hOt := hT.t
  have hOv := hT.v
  rw [htk] at hOt hOv
  obtain ⟨A1, c1, rfl, _, _⟩ := own_form hOt
  obtain ⟨A2, c2, rfl, _, _⟩ := own_form hOv
  have hBk1 := hBk0.grow hT.grow
  have g1 := gB.trans hT.grow
  have hit := sok_tms hl0
  have hiv := sok_vls hl0
  generalize tms l = ts at *
  generalize vls l = vl at *
  refine c_seq_cut (fun e' w' => e' 3 = .pointer (some ⟨w.heap.size, 0, none⟩) ∧ Grow w w' ∧ ∃ v0 v3 v7 z0 z3 z7 c0 c3 c7, Bk w w' w.heap.size v0 v3 v7 z0 z3 z7 c0 c3 c7 ∧ v0.length ≤ 6 ∧ v3.length ≤ 6 ∧ v7.length ≤ 6) ?_ ?_
  · try simp -dsimp only [↓RE,↓c_seq,RU,RL,if_true,if_false,forall_const,implies_true,Nat.reduceLeDiff,Nat.reduceLT,pureOp,binPure,intBin,strBin,eqPure,isConstO,unPure,sliceLo,sliceHi,slicePure,lenPure,minPure,maxPure,buildP,resK,endV,yieldE,↓reduceIte,Nat.reduceEqDiff,reduceCtorEq,Nat.reduceAdd,Nat.reduceMul,Nat.reduceSub,Int.reduceLT,Int.reduceLE,Int.reduceToNat,Int.reduceAdd,Int.reduceSub,Int.reduceMul,ne_eq,decide_true,decide_false,tf7, he0, he3, he4, he5]
    refine wpLoop_intro (fun e' w' => e' 0 = .slice A n c ∧ e' 3 = .pointer (some ⟨w.heap.size, 0, none⟩) ∧ e' 4 = .slice A1 n c1 ∧ e' 5 = .slice A2 n c2 ∧ Grow w w' ∧ w'.ownsRow 0 2 1 (.slice A1 n c1) n (ts.map (Value.int .i64)) ∧ w'.ownsRow 0 26 2 (.slice A2 n c2) n (vl.flatMap vcells) ∧
        ∃ (k : Nat) (v0 v3 v7 : List Value) (z0 z3 z7 : Value) (c0 c3 c7 : Nat → List Value), k ≤ 2 ∧ e' 7 = .int .i64 k ∧ Bk w w' w.heap.size v0 v3 v7 z0 z3 z7 c0 c3 c7 ∧ v0.length ≤ 3 * k ∧ v3.length ≤ k ∧ v7.length ≤ k)
      (fun e' _ => 2 - (envInt (e' 7)).toNat) ⟨?_, ?_, ?_, ?_, g1, hOt, hOv, 0, [], [], [], _, _, _, _, _, _, by omega, ?_, hBk1, by simp, by simp, by simp⟩ ?_
    · simp -dsimp only [↓RE,RU,RL,if_true,if_false,↓reduceIte,Nat.reduceEqDiff,reduceCtorEq,decide_true,decide_false, he0]
    · simp -dsimp only [↓RE,RU,RL,if_true,if_false,↓reduceIte,Nat.reduceEqDiff,reduceCtorEq,decide_true,decide_false, he3]
    · simp -dsimp only [↓RE,RU,RL,if_true,if_false,↓reduceIte,Nat.reduceEqDiff,reduceCtorEq,decide_true,decide_false, he4]
    · simp -dsimp only [↓RE,RU,RL,if_true,if_false,↓reduceIte,Nat.reduceEqDiff,reduceCtorEq,decide_true,decide_false, he5]
    · simp -dsimp only [↓RE,RU,RL,if_true,if_false,↓reduceIte,Nat.reduceEqDiff,reduceCtorEq,decide_true,decide_false, he0, Int.cast_ofNat_Int]
    rintro e2 w2 ⟨h0, h3, h4, h5, g2, hOt2, hOv2, k, v0, v3, v7, z0, z3, z7, c0, c3, c7, hk, h7, hBk, l0, l3, l7⟩
    try simp -dsimp only [↓RE,↓c_seq,RU,RL,if_true,if_false,forall_const,implies_true,Nat.reduceLeDiff,Nat.reduceLT,pureOp,binPure,intBin,strBin,eqPure,isConstO,unPure,sliceLo,sliceHi,slicePure,lenPure,minPure,maxPure,buildP,resK,endV,yieldE,↓reduceIte,Nat.reduceEqDiff,reduceCtorEq,Nat.reduceAdd,Nat.reduceMul,Nat.reduceSub,Int.reduceLT,Int.reduceLE,Int.reduceToNat,Int.reduceAdd,Int.reduceSub,Int.reduceMul,ne_eq,decide_true,decide_false,tf7, h0, h3, h4, h5, h7]
    refine ⟨fun hlt => ?_, fun hge => ?_⟩
    · have hs2 := g2.size
      try simp -dsimp only [↓RE,↓c_seq,RU,RL,if_true,if_false,forall_const,implies_true,Nat.reduceLeDiff,Nat.reduceLT,pureOp,binPure,intBin,strBin,eqPure,isConstO,unPure,sliceLo,sliceHi,slicePure,lenPure,minPure,maxPure,buildP,resK,endV,yieldE,↓reduceIte,Nat.reduceEqDiff,reduceCtorEq,Nat.reduceAdd,Nat.reduceMul,Nat.reduceSub,Int.reduceLT,Int.reduceLE,Int.reduceToNat,Int.reduceAdd,Int.reduceSub,Int.reduceMul,ne_eq,decide_true,decide_false,tf7, h0, h3, h4, h5, h7]
      refine times_any (Rd.of_own hOt2) hit (by omega) (fun wa Aa na ca Za ea oa ba na1 ga fa => ?_)
      try simp -dsimp only [↓RE,↓c_seq,RU,RL,if_true,if_false,forall_const,implies_true,Nat.reduceLeDiff,Nat.reduceLT,pureOp,binPure,intBin,strBin,eqPure,isConstO,unPure,sliceLo,sliceHi,slicePure,lenPure,minPure,maxPure,buildP,resK,endV,yieldE,↓reduceIte,Nat.reduceEqDiff,reduceCtorEq,Nat.reduceAdd,Nat.reduceMul,Nat.reduceSub,Int.reduceLT,Int.reduceLE,Int.reduceToNat,Int.reduceAdd,Int.reduceSub,Int.reduceMul,ne_eq,decide_true,decide_false,tf7, h0, h3, h4, h5, h7]
      refine values_any ((Rd.of_own hOv2).grow ga) hiv (by omega) (fun wb Ab nb cb Zb eb ob bb nb1 gb fb => ?_)
      try simp -dsimp only [↓RE,↓c_seq,RU,RL,if_true,if_false,forall_const,implies_true,Nat.reduceLeDiff,Nat.reduceLT,pureOp,binPure,intBin,strBin,eqPure,isConstO,unPure,sliceLo,sliceHi,slicePure,lenPure,minPure,maxPure,buildP,resK,endV,yieldE,↓reduceIte,Nat.reduceEqDiff,reduceCtorEq,Nat.reduceAdd,Nat.reduceMul,Nat.reduceSub,Int.reduceLT,Int.reduceLE,Int.reduceToNat,Int.reduceAdd,Int.reduceSub,Int.reduceMul,ne_eq,decide_true,decide_false,tf7, h0, h3, h4, h5, h7]
      refine pack_any (((hR.grow g2).grow ga).grow gb) hl0 (by omega) (fun wc Ac nc cc Zc ec oc bc nc1 gc fc => ?_)
      try simp -dsimp only [↓RE,↓c_seq,RU,RL,if_true,if_false,forall_const,implies_true,Nat.reduceLeDiff,Nat.reduceLT,pureOp,binPure,intBin,strBin,eqPure,isConstO,unPure,sliceLo,sliceHi,slicePure,lenPure,minPure,maxPure,buildP,resK,endV,yieldE,↓reduceIte,Nat.reduceEqDiff,reduceCtorEq,Nat.reduceAdd,Nat.reduceMul,Nat.reduceSub,Int.reduceLT,Int.reduceLE,Int.reduceToNat,Int.reduceAdd,Int.reduceSub,Int.reduceMul,ne_eq,decide_true,decide_false,tf7, h0, h3, h4, h5, h7]
      refine untimes_any ((Rd.of_own oa).grow (gb.trans gc)) ba (by omega) (fun wd Ad nd cd Zd ed od nd1 gd fd => ?_)
      try simp -dsimp only [↓RE,↓c_seq,RU,RL,if_true,if_false,forall_const,implies_true,Nat.reduceLeDiff,Nat.reduceLT,pureOp,binPure,intBin,strBin,eqPure,isConstO,unPure,sliceLo,sliceHi,slicePure,lenPure,minPure,maxPure,buildP,resK,endV,yieldE,↓reduceIte,Nat.reduceEqDiff,reduceCtorEq,Nat.reduceAdd,Nat.reduceMul,Nat.reduceSub,Int.reduceLT,Int.reduceLE,Int.reduceToNat,Int.reduceAdd,Int.reduceSub,Int.reduceMul,ne_eq,decide_true,decide_false,tf7, h0, h3, h4, h5, h7]
      refine unpack_any ((Rd.of_own oc).grow gd) bc (by omega) (fun we Ae ne ce Ze ee oe ne1 ge fe => ?_)
      have sa := ga.size
      have sb := gb.size
      have sc := gc.size
      have sd := gd.size
      have se := ge.size
      have la := own_lt oa
      have lb := own_lt ob
      have lc := own_lt oc
      have B0 := hBk.grow ((((ga.trans gb).trans gc).trans gd).trans ge)
      have t0 := own_grow hOt2 ((((ga.trans gb).trans gc).trans gd).trans ge)
      have u0 := own_grow hOv2 ((((ga.trans gb).trans gc).trans gd).trans ge)
      have ge2 := g2.trans ((((ga.trans gb).trans gc).trans gd).trans ge)
      have L0 := hBk.h0.lt
      have L3 := hBk.h3.lt
      have L7 := hBk.h7.lt
      have oa := own_grow (own_grow (own_grow (own_grow oa gb) gc) gd) ge
      have ob := own_grow (own_grow (own_grow ob gc) gd) ge
      have oc := own_grow (own_grow oc gd) ge
      have od := own_grow od ge
      have hml : maxLen = 9223372036854775807 := rfl
      try simp -dsimp only [↓RE,↓c_seq,RU,RL,if_true,if_false,forall_const,implies_true,Nat.reduceLeDiff,Nat.reduceLT,pureOp,binPure,intBin,strBin,eqPure,isConstO,unPure,sliceLo,sliceHi,slicePure,lenPure,minPure,maxPure,buildP,resK,endV,yieldE,↓reduceIte,Nat.reduceEqDiff,reduceCtorEq,Nat.reduceAdd,Nat.reduceMul,Nat.reduceSub,Int.reduceLT,Int.reduceLE,Int.reduceToNat,Int.reduceAdd,Int.reduceSub,Int.reduceMul,ne_eq,decide_true,decide_false,tf7, h0, h3, h4, h5, h7]
      refine takeBytes_ok B0 oa (fun i q => ⟨by have := fa i q; omega, fun q' => by have := fa i q; have := L0 i q'; omega⟩) (by rw [hml]; omega) (by omega) (fun wf z0a B1 k1 => ?_)
      have fz0 := hBk.fs
      have t0 := own_keep t0 k1 (fun x q q' => q'.elim (fun e => own_blk_ne t0 B0.b (by decide) (by rw [← e]; exact q)) (fun q' => own_ne t0 B0.o0 (by decide) x q q'))
      have u0 := own_keep u0 k1 (fun x q q' => q'.elim (fun e => own_blk_ne u0 B0.b (by decide) (by rw [← e]; exact q)) (fun q' => own_ne u0 B0.o0 (by decide) x q q'))
      have ob := own_keep ob k1 (fun x q q' => q'.elim (fun e => own_blk_ne ob B0.b (by decide) (by rw [← e]; exact q)) (fun q' => own_ne ob B0.o0 (by decide) x q q'))
      have oc := own_keep oc k1 (fun x q q' => q'.elim (fun e => own_blk_ne oc B0.b (by decide) (by rw [← e]; exact q)) (fun q' => own_ne oc B0.o0 (by decide) x q q'))
      have od := own_keep od k1 (fun x q q' => q'.elim (fun e => own_blk_ne od B0.b (by decide) (by rw [← e]; exact q)) (fun q' => own_ne od B0.o0 (by decide) x q q'))
      have oe := own_keep oe k1 (fun x q q' => q'.elim (fun e => own_blk_ne oe B0.b (by decide) (by rw [← e]; exact q)) (fun q' => own_ne oe B0.o0 (by decide) x q q'))
      have hz1 := k1.size
      have gf : Grow w wf := ge2.above k1 (fun x hx q => q.elim (fun e => by omega) (fun q => by have := hBk.fs x (.inl q); omega))
      try simp -dsimp only [↓RE,↓c_seq,RU,RL,if_true,if_false,forall_const,implies_true,Nat.reduceLeDiff,Nat.reduceLT,pureOp,binPure,intBin,strBin,eqPure,isConstO,unPure,sliceLo,sliceHi,slicePure,lenPure,minPure,maxPure,buildP,resK,endV,yieldE,↓reduceIte,Nat.reduceEqDiff,reduceCtorEq,Nat.reduceAdd,Nat.reduceMul,Nat.reduceSub,Int.reduceLT,Int.reduceLE,Int.reduceToNat,Int.reduceAdd,Int.reduceSub,Int.reduceMul,ne_eq,decide_true,decide_false,tf7, h0, h3, h4, h5, h7]
      refine takeBytes_ok B1 ob (fun i q => ⟨by have := fb i q; omega, fun q' => ?_⟩) (by rw [hml]; omega) (by simp; omega) (fun wg z0b B2 k2 => ?_)
      · obtain ⟨u, hu, hq⟩ := q'
        have := fb i q
        rcases List.mem_append.1 hu with hu | hu
        · have := L0 i ⟨u, hu, hq⟩; omega
        · rw [List.mem_singleton.1 hu] at hq; have := la i hq; omega
      have t0 := own_keep t0 k2 (fun x q q' => q'.elim (fun e => own_blk_ne t0 B1.b (by decide) (by rw [← e]; exact q)) (fun q' => own_ne t0 B1.o0 (by decide) x q q'))
      have u0 := own_keep u0 k2 (fun x q q' => q'.elim (fun e => own_blk_ne u0 B1.b (by decide) (by rw [← e]; exact q)) (fun q' => own_ne u0 B1.o0 (by decide) x q q'))
      have oc := own_keep oc k2 (fun x q q' => q'.elim (fun e => own_blk_ne oc B1.b (by decide) (by rw [← e]; exact q)) (fun q' => own_ne oc B1.o0 (by decide) x q q'))
      have od := own_keep od k2 (fun x q q' => q'.elim (fun e => own_blk_ne od B1.b (by decide) (by rw [← e]; exact q)) (fun q' => own_ne od B1.o0 (by decide) x q q'))
      have oe := own_keep oe k2 (fun x q q' => q'.elim (fun e => own_blk_ne oe B1.b (by decide) (by rw [← e]; exact q)) (fun q' => own_ne oe B1.o0 (by decide) x q q'))
      have hz2 := k2.size
      have gg : Grow w wg := gf.above k2 (fun x hx q => q.elim (fun e => by omega) (fun q => by have := B1.fs x (.inl q); omega))
      try simp -dsimp only [↓RE,↓c_seq,RU,RL,if_true,if_false,forall_const,implies_true,Nat.reduceLeDiff,Nat.reduceLT,pureOp,binPure,intBin,strBin,eqPure,isConstO,unPure,sliceLo,sliceHi,slicePure,lenPure,minPure,maxPure,buildP,resK,endV,yieldE,↓reduceIte,Nat.reduceEqDiff,reduceCtorEq,Nat.reduceAdd,Nat.reduceMul,Nat.reduceSub,Int.reduceLT,Int.reduceLE,Int.reduceToNat,Int.reduceAdd,Int.reduceSub,Int.reduceMul,ne_eq,decide_true,decide_false,tf7, h0, h3, h4, h5, h7]
      refine takeBytes_ok B2 oc (fun i q => ⟨by have := fc i q; omega, fun q' => ?_⟩) (by rw [hml]; omega) (by simp; omega) (fun wh z0c B3 k3 => ?_)
      · obtain ⟨u, hu, hq⟩ := q'
        have := fc i q
        rcases List.mem_append.1 hu with hu | hu
        · rcases List.mem_append.1 hu with hu | hu
          · have := L0 i ⟨u, hu, hq⟩; omega
          · rw [List.mem_singleton.1 hu] at hq; have := la i hq; omega
        · rw [List.mem_singleton.1 hu] at hq; have := lb i hq; omega
      have t0 := own_keep t0 k3 (fun x q q' => q'.elim (fun e => own_blk_ne t0 B2.b (by decide) (by rw [← e]; exact q)) (fun q' => own_ne t0 B2.o0 (by decide) x q q'))
      have u0 := own_keep u0 k3 (fun x q q' => q'.elim (fun e => own_blk_ne u0 B2.b (by decide) (by rw [← e]; exact q)) (fun q' => own_ne u0 B2.o0 (by decide) x q q'))
      have od := own_keep od k3 (fun x q q' => q'.elim (fun e => own_blk_ne od B2.b (by decide) (by rw [← e]; exact q)) (fun q' => own_ne od B2.o0 (by decide) x q q'))
      have oe := own_keep oe k3 (fun x q q' => q'.elim (fun e => own_blk_ne oe B2.b (by decide) (by rw [← e]; exact q)) (fun q' => own_ne oe B2.o0 (by decide) x q q'))
      have hz3 := k3.size
      have gh : Grow w wh := gg.above k3 (fun x hx q => q.elim (fun e => by omega) (fun q => by have := B2.fs x (.inl q); omega))
      try simp -dsimp only [↓RE,↓c_seq,RU,RL,if_true,if_false,forall_const,implies_true,Nat.reduceLeDiff,Nat.reduceLT,pureOp,binPure,intBin,strBin,eqPure,isConstO,unPure,sliceLo,sliceHi,slicePure,lenPure,minPure,maxPure,buildP,resK,endV,yieldE,↓reduceIte,Nat.reduceEqDiff,reduceCtorEq,Nat.reduceAdd,Nat.reduceMul,Nat.reduceSub,Int.reduceLT,Int.reduceLE,Int.reduceToNat,Int.reduceAdd,Int.reduceSub,Int.reduceMul,ne_eq,decide_true,decide_false,tf7, h0, h3, h4, h5, h7]
      refine takeInt64s_ok B3 od (fun i q => ⟨by have := fd i q; omega, fun q' => by have := fd i q; have := L3 i q'; omega⟩) (by rw [hml]; omega) (by omega) (fun wi z3' B4 k4 => ?_)
      have t0 := own_keep t0 k4 (fun x q q' => q'.elim (fun e => own_blk_ne t0 B3.b (by decide) (by rw [← e]; exact q)) (fun q' => own_ne t0 B3.o3 (by decide) x q q'))
      have u0 := own_keep u0 k4 (fun x q q' => q'.elim (fun e => own_blk_ne u0 B3.b (by decide) (by rw [← e]; exact q)) (fun q' => own_ne u0 B3.o3 (by decide) x q q'))
      have oe := own_keep oe k4 (fun x q q' => q'.elim (fun e => own_blk_ne oe B3.b (by decide) (by rw [← e]; exact q)) (fun q' => own_ne oe B3.o3 (by decide) x q q'))
      have hz4 := k4.size
      have gi : Grow w wi := gh.above k4 (fun x hx q => q.elim (fun e => by omega) (fun q => by have := B3.fs x (.inr (.inl q)); omega))
      try simp -dsimp only [↓RE,↓c_seq,RU,RL,if_true,if_false,forall_const,implies_true,Nat.reduceLeDiff,Nat.reduceLT,pureOp,binPure,intBin,strBin,eqPure,isConstO,unPure,sliceLo,sliceHi,slicePure,lenPure,minPure,maxPure,buildP,resK,endV,yieldE,↓reduceIte,Nat.reduceEqDiff,reduceCtorEq,Nat.reduceAdd,Nat.reduceMul,Nat.reduceSub,Int.reduceLT,Int.reduceLE,Int.reduceToNat,Int.reduceAdd,Int.reduceSub,Int.reduceMul,ne_eq,decide_true,decide_false,tf7, h0, h3, h4, h5, h7]
      refine takeSamples_ok B4 oe (fun i q => ⟨by have := fe i q; omega, fun q' => by have := fe i q; have := L7 i q'; omega⟩) (by rw [hml]; omega) (by omega) (fun wj z7' B5 k5 => ?_)
      have t0 := own_keep t0 k5 (fun x q q' => q'.elim (fun e => own_blk_ne t0 B4.b (by decide) (by rw [← e]; exact q)) (fun q' => own_ne t0 B4.o7 (by decide) x q q'))
      have u0 := own_keep u0 k5 (fun x q q' => q'.elim (fun e => own_blk_ne u0 B4.b (by decide) (by rw [← e]; exact q)) (fun q' => own_ne u0 B4.o7 (by decide) x q q'))
      have gj : Grow w wj := gi.above k5 (fun x hx q => q.elim (fun e => by omega) (fun q => by have := B4.fs x (.inr (.inr q)); omega))
      try simp -dsimp only [↓RE,↓c_seq,RU,RL,if_true,if_false,forall_const,implies_true,Nat.reduceLeDiff,Nat.reduceLT,pureOp,binPure,intBin,strBin,eqPure,isConstO,unPure,sliceLo,sliceHi,slicePure,lenPure,minPure,maxPure,buildP,resK,endV,yieldE,↓reduceIte,Nat.reduceEqDiff,reduceCtorEq,Nat.reduceAdd,Nat.reduceMul,Nat.reduceSub,Int.reduceLT,Int.reduceLE,Int.reduceToNat,Int.reduceAdd,Int.reduceSub,Int.reduceMul,ne_eq,decide_true,decide_false,tf7, h0, h3, h4, h5, h7]
      refine hold_intro ⟨⟨?_, ?_, ?_, ?_, gj, t0, u0, k + 1, _, _, _, _, _, _, _, _, _, by omega, ?_, B5, by simp; omega, by simp; omega, by simp; omega⟩, ?_⟩
      · simp -dsimp only [↓RE,RU,RL,if_true,if_false,↓reduceIte,Nat.reduceEqDiff,reduceCtorEq,decide_true,decide_false, h0]
      · simp -dsimp only [↓RE,RU,RL,if_true,if_false,↓reduceIte,Nat.reduceEqDiff,reduceCtorEq,decide_true,decide_false, h3]
      · simp -dsimp only [↓RE,RU,RL,if_true,if_false,↓reduceIte,Nat.reduceEqDiff,reduceCtorEq,decide_true,decide_false, h4]
      · simp -dsimp only [↓RE,RU,RL,if_true,if_false,↓reduceIte,Nat.reduceEqDiff,reduceCtorEq,decide_true,decide_false, h5]
      · simp -dsimp only [↓RE,RU,RL,if_true,if_false,↓reduceIte,Nat.reduceEqDiff,reduceCtorEq,decide_true,decide_false, h7]
        rw [wrap_i64_in (by omega) (by omega)]; rfl
      · simp -dsimp only [↓RE,RU,RL,if_true,if_false,↓reduceIte,Nat.reduceEqDiff,reduceCtorEq,decide_true,decide_false, h7]
        rw [wrap_i64_in (by omega) (by omega), envInt_int, envInt_int]; omega
    · obtain rfl : k = 2 := by omega
      try simp -dsimp only [↓RE,↓c_seq,RU,RL,if_true,if_false,forall_const,implies_true,Nat.reduceLeDiff,Nat.reduceLT,pureOp,binPure,intBin,strBin,eqPure,isConstO,unPure,sliceLo,sliceHi,slicePure,lenPure,minPure,maxPure,buildP,resK,endV,yieldE,↓reduceIte,Nat.reduceEqDiff,reduceCtorEq,Nat.reduceAdd,Nat.reduceMul,Nat.reduceSub,Int.reduceLT,Int.reduceLE,Int.reduceToNat,Int.reduceAdd,Int.reduceSub,Int.reduceMul,ne_eq,decide_true,decide_false,tf7, h0, h3, h4, h5, h7]
      refine hold_intro ⟨?_, g2, v0, v3, v7, z0, z3, z7, c0, c3, c7, hBk, by omega, by omega, by omega⟩
      simp -dsimp only [↓RE,↓c_seq,RU,RL,if_true,if_false,forall_const,implies_true,Nat.reduceLeDiff,Nat.reduceLT,pureOp,binPure,intBin,strBin,eqPure,isConstO,unPure,sliceLo,sliceHi,slicePure,lenPure,minPure,maxPure,buildP,resK,endV,yieldE,↓reduceIte,Nat.reduceEqDiff,reduceCtorEq,Nat.reduceAdd,Nat.reduceMul,Nat.reduceSub,Int.reduceLT,Int.reduceLE,Int.reduceToNat,Int.reduceAdd,Int.reduceSub,Int.reduceMul,ne_eq,decide_true,decide_false,tf7, h3]
  rintro e3 w3 ⟨h3, g3, v0, v3, v7, z0, z3, z7, c0, c3, c7, hBk, l0, l3, l7⟩
  have hs3 := g3.size
  try simp -dsimp only [↓RE,↓c_seq,RU,RL,if_true,if_false,forall_const,implies_true,Nat.reduceLeDiff,Nat.reduceLT,pureOp,binPure,intBin,strBin,eqPure,isConstO,unPure,sliceLo,sliceHi,slicePure,lenPure,minPure,maxPure,buildP,resK,endV,yieldE,↓reduceIte,Nat.reduceEqDiff,reduceCtorEq,Nat.reduceAdd,Nat.reduceMul,Nat.reduceSub,Int.reduceLT,Int.reduceLE,Int.reduceToNat,Int.reduceAdd,Int.reduceSub,Int.reduceMul,ne_eq,decide_true,decide_false,tf7, h3]
  refine live9_ok (fun w4 g4 => ?_)
  try simp -dsimp only [↓RE,↓c_seq,RU,RL,if_true,if_false,forall_const,implies_true,Nat.reduceLeDiff,Nat.reduceLT,pureOp,binPure,intBin,strBin,eqPure,isConstO,unPure,sliceLo,sliceHi,slicePure,lenPure,minPure,maxPure,buildP,resK,endV,yieldE,↓reduceIte,Nat.reduceEqDiff,reduceCtorEq,Nat.reduceAdd,Nat.reduceMul,Nat.reduceSub,Int.reduceLT,Int.reduceLE,Int.reduceToNat,Int.reduceAdd,Int.reduceSub,Int.reduceMul,ne_eq,decide_true,decide_false,tf7, h3]
  refine alone_ok (hBk.grow g4) (by omega) (by omega) (by omega) (fun w5 k5 => ?_)
  try simp -dsimp only [↓RE,↓c_seq,RU,RL,if_true,if_false,forall_const,implies_true,Nat.reduceLeDiff,Nat.reduceLT,pureOp,binPure,intBin,strBin,eqPure,isConstO,unPure,sliceLo,sliceHi,slicePure,lenPure,minPure,maxPure,buildP,resK,endV,yieldE,↓reduceIte,Nat.reduceEqDiff,reduceCtorEq,Nat.reduceAdd,Nat.reduceMul,Nat.reduceSub,Int.reduceLT,Int.reduceLE,Int.reduceToNat,Int.reduceAdd,Int.reduceSub,Int.reduceMul,ne_eq,decide_true,decide_false,tf7, h3]
  exact h w5 ((g3.trans g4).above k5 (fun i hi q => by omega))

end Go.Proofs.Ytmgiichlccdcfaa
