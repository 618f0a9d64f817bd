/- The law SeriesFork: its walk. Two pairs of series, apart. -/
import Derived.Test.YtcnebgokbjpjnaaPlays8
set_option linter.unusedVariables false
set_option linter.unusedSimpArgs false
set_option maxRecDepth 100000
namespace Go.Proofs.Ytcnebgokbjpjnaa
open Go

/-- a pair that holds the same, in memory drawn behind w0. -/
structure Run (w0 w : World) (g g' : Nat) (v v' : Value) (l : List Smp) (k : Nat) : Prop where
  pr : Pr w g v l g' v' l
  len : l.length ≤ k
  fs : ∀ q, Fp g v g' v' q → w0.heap.size ≤ q
theorem Run.grow {w0 w w1 : World} {g g' : Nat} {v v' : Value} {l : List Smp} {k : Nat} (h : Run w0 w g g' v v' l k) (hg : Grow w w1) : Run w0 w1 g g' v v' l k := ⟨h.pr.grow hg, h.len, h.fs⟩
theorem run_step {w0 w : World} {g g' : Nat} {v v' : Value} {l : List Smp} {k : Nat} (h : Run w0 w g g' v v' l k) (hg : Grow w0 w) {o : StepV} (ho : o.Ok w0) (hk : k + o.m ≤ 1000000000000) {R : VWK}
    (hK : ∀ w1 v1 v2, Run w0 w1 g g' v1 v2 (tStep l o) (k + (1 + o.m)) → Grow w0 w1 → Keep (Fp g v g' v') w w1 → (∀ q, Fp g v1 g' v2 q → Fp g v g' v' q ∨ w.heap.size ≤ q) → R (.bool true) w1) :
    CallsV Try.prog 25 [.pointer (some ⟨g, 0, none⟩), .pointer (some ⟨g', 0, none⟩), .agg o.cells.toArray] w R := by
  have hX := ho.rd.grow hg
  have hsl := tstep_len h.pr.s.rise o hX.flat3
  have hl := h.len
  refine step_ok h.pr hX (fun h0 q hq e => by
    have := ho.rd.lt h0 (by omega) q hq
    have := h.fs q e
    omega) (by omega) (fun w5 v5 v6 hP5 k5 f5 f6 => ?_)
  have hs := hg.size
  have hf : ∀ q, Fp g v5 g' v6 q → Fp g v g' v' q ∨ w.heap.size ≤ q := by
    rintro q ((e | e) | (e | e))
    · exact .inl (.inl (.inl e))
    · exact (f5 q e).imp (fun e => .inl (.inr e)) id
    · exact .inl (.inr (.inl e))
    · exact (f6 q e).imp (fun e => .inr (.inr e)) id
  refine hK w5 v5 v6 ⟨hP5, by omega, fun q hq => (hf q hq).elim (h.fs q) (fun e => by omega)⟩ (hg.above k5 (fun q hq e => ?_)) k5 hf
  have := h.fs q e
  omega
/-- two pairs, apart. -/
def Two (w0 w : World) (g g' h h' : Nat) (L M : List Smp) (k m : Nat) : Prop :=
  ∃ v v' u u', Run w0 w g g' v v' L k ∧ Run w0 w h h' u u' M m ∧ (∀ q, Fp g v g' v' q → ¬ Fp h u h' u' q) ∧ Grow w0 w
theorem Two.symm {w0 w : World} {g g' h h' : Nat} {L M : List Smp} {k m : Nat} : Two w0 w g g' h h' L M k m → Two w0 w h h' g g' M L m k := by
  rintro ⟨v, v', u, u', a, b, c, d⟩
  exact ⟨u, u', v, v', b, a, fun q h1 h2 => c q h2 h1, d⟩
theorem two_l {w0 w : World} {g g' h h' : Nat} {L M : List Smp} {k m : Nat} (hT : Two w0 w g g' h h' L M k m) {o : StepV} (ho : o.Ok w0) (hk : k + o.m ≤ 1000000000000) {R : VWK}
    (hK : ∀ w1, Two w0 w1 g g' h h' (tStep L o) M (k + (1 + o.m)) m → R (.bool true) w1) :
    CallsV Try.prog 25 [.pointer (some ⟨g, 0, none⟩), .pointer (some ⟨g', 0, none⟩), .agg o.cells.toArray] w R := by
  obtain ⟨v, v', u, u', a, b, c, d⟩ := hT
  refine run_step a d ho hk (fun w1 v1 v2 h1 g1 k1 f1 => hK w1 ⟨v1, v2, u, u', h1, ⟨b.pr.keep k1 (fun q h1 h2 => c q h2 h1), b.len, b.fs⟩, fun q h1 h2 => ?_, g1⟩)
  rcases f1 q h1 with e | e
  · exact c q e h2
  · have := b.pr.lt q h2
    omega
theorem two_r {w0 w : World} {g g' h h' : Nat} {L M : List Smp} {k m : Nat} (hT : Two w0 w g g' h h' L M k m) {o : StepV} (ho : o.Ok w0) (hk : m + o.m ≤ 1000000000000) {R : VWK}
    (hK : ∀ w1, Two w0 w1 g g' h h' L (tStep M o) k (m + (1 + o.m)) → R (.bool true) w1) :
    CallsV Try.prog 25 [.pointer (some ⟨h, 0, none⟩), .pointer (some ⟨h', 0, none⟩), .agg o.cells.toArray] w R :=
  two_l hT.symm ho hk (fun w1 h1 => hK w1 h1.symm)
theorem Two.gr {w0 w : World} {g g' h h' : Nat} {L M : List Smp} {k m : Nat} (h : Two w0 w g g' h h' L M k m) : Grow w0 w := by
  obtain ⟨_, _, _, _, _, _, _, d⟩ := h; exact d
/-- what runs behind L. -/
def tRunFrom (L : List Smp) (ops : List StepV) : List Smp := ops.foldl tStep L
theorem trun_take {L : List Smp} {ops : List StepV} {i : Nat} (h : i < ops.length) : tRunFrom L (ops.take (i + 1)) = tStep (tRunFrom L (ops.take i)) (ops.getD i step0) := by
  rw [take_snoc step0 h, tRunFrom, List.foldl_append]; rfl
theorem take_past {α : Type} {ops : List α} {i : Nat} (h : ¬ i < ops.length) : ops.take (i + 1) = ops.take i := by
  rw [List.take_of_length_le (by omega), List.take_of_length_le (by omega)]
theorem steps_one (ops : List StepV) : ∀ u ∈ ops.flatMap StepV.cells, u.oneCell' = true := by
  intro u hu
  obtain ⟨o, _, h⟩ := List.mem_flatMap.1 hu
  simp only [StepV.cells, List.mem_cons, List.not_mem_nil, or_false] at h
  rcases h with rfl | rfl | rfl | rfl | rfl | rfl <;> rfl
abbrev TRow (w : World) (v : Value) (ops : List StepV) : Prop := LRow w 31 6 v ops.length (ops.flatMap StepV.cells)
theorem app_stp {w : World} {v : Value} {l L : List StepV} (h : TRow w v l) {A : Option Addr} {n c : Nat} {xs : List StepV} (hX : Rd w A n 6 (xs.flatMap StepV.cells)) (hb : l.length + n < 1000000000000) (e : l ++ xs = L) {K : VWK} {tk : Tok K} {ty : TypeId}
    (hK : ∀ A' c' w', TRow w' (.slice A' L.length c') L → Keep (fpV v) w w' → (∀ k, fpV (.slice A' L.length c') k → fpV v k ∨ k = w.heap.size) → K (.slice A' L.length c') w') :
    appK Try.prog [22, 22] ty [v, .slice A n c] w K tk := by
  have hl := hX.steps_len
  subst e
  have e : (l ++ xs).length = l.length + n := by rw [List.length_append, hl]
  rw [e] at hK
  refine appK_l (bytes := 64) (by kernel_rfl) h hX (steps_one xs) (by simp only [maxLen]; omega) (by omega) (fun A' c' w' hL k1 f1 _ => hK A' c' w' ?_ k1 f1)
  unfold TRow
  rw [List.flatMap_append, e]
  exact hL
theorem c_cut {P : Program} {a : Code} {Q : Ex → Env → World → Prop} {e : Env} {w : World} (J : Env → World → Prop)
    (h1 : wpC P a (fun ex e w => match ex with | .normal => hold (J e w) .mk | .exit i => Q (.exit i) e w | .ret => Q .ret e w) e w)
    (h2 : ∀ e w, J e w → Q .normal e w) : wpC P a Q e w := by
  refine wpC_mono ?_ a e w h1
  intro ex e w hq
  cases ex
  · exact h2 e w hq
  · exact hq
  · exact hq
theorem fork_walk {w : World} {A A2 A3 : Option Addr} {n c n2 c2 n3 c3 : Nat} {ops xs ys : List StepV} (hR : Rd w A n 6 (ops.flatMap StepV.cells)) (ho : ∀ o ∈ ops, o.Ok w) (hRa : Rd w A2 n2 6 (xs.flatMap StepV.cells)) (hoa : ∀ o ∈ xs, o.Ok w) (hRb : Rd w A3 n3 6 (ys.flatMap StepV.cells)) (hob : ∀ o ∈ ys, o.Ok w)
    (hn : stot ops + stot xs + stot ys ≤ 1048576) {R : VWK}
    (h : ∀ w', Grow w w' → R (.bool true) w') : CallsV Try.prog 7 [.slice A n c, .slice A2 n2 c2, .slice A3 n3 c3] w R := by
  have hl := hR.steps_len
  have hla := hRa.steps_len
  have hlb := hRb.steps_len
  have hnl : n ≤ stot ops := by have := len_stot ops; omega
  have hnla : n2 ≤ stot xs := by have := len_stot xs; omega
  have hnlb : n3 ≤ stot ys := by have := len_stot ys; omega
  refine calls_of_wpC mixed Try.func7 rfl (by kernel_rfl) ?_
  intro e he
  have he0 := he 0
  have he1 := he 1
  have he2 := he 2
  simp only [List.getD_cons_zero, List.getD_cons_succ] at he0 he1 he2
  clear he
  rw [c_seq]
  simp -dsimp only [↓RE,RU,RL,if_true,if_false,forall_const,implies_true,Nat.reduceLeDiff,Nat.reduceLT,pureOp,binPure,intBin,strBin,eqPure,isConstO,unPure,sliceLo,sliceHi,slicePure,slice3Pure,lenPure,capPure,minPure,maxPure,buildP,resK,endV,yieldE,↓reduceIte,Nat.reduceEqDiff,reduceCtorEq,Nat.reduceAdd,Nat.reduceMul,Nat.reduceSub,Int.reduceLT,Int.reduceLE,Int.reduceToNat,Int.reduceAdd,Int.reduceSub,Int.reduceMul,ne_eq,decide_true,decide_false,tf7, he0]
  rw [c_seq, c_seq]
  simp -dsimp only [↓RE,RU,RL,if_true,if_false,forall_const,implies_true,Nat.reduceLeDiff,Nat.reduceLT,pureOp,binPure,intBin,strBin,eqPure,isConstO,unPure,sliceLo,sliceHi,slicePure,slice3Pure,lenPure,capPure,minPure,maxPure,buildP,resK,endV,yieldE,↓reduceIte,Nat.reduceEqDiff,reduceCtorEq,Nat.reduceAdd,Nat.reduceMul,Nat.reduceSub,Int.reduceLT,Int.reduceLE,Int.reduceToNat,Int.reduceAdd,Int.reduceSub,Int.reduceMul,ne_eq,decide_true,decide_false,tf7, he0]
  refine live_ok (fun w1 g1 => ?_)
  simp -dsimp only [↓RE,RU,RL,if_true,if_false,forall_const,implies_true,Nat.reduceLeDiff,Nat.reduceLT,pureOp,binPure,intBin,strBin,eqPure,isConstO,unPure,sliceLo,sliceHi,slicePure,slice3Pure,lenPure,capPure,minPure,maxPure,buildP,resK,endV,yieldE,↓reduceIte,Nat.reduceEqDiff,reduceCtorEq,Nat.reduceAdd,Nat.reduceMul,Nat.reduceSub,Int.reduceLT,Int.reduceLE,Int.reduceToNat,Int.reduceAdd,Int.reduceSub,Int.reduceMul,ne_eq,decide_true,decide_false,tf7, he0]
  rw [c_seq]
  simp -dsimp only [↓RE,RU,RL,if_true,if_false,forall_const,implies_true,Nat.reduceLeDiff,Nat.reduceLT,pureOp,binPure,intBin,strBin,eqPure,isConstO,unPure,sliceLo,sliceHi,slicePure,slice3Pure,lenPure,capPure,minPure,maxPure,buildP,resK,endV,yieldE,↓reduceIte,Nat.reduceEqDiff,reduceCtorEq,Nat.reduceAdd,Nat.reduceMul,Nat.reduceSub,Int.reduceLT,Int.reduceLE,Int.reduceToNat,Int.reduceAdd,Int.reduceSub,Int.reduceMul,ne_eq,decide_true,decide_false,tf7, he0]
  refine snew_ok (fun w2 hS2 g2 => ?_)
  simp -dsimp only [↓RE,RU,RL,if_true,if_false,forall_const,implies_true,Nat.reduceLeDiff,Nat.reduceLT,pureOp,binPure,intBin,strBin,eqPure,isConstO,unPure,sliceLo,sliceHi,slicePure,slice3Pure,lenPure,capPure,minPure,maxPure,buildP,resK,endV,yieldE,↓reduceIte,Nat.reduceEqDiff,reduceCtorEq,Nat.reduceAdd,Nat.reduceMul,Nat.reduceSub,Int.reduceLT,Int.reduceLE,Int.reduceToNat,Int.reduceAdd,Int.reduceSub,Int.reduceMul,ne_eq,decide_true,decide_false,tf7, he0]
  rw [c_seq]
  simp -dsimp only [↓RE,RU,RL,if_true,if_false,forall_const,implies_true,Nat.reduceLeDiff,Nat.reduceLT,pureOp,binPure,intBin,strBin,eqPure,isConstO,unPure,sliceLo,sliceHi,slicePure,slice3Pure,lenPure,capPure,minPure,maxPure,buildP,resK,endV,yieldE,↓reduceIte,Nat.reduceEqDiff,reduceCtorEq,Nat.reduceAdd,Nat.reduceMul,Nat.reduceSub,Int.reduceLT,Int.reduceLE,Int.reduceToNat,Int.reduceAdd,Int.reduceSub,Int.reduceMul,ne_eq,decide_true,decide_false,tf7, he0]
  refine rnew_ok (fun w3 hS3 g3 => ?_)
  have hs1 := g1.size
  have hs2 := g2.size
  have hs3 := g3.size
  have hP3 : Pr w3 w1.heap.size (.slice none 0 0) [] w2.heap.size (.slice none 0 0) [] := ⟨hS2.grow g3, hS3, fun q hq => (fpV_none _ hq).elim⟩
  have hR3 : Run w w3 w1.heap.size w2.heap.size (.slice none 0 0) (.slice none 0 0) [] 0 := ⟨hP3, Nat.le_refl _, fun q hq => by
    rcases hq with (e | e) | (e | e)
    · omega
    · exact (fpV_none _ e).elim
    · omega
    · exact (fpV_none _ e).elim⟩
  have g03 := (g1.trans g2).trans g3
  simp -dsimp only [↓RE,RU,RL,if_true,if_false,forall_const,implies_true,Nat.reduceLeDiff,Nat.reduceLT,pureOp,binPure,intBin,strBin,eqPure,isConstO,unPure,sliceLo,sliceHi,slicePure,slice3Pure,lenPure,capPure,minPure,maxPure,buildP,resK,endV,yieldE,↓reduceIte,Nat.reduceEqDiff,reduceCtorEq,Nat.reduceAdd,Nat.reduceMul,Nat.reduceSub,Int.reduceLT,Int.reduceLE,Int.reduceToNat,Int.reduceAdd,Int.reduceSub,Int.reduceMul,ne_eq,decide_true,decide_false,tf7, he0]
  refine c_seq_cut (fun e' w' => (e' 0 = .slice A n c ∧ e' 1 = .slice A2 n2 c2 ∧ e' 2 = .slice A3 n3 c3 ∧ e' 7 = .pointer (some ⟨w1.heap.size, 0, none⟩) ∧ e' 8 = .pointer (some ⟨w2.heap.size, 0, none⟩)) ∧ ∃ (v v' : Value), Run w w' w1.heap.size w2.heap.size v v' (tRunFrom [] ops) (stot ops) ∧ Grow w w') ?_ ?_
  · rw [c_seq]
    simp -dsimp only [↓RE,RU,RL,if_true,if_false,forall_const,implies_true,Nat.reduceLeDiff,Nat.reduceLT,pureOp,binPure,intBin,strBin,eqPure,isConstO,unPure,sliceLo,sliceHi,slicePure,slice3Pure,lenPure,capPure,minPure,maxPure,buildP,resK,endV,yieldE,↓reduceIte,Nat.reduceEqDiff,reduceCtorEq,Nat.reduceAdd,Nat.reduceMul,Nat.reduceSub,Int.reduceLT,Int.reduceLE,Int.reduceToNat,Int.reduceAdd,Int.reduceSub,Int.reduceMul,ne_eq,decide_true,decide_false,tf7, he0]
    refine wpLoop_intro (fun e' w' => (e' 0 = .slice A n c ∧ e' 1 = .slice A2 n2 c2 ∧ e' 2 = .slice A3 n3 c3 ∧ e' 7 = .pointer (some ⟨w1.heap.size, 0, none⟩) ∧ e' 8 = .pointer (some ⟨w2.heap.size, 0, none⟩)) ∧ ∃ (i : Nat) (v v' : Value), i ≤ n ∧ e' 9 = .int .i64 i ∧ Run w w' w1.heap.size w2.heap.size v v' (tRunFrom [] (ops.take i)) (stot (ops.take i)) ∧ Grow w w')
      (fun e' _ => n - (envInt (e' 9)).toNat) ⟨⟨?_, ?_, ?_, ?_, ?_⟩, 0, _, _, Nat.zero_le _, ?_, hR3, g03⟩ ?_
    · simp -dsimp only [↓RE,RU,RL,if_true,if_false,↓reduceIte,Nat.reduceEqDiff,reduceCtorEq,decide_true,decide_false, he0]
    · simp -dsimp only [↓RE,RU,RL,if_true,if_false,↓reduceIte,Nat.reduceEqDiff,reduceCtorEq,decide_true,decide_false, he1]
    · simp -dsimp only [↓RE,RU,RL,if_true,if_false,↓reduceIte,Nat.reduceEqDiff,reduceCtorEq,decide_true,decide_false, he2]
    · simp -dsimp only [↓RE,RU,RL,if_true,if_false,↓reduceIte,Nat.reduceEqDiff,reduceCtorEq,decide_true,decide_false, he0]
    · simp -dsimp only [↓RE,RU,RL,if_true,if_false,↓reduceIte,Nat.reduceEqDiff,reduceCtorEq,decide_true,decide_false, he0]
    · simp -dsimp only [↓RE,RU,RL,if_true,if_false,↓reduceIte,Nat.reduceEqDiff,reduceCtorEq,decide_true,decide_false, he0, Int.cast_ofNat_Int]
    clear he0 he1 he2
    rintro e' w' ⟨⟨he0, he1, he2, he3, he4⟩, i, v, v', hi, hei, hP, hg⟩
    rw [c_seq, c_seq]
    simp -dsimp only [↓RE,RU,RL,if_true,if_false,forall_const,implies_true,Nat.reduceLeDiff,Nat.reduceLT,pureOp,binPure,intBin,strBin,eqPure,isConstO,unPure,sliceLo,sliceHi,slicePure,slice3Pure,lenPure,capPure,minPure,maxPure,buildP,resK,endV,yieldE,↓reduceIte,Nat.reduceEqDiff,reduceCtorEq,Nat.reduceAdd,Nat.reduceMul,Nat.reduceSub,Int.reduceLT,Int.reduceLE,Int.reduceToNat,Int.reduceAdd,Int.reduceSub,Int.reduceMul,ne_eq,decide_true,decide_false,tf7, he0, hei]
    refine ⟨fun hlt => ?_, fun hge => ?_⟩
    · have hin : i < n := by omega
      obtain ⟨ad, rfl⟩ := hR.some (by omega)
      have hoi : (ops.getD i step0).Ok w := by rw [stepD_lt (by omega)]; exact ho _ (List.getElem_mem _)
      obtain ⟨_, _, _, _, _, hss⟩ := (hR.grow hg).stp' hin
      have hw1 : IntKind.i64.wrap ((i : Int) + 1) = ((i + 1 : Nat) : Int) := by rw [wrap_i64_in (by omega) (by omega)]; omega
      have hst := stot_take (ops := ops) (i := i) (by omega)
      have hst2 := stot_le ops (i + 1)
      have htr := trun_take (L := []) (ops := ops) (i := i) (by omega)
      generalize ops.getD i step0 = o at hoi hss hst htr
      rw [c_seq]
      simp -dsimp only [↓RE,RU,RL,if_true,if_false,forall_const,implies_true,Nat.reduceLeDiff,Nat.reduceLT,pureOp,binPure,intBin,strBin,eqPure,isConstO,unPure,sliceLo,sliceHi,slicePure,slice3Pure,lenPure,capPure,minPure,maxPure,buildP,resK,endV,yieldE,↓reduceIte,Nat.reduceEqDiff,reduceCtorEq,Nat.reduceAdd,Nat.reduceMul,Nat.reduceSub,Int.reduceLT,Int.reduceLE,Int.reduceToNat,Int.reduceAdd,Int.reduceSub,Int.reduceMul,ne_eq,decide_true,decide_false,tf7, he0]
      rw [c_seq]
      simp -dsimp only [↓RE,RU,RL,if_true,if_false,forall_const,implies_true,Nat.reduceLeDiff,Nat.reduceLT,pureOp,binPure,intBin,strBin,eqPure,isConstO,unPure,sliceLo,sliceHi,slicePure,slice3Pure,lenPure,capPure,minPure,maxPure,buildP,resK,endV,yieldE,↓reduceIte,Nat.reduceEqDiff,reduceCtorEq,Nat.reduceAdd,Nat.reduceMul,Nat.reduceSub,Int.reduceLT,Int.reduceLE,Int.reduceToNat,Int.reduceAdd,Int.reduceSub,Int.reduceMul,ne_eq,decide_true,decide_false,tf7, he0, he3, he4, hei]
      refine ⟨by omega, hss ?_⟩
      simp -dsimp only [↓RE,RU,RL,if_true,if_false,forall_const,implies_true,Nat.reduceLeDiff,Nat.reduceLT,pureOp,binPure,intBin,strBin,eqPure,isConstO,unPure,sliceLo,sliceHi,slicePure,slice3Pure,lenPure,capPure,minPure,maxPure,buildP,resK,endV,yieldE,↓reduceIte,Nat.reduceEqDiff,reduceCtorEq,Nat.reduceAdd,Nat.reduceMul,Nat.reduceSub,Int.reduceLT,Int.reduceLE,Int.reduceToNat,Int.reduceAdd,Int.reduceSub,Int.reduceMul,ne_eq,decide_true,decide_false,tf7, he0, he3, he4]
      refine run_step hP hg hoi (by omega) (fun w5 v5 v6 hP5 g5 k5 f5 => ?_)
      rw [← htr, ← hst] at hP5
      simp -dsimp only [↓RE,RU,RL,if_true,if_false,forall_const,implies_true,Nat.reduceLeDiff,Nat.reduceLT,pureOp,binPure,intBin,strBin,eqPure,isConstO,unPure,sliceLo,sliceHi,slicePure,slice3Pure,lenPure,capPure,minPure,maxPure,buildP,resK,endV,yieldE,↓reduceIte,Nat.reduceEqDiff,reduceCtorEq,Nat.reduceAdd,Nat.reduceMul,Nat.reduceSub,Int.reduceLT,Int.reduceLE,Int.reduceToNat,Int.reduceAdd,Int.reduceSub,Int.reduceMul,ne_eq,decide_true,decide_false,tf7, hei, hw1]
      refine hold_intro ⟨⟨⟨by simp -dsimp only [↓RE,RU,RL,if_true,if_false,↓reduceIte,Nat.reduceEqDiff,reduceCtorEq,decide_true,decide_false, he0], by simp -dsimp only [↓RE,RU,RL,if_true,if_false,↓reduceIte,Nat.reduceEqDiff,reduceCtorEq,decide_true,decide_false, he1], by simp -dsimp only [↓RE,RU,RL,if_true,if_false,↓reduceIte,Nat.reduceEqDiff,reduceCtorEq,decide_true,decide_false, he2], by simp -dsimp only [↓RE,RU,RL,if_true,if_false,↓reduceIte,Nat.reduceEqDiff,reduceCtorEq,decide_true,decide_false, he3], by simp -dsimp only [↓RE,RU,RL,if_true,if_false,↓reduceIte,Nat.reduceEqDiff,reduceCtorEq,decide_true,decide_false, he4]⟩, i + 1, v5, v6, by omega, by simp -dsimp only [↓RE,RU,RL,if_true,if_false,↓reduceIte,Nat.reduceEqDiff,reduceCtorEq,decide_true,decide_false, hei, hw1], hP5, g5⟩, ?_⟩
      simp -dsimp only [↓RE,↓c_seq,RU,RL,if_true,if_false,forall_const,implies_true,Nat.reduceLeDiff,Nat.reduceLT,pureOp,binPure,intBin,strBin,eqPure,isConstO,unPure,sliceLo,sliceHi,slicePure,slice3Pure,lenPure,capPure,minPure,maxPure,buildP,resK,endV,yieldE,↓reduceIte,Nat.reduceEqDiff,reduceCtorEq,Nat.reduceAdd,Nat.reduceMul,Nat.reduceSub,Int.reduceLT,Int.reduceLE,Int.reduceToNat,Int.reduceAdd,Int.reduceSub,Int.reduceMul,ne_eq,decide_true,decide_false,tf7, hei, hw1]
      simp only [envInt_int]; omega
    · obtain rfl : i = n := by omega
      rw [← hl, List.take_length] at hP
      exact hold_intro ⟨⟨by simp -dsimp only [↓RE,RU,RL,if_true,if_false,↓reduceIte,Nat.reduceEqDiff,reduceCtorEq,decide_true,decide_false, he0], by simp -dsimp only [↓RE,RU,RL,if_true,if_false,↓reduceIte,Nat.reduceEqDiff,reduceCtorEq,decide_true,decide_false, he1], by simp -dsimp only [↓RE,RU,RL,if_true,if_false,↓reduceIte,Nat.reduceEqDiff,reduceCtorEq,decide_true,decide_false, he2], by simp -dsimp only [↓RE,RU,RL,if_true,if_false,↓reduceIte,Nat.reduceEqDiff,reduceCtorEq,decide_true,decide_false, he3], by simp -dsimp only [↓RE,RU,RL,if_true,if_false,↓reduceIte,Nat.reduceEqDiff,reduceCtorEq,decide_true,decide_false, he4]⟩, v, v', hP, hg⟩
  clear he0 he1 he2 hR3 hP3 hS3 hS2
  rintro e w' ⟨⟨he0, he1, he2, he7, he8⟩, v, v', hP, hg⟩
  have hsg := hg.size
  rw [c_seq]
  simp -dsimp only [↓RE,RU,RL,if_true,if_false,forall_const,implies_true,Nat.reduceLeDiff,Nat.reduceLT,pureOp,binPure,intBin,strBin,eqPure,isConstO,unPure,sliceLo,sliceHi,slicePure,slice3Pure,lenPure,capPure,minPure,maxPure,buildP,resK,endV,yieldE,↓reduceIte,Nat.reduceEqDiff,reduceCtorEq,Nat.reduceAdd,Nat.reduceMul,Nat.reduceSub,Int.reduceLT,Int.reduceLE,Int.reduceToNat,Int.reduceAdd,Int.reduceSub,Int.reduceMul,ne_eq,decide_true,decide_false,tf7, he7]
  have hpl := hP.len
  refine fork_ok hP.pr.s (by omega) (fun w4 q4 v4 hS4 g4 hq4 f4 => ?_)
  have hP4 := hP.grow g4
  simp -dsimp only [↓RE,RU,RL,if_true,if_false,forall_const,implies_true,Nat.reduceLeDiff,Nat.reduceLT,pureOp,binPure,intBin,strBin,eqPure,isConstO,unPure,sliceLo,sliceHi,slicePure,slice3Pure,lenPure,capPure,minPure,maxPure,buildP,resK,endV,yieldE,↓reduceIte,Nat.reduceEqDiff,reduceCtorEq,Nat.reduceAdd,Nat.reduceMul,Nat.reduceSub,Int.reduceLT,Int.reduceLE,Int.reduceToNat,Int.reduceAdd,Int.reduceSub,Int.reduceMul,ne_eq,decide_true,decide_false,tf7, he7]
  rw [c_seq]
  simp -dsimp only [↓RE,RU,RL,if_true,if_false,forall_const,implies_true,Nat.reduceLeDiff,Nat.reduceLT,pureOp,binPure,intBin,strBin,eqPure,isConstO,unPure,sliceLo,sliceHi,slicePure,slice3Pure,lenPure,capPure,minPure,maxPure,buildP,resK,endV,yieldE,↓reduceIte,Nat.reduceEqDiff,reduceCtorEq,Nat.reduceAdd,Nat.reduceMul,Nat.reduceSub,Int.reduceLT,Int.reduceLE,Int.reduceToNat,Int.reduceAdd,Int.reduceSub,Int.reduceMul,ne_eq,decide_true,decide_false,tf7, he8]
  refine rfork_ok hP4.pr.r (by omega) (fun w5 q5 v5 hS5 g5 hq5 f5 => ?_)
  have hP5 := hP4.grow g5
  have hs4 := g4.size
  have hlt4 := hS4.b.lt
  have hrl4 := hS4.row.lt
  have hT5 : Two w w5 w1.heap.size w2.heap.size q4 q5 (tRunFrom [] ops) (tRunFrom [] ops) (stot ops) (stot ops) := by
    refine ⟨v, v', v4, v5, hP5, ⟨⟨hS4.grow g5, hS5, fun q h1 h2 => ?_⟩, hP.len, fun q hq => ?_⟩, fun q h1 h2 => ?_, (hg.trans g4).trans g5⟩
    · have := hrl4 q h1
      have := f5 q h2
      omega
    · rcases hq with (e | e) | (e | e)
      · omega
      · have := f4 q e; omega
      · omega
      · have := f5 q e; omega
    · have := hP.pr.lt q h1
      rcases h2 with (e | e) | (e | e)
      · omega
      · have := f4 q e; omega
      · omega
      · have := f5 q e; omega
  clear hS4 hS5 hP4 hP5 hP hlt4 hrl4 f4 f5 hq4 hq5
  simp -dsimp only [↓RE,RU,RL,if_true,if_false,forall_const,implies_true,Nat.reduceLeDiff,Nat.reduceLT,pureOp,binPure,intBin,strBin,eqPure,isConstO,unPure,sliceLo,sliceHi,slicePure,slice3Pure,lenPure,capPure,minPure,maxPure,buildP,resK,endV,yieldE,↓reduceIte,Nat.reduceEqDiff,reduceCtorEq,Nat.reduceAdd,Nat.reduceMul,Nat.reduceSub,Int.reduceLT,Int.reduceLE,Int.reduceToNat,Int.reduceAdd,Int.reduceSub,Int.reduceMul,ne_eq,decide_true,decide_false,tf7, he7]
  refine c_gen (fun e' => e' 0 = .slice A n c ∧ e' 1 = .slice A2 n2 c2 ∧ e' 2 = .slice A3 n3 c3 ∧ e' 7 = .pointer (some ⟨w1.heap.size, 0, none⟩) ∧ e' 8 = .pointer (some ⟨w2.heap.size, 0, none⟩) ∧ e' 10 = .pointer (some ⟨q4, 0, none⟩) ∧ e' 11 = .pointer (some ⟨q5, 0, none⟩)) ⟨?_, ?_, ?_, ?_, ?_, ?_, ?_⟩ ?_
  · simp -dsimp only [↓RE,RU,RL,if_true,if_false,↓reduceIte,Nat.reduceEqDiff,reduceCtorEq,decide_true,decide_false, he0]
  · simp -dsimp only [↓RE,RU,RL,if_true,if_false,↓reduceIte,Nat.reduceEqDiff,reduceCtorEq,decide_true,decide_false, he1]
  · simp -dsimp only [↓RE,RU,RL,if_true,if_false,↓reduceIte,Nat.reduceEqDiff,reduceCtorEq,decide_true,decide_false, he2]
  · simp -dsimp only [↓RE,RU,RL,if_true,if_false,↓reduceIte,Nat.reduceEqDiff,reduceCtorEq,decide_true,decide_false, he7]
  · simp -dsimp only [↓RE,RU,RL,if_true,if_false,↓reduceIte,Nat.reduceEqDiff,reduceCtorEq,decide_true,decide_false, he8]
  · simp -dsimp only [↓RE,RU,RL,if_true,if_false,↓reduceIte,Nat.reduceEqDiff,reduceCtorEq,decide_true,decide_false, he7]
  · simp -dsimp only [↓RE,RU,RL,if_true,if_false,↓reduceIte,Nat.reduceEqDiff,reduceCtorEq,decide_true,decide_false, he7]
  clear he0 he1 he2 he7 he8 e
  rintro e ⟨he0, he1, he2, he7, he8, he10, he11⟩
  rw [c_seq, c_seq]
  simp -dsimp only [↓RE,RU,RL,if_true,if_false,forall_const,implies_true,Nat.reduceLeDiff,Nat.reduceLT,pureOp,binPure,intBin,strBin,eqPure,isConstO,unPure,sliceLo,sliceHi,slicePure,slice3Pure,lenPure,capPure,minPure,maxPure,buildP,resK,endV,yieldE,↓reduceIte,Nat.reduceEqDiff,reduceCtorEq,Nat.reduceAdd,Nat.reduceMul,Nat.reduceSub,Int.reduceLT,Int.reduceLE,Int.reduceToNat,Int.reduceAdd,Int.reduceSub,Int.reduceMul,ne_eq,decide_true,decide_false,tf7, he10]
  refine c_seq_cut (fun e' w' => (e' 0 = .slice A n c ∧ e' 1 = .slice A2 n2 c2 ∧ e' 2 = .slice A3 n3 c3 ∧ e' 7 = .pointer (some ⟨w1.heap.size, 0, none⟩) ∧ e' 8 = .pointer (some ⟨w2.heap.size, 0, none⟩) ∧ e' 10 = .pointer (some ⟨q4, 0, none⟩) ∧ e' 11 = .pointer (some ⟨q5, 0, none⟩)) ∧ Two w w' w1.heap.size w2.heap.size q4 q5 (tRunFrom (tRunFrom [] ops) xs) (tRunFrom (tRunFrom [] ops) ys) (stot ops + stot xs) (stot ops + stot ys)) ?_ ?_
  · rw [c_seq]
    simp -dsimp only [↓RE,RU,RL,if_true,if_false,forall_const,implies_true,Nat.reduceLeDiff,Nat.reduceLT,pureOp,binPure,intBin,strBin,eqPure,isConstO,unPure,sliceLo,sliceHi,slicePure,slice3Pure,lenPure,capPure,minPure,maxPure,buildP,resK,endV,yieldE,↓reduceIte,Nat.reduceEqDiff,reduceCtorEq,Nat.reduceAdd,Nat.reduceMul,Nat.reduceSub,Int.reduceLT,Int.reduceLE,Int.reduceToNat,Int.reduceAdd,Int.reduceSub,Int.reduceMul,ne_eq,decide_true,decide_false,tf7, he0]
    refine wpLoop_intro (fun e' w' => (e' 0 = .slice A n c ∧ e' 1 = .slice A2 n2 c2 ∧ e' 2 = .slice A3 n3 c3 ∧ e' 7 = .pointer (some ⟨w1.heap.size, 0, none⟩) ∧ e' 8 = .pointer (some ⟨w2.heap.size, 0, none⟩) ∧ e' 10 = .pointer (some ⟨q4, 0, none⟩) ∧ e' 11 = .pointer (some ⟨q5, 0, none⟩)) ∧ ∃ (i : Nat), i ≤ n2 + n3 ∧ e' 12 = .int .i64 i ∧ Two w w' w1.heap.size w2.heap.size q4 q5 (tRunFrom (tRunFrom [] ops) (xs.take i)) (tRunFrom (tRunFrom [] ops) (ys.take i)) (stot ops + stot (xs.take i)) (stot ops + stot (ys.take i)))
      (fun e' _ => n2 + n3 - (envInt (e' 12)).toNat) ⟨⟨?_, ?_, ?_, ?_, ?_, ?_, ?_⟩, 0, Nat.zero_le _, ?_, hT5⟩ ?_
    · simp -dsimp only [↓RE,RU,RL,if_true,if_false,↓reduceIte,Nat.reduceEqDiff,reduceCtorEq,decide_true,decide_false, he0]
    · simp -dsimp only [↓RE,RU,RL,if_true,if_false,↓reduceIte,Nat.reduceEqDiff,reduceCtorEq,decide_true,decide_false, he1]
    · simp -dsimp only [↓RE,RU,RL,if_true,if_false,↓reduceIte,Nat.reduceEqDiff,reduceCtorEq,decide_true,decide_false, he2]
    · simp -dsimp only [↓RE,RU,RL,if_true,if_false,↓reduceIte,Nat.reduceEqDiff,reduceCtorEq,decide_true,decide_false, he7]
    · simp -dsimp only [↓RE,RU,RL,if_true,if_false,↓reduceIte,Nat.reduceEqDiff,reduceCtorEq,decide_true,decide_false, he8]
    · simp -dsimp only [↓RE,RU,RL,if_true,if_false,↓reduceIte,Nat.reduceEqDiff,reduceCtorEq,decide_true,decide_false, he10]
    · simp -dsimp only [↓RE,RU,RL,if_true,if_false,↓reduceIte,Nat.reduceEqDiff,reduceCtorEq,decide_true,decide_false, he11]
    · simp -dsimp only [↓RE,RU,RL,if_true,if_false,↓reduceIte,Nat.reduceEqDiff,reduceCtorEq,decide_true,decide_false, he0, Int.cast_ofNat_Int]
    clear he0 he1 he2 he7 he8 he10 he11 e hT5
    rintro e w6 ⟨⟨he0, he1, he2, he7, he8, he10, he11⟩, i, hi, hei, hT⟩
    have hw1 : IntKind.i64.wrap ((i : Int) + 1) = ((i + 1 : Nat) : Int) := by rw [wrap_i64_in (by omega) (by omega)]; omega
    refine c_seq_cut (fun e' w' => w' = w6 ∧ (e' 0 = .slice A n c ∧ e' 1 = .slice A2 n2 c2 ∧ e' 2 = .slice A3 n3 c3 ∧ e' 7 = .pointer (some ⟨w1.heap.size, 0, none⟩) ∧ e' 8 = .pointer (some ⟨w2.heap.size, 0, none⟩) ∧ e' 10 = .pointer (some ⟨q4, 0, none⟩) ∧ e' 11 = .pointer (some ⟨q5, 0, none⟩)) ∧ e' 12 = .int .i64 i ∧ (i < n2 ∨ i < n3)) ?_ ?_
    · rw [c_seq]
      cases hd1 : decide ((i : Int) < (n2 : Int)) with
      | true =>
        have hin := of_decide_eq_true hd1
        simp -dsimp only [↓RE,RU,RL,if_true,if_false,forall_const,implies_true,Nat.reduceLeDiff,Nat.reduceLT,pureOp,binPure,intBin,strBin,eqPure,isConstO,unPure,sliceLo,sliceHi,slicePure,slice3Pure,lenPure,capPure,minPure,maxPure,buildP,resK,endV,yieldE,↓reduceIte,Nat.reduceEqDiff,reduceCtorEq,Nat.reduceAdd,Nat.reduceMul,Nat.reduceSub,Int.reduceLT,Int.reduceLE,Int.reduceToNat,Int.reduceAdd,Int.reduceSub,Int.reduceMul,ne_eq,decide_true,decide_false,tf7, hei, he1, hd1, undef]
        exact hold_intro ⟨rfl, ⟨by simp -dsimp only [↓RE,RU,RL,if_true,if_false,↓reduceIte,Nat.reduceEqDiff,reduceCtorEq,decide_true,decide_false, he0], by simp -dsimp only [↓RE,RU,RL,if_true,if_false,↓reduceIte,Nat.reduceEqDiff,reduceCtorEq,decide_true,decide_false, he1], by simp -dsimp only [↓RE,RU,RL,if_true,if_false,↓reduceIte,Nat.reduceEqDiff,reduceCtorEq,decide_true,decide_false, he2], by simp -dsimp only [↓RE,RU,RL,if_true,if_false,↓reduceIte,Nat.reduceEqDiff,reduceCtorEq,decide_true,decide_false, he7], by simp -dsimp only [↓RE,RU,RL,if_true,if_false,↓reduceIte,Nat.reduceEqDiff,reduceCtorEq,decide_true,decide_false, he8], by simp -dsimp only [↓RE,RU,RL,if_true,if_false,↓reduceIte,Nat.reduceEqDiff,reduceCtorEq,decide_true,decide_false, he10], by simp -dsimp only [↓RE,RU,RL,if_true,if_false,↓reduceIte,Nat.reduceEqDiff,reduceCtorEq,decide_true,decide_false, he11]⟩, by simp -dsimp only [↓RE,RU,RL,if_true,if_false,↓reduceIte,Nat.reduceEqDiff,reduceCtorEq,decide_true,decide_false, hei], by omega⟩
      | false =>
        have hin := of_decide_eq_false hd1
        cases hd2 : decide ((i : Int) < (n3 : Int)) with
        | true =>
          have hin2 := of_decide_eq_true hd2
          simp -dsimp only [↓RE,RU,RL,if_true,if_false,forall_const,implies_true,Nat.reduceLeDiff,Nat.reduceLT,pureOp,binPure,intBin,strBin,eqPure,isConstO,unPure,sliceLo,sliceHi,slicePure,slice3Pure,lenPure,capPure,minPure,maxPure,buildP,resK,endV,yieldE,↓reduceIte,Nat.reduceEqDiff,reduceCtorEq,Nat.reduceAdd,Nat.reduceMul,Nat.reduceSub,Int.reduceLT,Int.reduceLE,Int.reduceToNat,Int.reduceAdd,Int.reduceSub,Int.reduceMul,ne_eq,decide_true,decide_false,tf7, hei, he1, he2, hd1, hd2]
          exact hold_intro ⟨rfl, ⟨by simp -dsimp only [↓RE,RU,RL,if_true,if_false,↓reduceIte,Nat.reduceEqDiff,reduceCtorEq,decide_true,decide_false, he0], by simp -dsimp only [↓RE,RU,RL,if_true,if_false,↓reduceIte,Nat.reduceEqDiff,reduceCtorEq,decide_true,decide_false, he1], by simp -dsimp only [↓RE,RU,RL,if_true,if_false,↓reduceIte,Nat.reduceEqDiff,reduceCtorEq,decide_true,decide_false, he2], by simp -dsimp only [↓RE,RU,RL,if_true,if_false,↓reduceIte,Nat.reduceEqDiff,reduceCtorEq,decide_true,decide_false, he7], by simp -dsimp only [↓RE,RU,RL,if_true,if_false,↓reduceIte,Nat.reduceEqDiff,reduceCtorEq,decide_true,decide_false, he8], by simp -dsimp only [↓RE,RU,RL,if_true,if_false,↓reduceIte,Nat.reduceEqDiff,reduceCtorEq,decide_true,decide_false, he10], by simp -dsimp only [↓RE,RU,RL,if_true,if_false,↓reduceIte,Nat.reduceEqDiff,reduceCtorEq,decide_true,decide_false, he11]⟩, by simp -dsimp only [↓RE,RU,RL,if_true,if_false,↓reduceIte,Nat.reduceEqDiff,reduceCtorEq,decide_true,decide_false, hei], by omega⟩
        | false =>
          have hin2 := of_decide_eq_false hd2
          rw [List.take_of_length_le (by omega), List.take_of_length_le (by omega)] at hT
          simp -dsimp only [↓RE,RU,RL,if_true,if_false,forall_const,implies_true,Nat.reduceLeDiff,Nat.reduceLT,pureOp,binPure,intBin,strBin,eqPure,isConstO,unPure,sliceLo,sliceHi,slicePure,slice3Pure,lenPure,capPure,minPure,maxPure,buildP,resK,endV,yieldE,↓reduceIte,Nat.reduceEqDiff,reduceCtorEq,Nat.reduceAdd,Nat.reduceMul,Nat.reduceSub,Int.reduceLT,Int.reduceLE,Int.reduceToNat,Int.reduceAdd,Int.reduceSub,Int.reduceMul,ne_eq,decide_true,decide_false,tf7, hei, he1, he2, hd1, hd2]
          exact hold_intro ⟨⟨by simp -dsimp only [↓RE,RU,RL,if_true,if_false,↓reduceIte,Nat.reduceEqDiff,reduceCtorEq,decide_true,decide_false, he0], by simp -dsimp only [↓RE,RU,RL,if_true,if_false,↓reduceIte,Nat.reduceEqDiff,reduceCtorEq,decide_true,decide_false, he1], by simp -dsimp only [↓RE,RU,RL,if_true,if_false,↓reduceIte,Nat.reduceEqDiff,reduceCtorEq,decide_true,decide_false, he2], by simp -dsimp only [↓RE,RU,RL,if_true,if_false,↓reduceIte,Nat.reduceEqDiff,reduceCtorEq,decide_true,decide_false, he7], by simp -dsimp only [↓RE,RU,RL,if_true,if_false,↓reduceIte,Nat.reduceEqDiff,reduceCtorEq,decide_true,decide_false, he8], by simp -dsimp only [↓RE,RU,RL,if_true,if_false,↓reduceIte,Nat.reduceEqDiff,reduceCtorEq,decide_true,decide_false, he10], by simp -dsimp only [↓RE,RU,RL,if_true,if_false,↓reduceIte,Nat.reduceEqDiff,reduceCtorEq,decide_true,decide_false, he11]⟩, hT⟩
    rintro e2 w7 ⟨rfl, ⟨he0, he1, he2, he7, he8, he10, he11⟩, hei2, hor⟩
    rw [c_seq]
    simp -dsimp only [↓RE,RU,RL,if_true,if_false,forall_const,implies_true,Nat.reduceLeDiff,Nat.reduceLT,pureOp,binPure,intBin,strBin,eqPure,isConstO,unPure,sliceLo,sliceHi,slicePure,slice3Pure,lenPure,capPure,minPure,maxPure,buildP,resK,endV,yieldE,↓reduceIte,Nat.reduceEqDiff,reduceCtorEq,Nat.reduceAdd,Nat.reduceMul,Nat.reduceSub,Int.reduceLT,Int.reduceLE,Int.reduceToNat,Int.reduceAdd,Int.reduceSub,Int.reduceMul,ne_eq,decide_true,decide_false,tf7, hei2]
    refine c_seq_cut (fun e' w' => (e' 0 = .slice A n c ∧ e' 1 = .slice A2 n2 c2 ∧ e' 2 = .slice A3 n3 c3 ∧ e' 7 = .pointer (some ⟨w1.heap.size, 0, none⟩) ∧ e' 8 = .pointer (some ⟨w2.heap.size, 0, none⟩) ∧ e' 10 = .pointer (some ⟨q4, 0, none⟩) ∧ e' 11 = .pointer (some ⟨q5, 0, none⟩)) ∧ e' 12 = .int .i64 i ∧ Two w w' w1.heap.size w2.heap.size q4 q5 (tRunFrom (tRunFrom [] ops) (xs.take (i + 1))) (tRunFrom (tRunFrom [] ops) (ys.take i)) (stot ops + stot (xs.take (i + 1))) (stot ops + stot (ys.take i))) ?_ ?_
    · rw [c_seq]
      cases hd : decide ((i : Int) < (n2 : Int)) with
      | true =>
        have hin := of_decide_eq_true hd
        obtain ⟨ad, rfl⟩ := hRa.some (by omega)
        have hoi : (xs.getD i step0).Ok w := by rw [stepD_lt (by omega)]; exact hoa _ (List.getElem_mem _)
        obtain ⟨_, _, _, _, _, hss⟩ := (hRa.grow hT.gr).stp' (i := i) (by omega)
        have hst := stot_take (ops := xs) (i := i) (by omega)
        have hst2 := stot_le xs (i + 1)
        have htr := trun_take (L := tRunFrom [] ops) (ops := xs) (i := i) (by omega)
        generalize xs.getD i step0 = o at hoi hss hst htr
        simp -dsimp only [↓RE,RU,RL,if_true,if_false,forall_const,implies_true,Nat.reduceLeDiff,Nat.reduceLT,pureOp,binPure,intBin,strBin,eqPure,isConstO,unPure,sliceLo,sliceHi,slicePure,slice3Pure,lenPure,capPure,minPure,maxPure,buildP,resK,endV,yieldE,↓reduceIte,Nat.reduceEqDiff,reduceCtorEq,Nat.reduceAdd,Nat.reduceMul,Nat.reduceSub,Int.reduceLT,Int.reduceLE,Int.reduceToNat,Int.reduceAdd,Int.reduceSub,Int.reduceMul,ne_eq,decide_true,decide_false,tf7, hei2, he1, he7, he8, hd]
        refine ⟨by omega, hss ?_⟩
        simp -dsimp only [↓RE,RU,RL,if_true,if_false,forall_const,implies_true,Nat.reduceLeDiff,Nat.reduceLT,pureOp,binPure,intBin,strBin,eqPure,isConstO,unPure,sliceLo,sliceHi,slicePure,slice3Pure,lenPure,capPure,minPure,maxPure,buildP,resK,endV,yieldE,↓reduceIte,Nat.reduceEqDiff,reduceCtorEq,Nat.reduceAdd,Nat.reduceMul,Nat.reduceSub,Int.reduceLT,Int.reduceLE,Int.reduceToNat,Int.reduceAdd,Int.reduceSub,Int.reduceMul,ne_eq,decide_true,decide_false,tf7, hei2, he1, he7, he8, hd]
        refine two_l hT hoi (by omega) (fun w8 hT8 => ?_)
        rw [← htr, Nat.add_assoc, ← hst] at hT8
        try simp -dsimp only [↓RE,↓c_seq,RU,RL,if_true,if_false,forall_const,implies_true,Nat.reduceLeDiff,Nat.reduceLT,pureOp,binPure,intBin,strBin,eqPure,isConstO,unPure,sliceLo,sliceHi,slicePure,slice3Pure,lenPure,capPure,minPure,maxPure,buildP,resK,endV,yieldE,↓reduceIte,Nat.reduceEqDiff,reduceCtorEq,Nat.reduceAdd,Nat.reduceMul,Nat.reduceSub,Int.reduceLT,Int.reduceLE,Int.reduceToNat,Int.reduceAdd,Int.reduceSub,Int.reduceMul,ne_eq,decide_true,decide_false,tf7, hd]
        exact hold_intro ⟨⟨by simp -dsimp only [↓RE,RU,RL,if_true,if_false,↓reduceIte,Nat.reduceEqDiff,reduceCtorEq,decide_true,decide_false, he0], by simp -dsimp only [↓RE,RU,RL,if_true,if_false,↓reduceIte,Nat.reduceEqDiff,reduceCtorEq,decide_true,decide_false, he1], by simp -dsimp only [↓RE,RU,RL,if_true,if_false,↓reduceIte,Nat.reduceEqDiff,reduceCtorEq,decide_true,decide_false, he2], by simp -dsimp only [↓RE,RU,RL,if_true,if_false,↓reduceIte,Nat.reduceEqDiff,reduceCtorEq,decide_true,decide_false, he7], by simp -dsimp only [↓RE,RU,RL,if_true,if_false,↓reduceIte,Nat.reduceEqDiff,reduceCtorEq,decide_true,decide_false, he8], by simp -dsimp only [↓RE,RU,RL,if_true,if_false,↓reduceIte,Nat.reduceEqDiff,reduceCtorEq,decide_true,decide_false, he10], by simp -dsimp only [↓RE,RU,RL,if_true,if_false,↓reduceIte,Nat.reduceEqDiff,reduceCtorEq,decide_true,decide_false, he11]⟩, by simp -dsimp only [↓RE,RU,RL,if_true,if_false,↓reduceIte,Nat.reduceEqDiff,reduceCtorEq,decide_true,decide_false, hei2], hT8⟩
      | false =>
        have hin := of_decide_eq_false hd
        have htp := take_past (ops := xs) (i := i) (by omega)
        rw [← htp] at hT
        simp -dsimp only [↓RE,RU,RL,if_true,if_false,forall_const,implies_true,Nat.reduceLeDiff,Nat.reduceLT,pureOp,binPure,intBin,strBin,eqPure,isConstO,unPure,sliceLo,sliceHi,slicePure,slice3Pure,lenPure,capPure,minPure,maxPure,buildP,resK,endV,yieldE,↓reduceIte,Nat.reduceEqDiff,reduceCtorEq,Nat.reduceAdd,Nat.reduceMul,Nat.reduceSub,Int.reduceLT,Int.reduceLE,Int.reduceToNat,Int.reduceAdd,Int.reduceSub,Int.reduceMul,ne_eq,decide_true,decide_false,tf7, hei2, he1, hd, undef]
        exact hold_intro ⟨⟨by simp -dsimp only [↓RE,RU,RL,if_true,if_false,↓reduceIte,Nat.reduceEqDiff,reduceCtorEq,decide_true,decide_false, he0], by simp -dsimp only [↓RE,RU,RL,if_true,if_false,↓reduceIte,Nat.reduceEqDiff,reduceCtorEq,decide_true,decide_false, he1], by simp -dsimp only [↓RE,RU,RL,if_true,if_false,↓reduceIte,Nat.reduceEqDiff,reduceCtorEq,decide_true,decide_false, he2], by simp -dsimp only [↓RE,RU,RL,if_true,if_false,↓reduceIte,Nat.reduceEqDiff,reduceCtorEq,decide_true,decide_false, he7], by simp -dsimp only [↓RE,RU,RL,if_true,if_false,↓reduceIte,Nat.reduceEqDiff,reduceCtorEq,decide_true,decide_false, he8], by simp -dsimp only [↓RE,RU,RL,if_true,if_false,↓reduceIte,Nat.reduceEqDiff,reduceCtorEq,decide_true,decide_false, he10], by simp -dsimp only [↓RE,RU,RL,if_true,if_false,↓reduceIte,Nat.reduceEqDiff,reduceCtorEq,decide_true,decide_false, he11]⟩, by simp -dsimp only [↓RE,RU,RL,if_true,if_false,↓reduceIte,Nat.reduceEqDiff,reduceCtorEq,decide_true,decide_false, hei2], hT⟩
    clear he0 he1 he2 he7 he8 he10 he11 hei2 hT
    rintro e2 w7 ⟨⟨he0, he1, he2, he7, he8, he10, he11⟩, hei2, hT⟩
    refine c_cut (fun e' w' => (e' 0 = .slice A n c ∧ e' 1 = .slice A2 n2 c2 ∧ e' 2 = .slice A3 n3 c3 ∧ e' 7 = .pointer (some ⟨w1.heap.size, 0, none⟩) ∧ e' 8 = .pointer (some ⟨w2.heap.size, 0, none⟩) ∧ e' 10 = .pointer (some ⟨q4, 0, none⟩) ∧ e' 11 = .pointer (some ⟨q5, 0, none⟩)) ∧ e' 12 = .int .i64 i ∧ Two w w' w1.heap.size w2.heap.size q4 q5 (tRunFrom (tRunFrom [] ops) (xs.take (i + 1))) (tRunFrom (tRunFrom [] ops) (ys.take (i + 1))) (stot ops + stot (xs.take (i + 1))) (stot ops + stot (ys.take (i + 1)))) ?_ ?_
    · rw [c_seq]
      cases hd : decide ((i : Int) < (n3 : Int)) with
      | true =>
        have hin := of_decide_eq_true hd
        obtain ⟨ad, rfl⟩ := hRb.some (by omega)
        have hoi : (ys.getD i step0).Ok w := by rw [stepD_lt (by omega)]; exact hob _ (List.getElem_mem _)
        obtain ⟨_, _, _, _, _, hss⟩ := (hRb.grow hT.gr).stp' (i := i) (by omega)
        have hst := stot_take (ops := ys) (i := i) (by omega)
        have hst2 := stot_le ys (i + 1)
        have htr := trun_take (L := tRunFrom [] ops) (ops := ys) (i := i) (by omega)
        generalize ys.getD i step0 = o at hoi hss hst htr
        simp -dsimp only [↓RE,RU,RL,if_true,if_false,forall_const,implies_true,Nat.reduceLeDiff,Nat.reduceLT,pureOp,binPure,intBin,strBin,eqPure,isConstO,unPure,sliceLo,sliceHi,slicePure,slice3Pure,lenPure,capPure,minPure,maxPure,buildP,resK,endV,yieldE,↓reduceIte,Nat.reduceEqDiff,reduceCtorEq,Nat.reduceAdd,Nat.reduceMul,Nat.reduceSub,Int.reduceLT,Int.reduceLE,Int.reduceToNat,Int.reduceAdd,Int.reduceSub,Int.reduceMul,ne_eq,decide_true,decide_false,tf7, hei2, he2, he10, he11, hd]
        refine ⟨by omega, hss ?_⟩
        simp -dsimp only [↓RE,RU,RL,if_true,if_false,forall_const,implies_true,Nat.reduceLeDiff,Nat.reduceLT,pureOp,binPure,intBin,strBin,eqPure,isConstO,unPure,sliceLo,sliceHi,slicePure,slice3Pure,lenPure,capPure,minPure,maxPure,buildP,resK,endV,yieldE,↓reduceIte,Nat.reduceEqDiff,reduceCtorEq,Nat.reduceAdd,Nat.reduceMul,Nat.reduceSub,Int.reduceLT,Int.reduceLE,Int.reduceToNat,Int.reduceAdd,Int.reduceSub,Int.reduceMul,ne_eq,decide_true,decide_false,tf7, hei2, he2, he10, he11, hd]
        refine two_r hT hoi (by omega) (fun w8 hT8 => ?_)
        rw [← htr, Nat.add_assoc, ← hst] at hT8
        try simp -dsimp only [↓RE,↓c_seq,RU,RL,if_true,if_false,forall_const,implies_true,Nat.reduceLeDiff,Nat.reduceLT,pureOp,binPure,intBin,strBin,eqPure,isConstO,unPure,sliceLo,sliceHi,slicePure,slice3Pure,lenPure,capPure,minPure,maxPure,buildP,resK,endV,yieldE,↓reduceIte,Nat.reduceEqDiff,reduceCtorEq,Nat.reduceAdd,Nat.reduceMul,Nat.reduceSub,Int.reduceLT,Int.reduceLE,Int.reduceToNat,Int.reduceAdd,Int.reduceSub,Int.reduceMul,ne_eq,decide_true,decide_false,tf7, hd]
        exact hold_intro ⟨⟨by simp -dsimp only [↓RE,RU,RL,if_true,if_false,↓reduceIte,Nat.reduceEqDiff,reduceCtorEq,decide_true,decide_false, he0], by simp -dsimp only [↓RE,RU,RL,if_true,if_false,↓reduceIte,Nat.reduceEqDiff,reduceCtorEq,decide_true,decide_false, he1], by simp -dsimp only [↓RE,RU,RL,if_true,if_false,↓reduceIte,Nat.reduceEqDiff,reduceCtorEq,decide_true,decide_false, he2], by simp -dsimp only [↓RE,RU,RL,if_true,if_false,↓reduceIte,Nat.reduceEqDiff,reduceCtorEq,decide_true,decide_false, he7], by simp -dsimp only [↓RE,RU,RL,if_true,if_false,↓reduceIte,Nat.reduceEqDiff,reduceCtorEq,decide_true,decide_false, he8], by simp -dsimp only [↓RE,RU,RL,if_true,if_false,↓reduceIte,Nat.reduceEqDiff,reduceCtorEq,decide_true,decide_false, he10], by simp -dsimp only [↓RE,RU,RL,if_true,if_false,↓reduceIte,Nat.reduceEqDiff,reduceCtorEq,decide_true,decide_false, he11]⟩, by simp -dsimp only [↓RE,RU,RL,if_true,if_false,↓reduceIte,Nat.reduceEqDiff,reduceCtorEq,decide_true,decide_false, hei2], hT8⟩
      | false =>
        have hin := of_decide_eq_false hd
        have htp := take_past (ops := ys) (i := i) (by omega)
        rw [← htp] at hT
        simp -dsimp only [↓RE,RU,RL,if_true,if_false,forall_const,implies_true,Nat.reduceLeDiff,Nat.reduceLT,pureOp,binPure,intBin,strBin,eqPure,isConstO,unPure,sliceLo,sliceHi,slicePure,slice3Pure,lenPure,capPure,minPure,maxPure,buildP,resK,endV,yieldE,↓reduceIte,Nat.reduceEqDiff,reduceCtorEq,Nat.reduceAdd,Nat.reduceMul,Nat.reduceSub,Int.reduceLT,Int.reduceLE,Int.reduceToNat,Int.reduceAdd,Int.reduceSub,Int.reduceMul,ne_eq,decide_true,decide_false,tf7, hei2, he2, hd, undef]
        exact hold_intro ⟨⟨by simp -dsimp only [↓RE,RU,RL,if_true,if_false,↓reduceIte,Nat.reduceEqDiff,reduceCtorEq,decide_true,decide_false, he0], by simp -dsimp only [↓RE,RU,RL,if_true,if_false,↓reduceIte,Nat.reduceEqDiff,reduceCtorEq,decide_true,decide_false, he1], by simp -dsimp only [↓RE,RU,RL,if_true,if_false,↓reduceIte,Nat.reduceEqDiff,reduceCtorEq,decide_true,decide_false, he2], by simp -dsimp only [↓RE,RU,RL,if_true,if_false,↓reduceIte,Nat.reduceEqDiff,reduceCtorEq,decide_true,decide_false, he7], by simp -dsimp only [↓RE,RU,RL,if_true,if_false,↓reduceIte,Nat.reduceEqDiff,reduceCtorEq,decide_true,decide_false, he8], by simp -dsimp only [↓RE,RU,RL,if_true,if_false,↓reduceIte,Nat.reduceEqDiff,reduceCtorEq,decide_true,decide_false, he10], by simp -dsimp only [↓RE,RU,RL,if_true,if_false,↓reduceIte,Nat.reduceEqDiff,reduceCtorEq,decide_true,decide_false, he11]⟩, by simp -dsimp only [↓RE,RU,RL,if_true,if_false,↓reduceIte,Nat.reduceEqDiff,reduceCtorEq,decide_true,decide_false, hei2], hT⟩
    clear he0 he1 he2 he7 he8 he10 he11 hei2 hT
    rintro e2 w7 ⟨⟨he0, he1, he2, he7, he8, he10, he11⟩, hei2, hT⟩
    simp -dsimp only [↓RE,RU,RL,if_true,if_false,forall_const,implies_true,Nat.reduceLeDiff,Nat.reduceLT,pureOp,binPure,intBin,strBin,eqPure,isConstO,unPure,sliceLo,sliceHi,slicePure,slice3Pure,lenPure,capPure,minPure,maxPure,buildP,resK,endV,yieldE,↓reduceIte,Nat.reduceEqDiff,reduceCtorEq,Nat.reduceAdd,Nat.reduceMul,Nat.reduceSub,Int.reduceLT,Int.reduceLE,Int.reduceToNat,Int.reduceAdd,Int.reduceSub,Int.reduceMul,ne_eq,decide_true,decide_false,tf7, hei2, hw1]
    refine hold_intro ⟨⟨⟨by simp -dsimp only [↓RE,RU,RL,if_true,if_false,↓reduceIte,Nat.reduceEqDiff,reduceCtorEq,decide_true,decide_false, he0], by simp -dsimp only [↓RE,RU,RL,if_true,if_false,↓reduceIte,Nat.reduceEqDiff,reduceCtorEq,decide_true,decide_false, he1], by simp -dsimp only [↓RE,RU,RL,if_true,if_false,↓reduceIte,Nat.reduceEqDiff,reduceCtorEq,decide_true,decide_false, he2], by simp -dsimp only [↓RE,RU,RL,if_true,if_false,↓reduceIte,Nat.reduceEqDiff,reduceCtorEq,decide_true,decide_false, he7], by simp -dsimp only [↓RE,RU,RL,if_true,if_false,↓reduceIte,Nat.reduceEqDiff,reduceCtorEq,decide_true,decide_false, he8], by simp -dsimp only [↓RE,RU,RL,if_true,if_false,↓reduceIte,Nat.reduceEqDiff,reduceCtorEq,decide_true,decide_false, he10], by simp -dsimp only [↓RE,RU,RL,if_true,if_false,↓reduceIte,Nat.reduceEqDiff,reduceCtorEq,decide_true,decide_false, he11]⟩, i + 1, by omega, by simp -dsimp only [↓RE,RU,RL,if_true,if_false,↓reduceIte,Nat.reduceEqDiff,reduceCtorEq,decide_true,decide_false, hei2, hw1], hT⟩, ?_⟩
    simp -dsimp only [↓RE,↓c_seq,RU,RL,if_true,if_false,forall_const,implies_true,Nat.reduceLeDiff,Nat.reduceLT,pureOp,binPure,intBin,strBin,eqPure,isConstO,unPure,sliceLo,sliceHi,slicePure,slice3Pure,lenPure,capPure,minPure,maxPure,buildP,resK,endV,yieldE,↓reduceIte,Nat.reduceEqDiff,reduceCtorEq,Nat.reduceAdd,Nat.reduceMul,Nat.reduceSub,Int.reduceLT,Int.reduceLE,Int.reduceToNat,Int.reduceAdd,Int.reduceSub,Int.reduceMul,ne_eq,decide_true,decide_false,tf7, hei, hei2, hw1]
    simp only [envInt_int]; omega
  clear he0 he1 he2 he7 he8 he10 he11 e hT5
  rintro e w6 ⟨⟨he0, he1, he2, he7, he8, he10, he11⟩, hT⟩
  have g06 := hT.gr
  have ga := Grow.alloc w6 (.cells #[] 31)
  have hown : TRow (w6.alloc (.cells #[] 31)) (.slice (some ⟨w6.heap.size, 0, none⟩) 0 0) ([] : List StepV) := LRow.of_own (own_new w6 31 6 0 #[] rfl (by simp [maxLen]))
  have hsa : (w6.alloc (.cells #[] 31)).heap.size = w6.heap.size + 1 := by simp
  have ga0 := g06.trans ga
  rw [c_seq]
  simp -dsimp only [↓RE,RU,RL,if_true,if_false,forall_const,implies_true,Nat.reduceLeDiff,Nat.reduceLT,pureOp,binPure,intBin,strBin,eqPure,isConstO,unPure,sliceLo,sliceHi,slicePure,slice3Pure,lenPure,capPure,minPure,maxPure,buildP,resK,endV,yieldE,↓reduceIte,Nat.reduceEqDiff,reduceCtorEq,Nat.reduceAdd,Nat.reduceMul,Nat.reduceSub,Int.reduceLT,Int.reduceLE,Int.reduceToNat,Int.reduceAdd,Int.reduceSub,Int.reduceMul,ne_eq,decide_true,decide_false,tf7, he0]
  refine app_stp (xs := ops) (L := ops) hown (hR.grow ga0) (by simp; omega) rfl (fun B1 d1 z1 hL1 k1 f1 => ?_)
  have gz1 : Grow w6 z1 := ga.above k1 (fun q hq e => by rw [fpV_some] at e; simp only at e; omega)
  have hf1 : ∀ q, fpV (.slice B1 ops.length d1) q → w6.heap.size ≤ q := fun q hq => by
    rcases f1 q hq with e | e
    · rw [fpV_some] at e; simp only at e; omega
    · omega
  simp -dsimp only [↓RE,RU,RL,if_true,if_false,forall_const,implies_true,Nat.reduceLeDiff,Nat.reduceLT,pureOp,binPure,intBin,strBin,eqPure,isConstO,unPure,sliceLo,sliceHi,slicePure,slice3Pure,lenPure,capPure,minPure,maxPure,buildP,resK,endV,yieldE,↓reduceIte,Nat.reduceEqDiff,reduceCtorEq,Nat.reduceAdd,Nat.reduceMul,Nat.reduceSub,Int.reduceLT,Int.reduceLE,Int.reduceToNat,Int.reduceAdd,Int.reduceSub,Int.reduceMul,ne_eq,decide_true,decide_false,tf7, he1]
  refine app_stp (xs := xs) (L := ops ++ xs) hL1 (hRa.grow (g06.trans gz1)) (by omega) rfl (fun B2 d2 z2 hL2 k2 f2 => ?_)
  have gz2 : Grow w6 z2 := gz1.above k2 (fun q hq e => by have := hf1 q e; omega)
  have hsz1 := gz1.size
  have hf2 : ∀ q, fpV (.slice B2 (ops ++ xs).length d2) q → w6.heap.size ≤ q := fun q hq => (f2 q hq).elim (hf1 q) (fun e => by omega)
  simp -dsimp only [↓RE,RU,RL,if_true,if_false,forall_const,implies_true,Nat.reduceLeDiff,Nat.reduceLT,pureOp,binPure,intBin,strBin,eqPure,isConstO,unPure,sliceLo,sliceHi,slicePure,slice3Pure,lenPure,capPure,minPure,maxPure,buildP,resK,endV,yieldE,↓reduceIte,Nat.reduceEqDiff,reduceCtorEq,Nat.reduceAdd,Nat.reduceMul,Nat.reduceSub,Int.reduceLT,Int.reduceLE,Int.reduceToNat,Int.reduceAdd,Int.reduceSub,Int.reduceMul,ne_eq,decide_true,decide_false,tf7, he2]
  refine app_stp (xs := ys) (L := ops ++ xs ++ ys) hL2 (hRb.grow (g06.trans gz2)) (by rw [List.length_append]; omega) rfl (fun B3 d3 z3 hL3 k3 f3 => ?_)
  have gz3 : Grow w6 z3 := gz2.above k3 (fun q hq e => by have := hf2 q e; omega)
  have g0z := g06.trans gz3
  have hll : (ops ++ xs ++ ys).length = n + n2 + n3 := by rw [List.length_append, List.length_append]; omega
  obtain ⟨v, v', u, u', hA, hB, _, _⟩ := hT
  have hAl := hA.len
  have hBl := hB.len
  simp -dsimp only [↓RE,RU,RL,if_true,if_false,forall_const,implies_true,Nat.reduceLeDiff,Nat.reduceLT,pureOp,binPure,intBin,strBin,eqPure,isConstO,unPure,sliceLo,sliceHi,slicePure,slice3Pure,lenPure,capPure,minPure,maxPure,buildP,resK,endV,yieldE,↓reduceIte,Nat.reduceEqDiff,reduceCtorEq,Nat.reduceAdd,Nat.reduceMul,Nat.reduceSub,Int.reduceLT,Int.reduceLE,Int.reduceToNat,Int.reduceAdd,Int.reduceSub,Int.reduceMul,ne_eq,decide_true,decide_false,tf7, he0]
  refine named_ok (ops := ops ++ xs ++ ys) hL3.rd (fun o ho' => ?_) (by omega) (fun z4 At ct ts hT hTl g4 hTf => ?_)
  · rcases List.mem_append.1 ho' with ho' | ho'
    · rcases List.mem_append.1 ho' with ho' | ho'
      · exact (ho o ho').grow g0z
      · exact (hoa o ho').grow g0z
    · exact (hob o ho').grow g0z
  simp -dsimp only [↓RE,RU,RL,if_true,if_false,forall_const,implies_true,Nat.reduceLeDiff,Nat.reduceLT,pureOp,binPure,intBin,strBin,eqPure,isConstO,unPure,sliceLo,sliceHi,slicePure,slice3Pure,lenPure,capPure,minPure,maxPure,buildP,resK,endV,yieldE,↓reduceIte,Nat.reduceEqDiff,reduceCtorEq,Nat.reduceAdd,Nat.reduceMul,Nat.reduceSub,Int.reduceLT,Int.reduceLE,Int.reduceToNat,Int.reduceAdd,Int.reduceSub,Int.reduceMul,ne_eq,decide_true,decide_false,tf7, he0]
  refine c_gen (fun e' => e' 7 = .pointer (some ⟨w1.heap.size, 0, none⟩) ∧ e' 8 = .pointer (some ⟨w2.heap.size, 0, none⟩) ∧ e' 10 = .pointer (some ⟨q4, 0, none⟩) ∧ e' 11 = .pointer (some ⟨q5, 0, none⟩) ∧ e' 13 = .slice At ts.length ct) ⟨?_, ?_, ?_, ?_, ?_⟩ ?_
  · simp -dsimp only [↓RE,RU,RL,if_true,if_false,↓reduceIte,Nat.reduceEqDiff,reduceCtorEq,decide_true,decide_false, he7]
  · simp -dsimp only [↓RE,RU,RL,if_true,if_false,↓reduceIte,Nat.reduceEqDiff,reduceCtorEq,decide_true,decide_false, he8]
  · simp -dsimp only [↓RE,RU,RL,if_true,if_false,↓reduceIte,Nat.reduceEqDiff,reduceCtorEq,decide_true,decide_false, he10]
  · simp -dsimp only [↓RE,RU,RL,if_true,if_false,↓reduceIte,Nat.reduceEqDiff,reduceCtorEq,decide_true,decide_false, he11]
  · simp -dsimp only [↓RE,RU,RL,if_true,if_false,↓reduceIte,Nat.reduceEqDiff,reduceCtorEq,decide_true,decide_false, he7]
  clear he0 he1 he2 he7 he8 he10 he11 e
  rintro e ⟨he7, he8, he10, he11, he13⟩
  rw [c_seq]
  simp -dsimp only [↓RE,RU,RL,if_true,if_false,forall_const,implies_true,Nat.reduceLeDiff,Nat.reduceLT,pureOp,binPure,intBin,strBin,eqPure,isConstO,unPure,sliceLo,sliceHi,slicePure,slice3Pure,lenPure,capPure,minPure,maxPure,buildP,resK,endV,yieldE,↓reduceIte,Nat.reduceEqDiff,reduceCtorEq,Nat.reduceAdd,Nat.reduceMul,Nat.reduceSub,Int.reduceLT,Int.reduceLE,Int.reduceToNat,Int.reduceAdd,Int.reduceSub,Int.reduceMul,ne_eq,decide_true,decide_false,tf7, he7, he8, he13]
  refine alike_ok ((hA.pr.grow gz3).grow g4) hT.rd (by omega) (by omega) (fun z5 g5 => ?_)
  simp -dsimp only [↓RE,RU,RL,if_true,if_false,forall_const,implies_true,Nat.reduceLeDiff,Nat.reduceLT,pureOp,binPure,intBin,strBin,eqPure,isConstO,unPure,sliceLo,sliceHi,slicePure,slice3Pure,lenPure,capPure,minPure,maxPure,buildP,resK,endV,yieldE,↓reduceIte,Nat.reduceEqDiff,reduceCtorEq,Nat.reduceAdd,Nat.reduceMul,Nat.reduceSub,Int.reduceLT,Int.reduceLE,Int.reduceToNat,Int.reduceAdd,Int.reduceSub,Int.reduceMul,ne_eq,decide_true,decide_false,tf7, he10, he11, he13]
  refine alike_ok (((hB.pr.grow gz3).grow g4).grow g5) (hT.grow g5).rd (by omega) (by omega) (fun z6 g6 => ?_)
  try simp -dsimp only [↓RE,↓c_seq,RU,RL,if_true,if_false,forall_const,implies_true,Nat.reduceLeDiff,Nat.reduceLT,pureOp,binPure,intBin,strBin,eqPure,isConstO,unPure,sliceLo,sliceHi,slicePure,slice3Pure,lenPure,capPure,minPure,maxPure,buildP,resK,endV,yieldE,↓reduceIte,Nat.reduceEqDiff,reduceCtorEq,Nat.reduceAdd,Nat.reduceMul,Nat.reduceSub,Int.reduceLT,Int.reduceLE,Int.reduceToNat,Int.reduceAdd,Int.reduceSub,Int.reduceMul,ne_eq,decide_true,decide_false,tf7, eq_self]
  exact h z6 ((g0z.trans g4).trans (g5.trans g6))

end Go.Proofs.Ytcnebgokbjpjnaa
