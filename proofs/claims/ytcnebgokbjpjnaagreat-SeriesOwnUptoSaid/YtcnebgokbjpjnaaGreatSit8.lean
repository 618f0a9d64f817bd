/- A book of samples and deltas beside the program's and the document's series: what is taken is kept. -/
import Derived.Test.YtcnebgokbjpjnaaGreatBook8
import Derived.Test.YtcnebgokbjpjnaaGreatPlays8
set_option linter.unusedVariables false
set_option linter.unusedSimpArgs false
set_option maxRecDepth 100000
namespace Go.Proofs.YtcnebgokbjpjnaaGreat
open Go

theorem Pr.no_row {w : World} {g g' : Nat} {v v' : Value} {l m : List Smp} (h : Pr w g v l g' v' m) {t : TypeId} {size n : Nat} {u : Value} {xs : List Value} (ho : LRow w t size u n xs) (h1 : t ≠ 82) (h2 : t ≠ 84) (h3 : t ≠ 89) : ∀ q, fpV u q → ¬ Fp g v g' v' q := by
  rintro q hq ((rfl | e) | (rfl | e))
  · exact ho.blk_ne h.s.b h1 hq
  · exact ho.ne h.s.row h3 q hq e
  · exact ho.blk_ne h.r.b h2 hq
  · exact ho.ne h.r.row h3 q hq e
theorem Pr.no_held {w : World} {g g' : Nat} {v v' : Value} {l m : List Smp} (h : Pr w g v l g' v' m) {t : TypeId} {size bytes : Nat} {vs : List Value} {ct : Nat → List Value} (ho : Held w t size bytes vs ct) (h1 : t ≠ 82) (h2 : t ≠ 84) (h3 : t ≠ 89) : ∀ q, fpL vs q → ¬ Fp g v g' v' q := by
  rintro q ⟨u, hu, hq⟩
  obtain ⟨i, hi⟩ := List.mem_iff_getElem?.1 hu
  exact h.no_row (ho.own i u hi) h1 h2 h3 q hq
/-- the book and both series. -/
structure Sit (w0 w : World) (p g : Nat) (v : Value) (l : List Smp) (g' : Nat) (v' : Value) (m : List Smp) (v7 v19 : List Value) (N : Nat) : Prop where
  pr : Pr w g v l g' v' m
  bk : ∃ v5 s5 s7 s19 c5 c7 c19, Bk w0 w p v5 v7 v19 s5 s7 s19 c5 c7 c19 ∧ v5.length ≤ N
  n7 : v7.length ≤ N
  n19 : v19.length ≤ N
  ap : ∀ k, fpL v7 k → ¬ Fp g v g' v' k
  lo : ∀ k, Fp g v g' v' k → w0.heap.size ≤ k
  gw : Grow w0 w
section
variable {w0 w : World} {p g : Nat} {v : Value} {l : List Smp} {g' : Nat} {v' : Value} {m : List Smp} {v7 v19 : List Value} {N : Nat}
theorem Sit.grow {w1 : World} (h : Sit w0 w p g v l g' v' m v7 v19 N) (k : Grow w w1) : Sit w0 w1 p g v l g' v' m v7 v19 N := by
  obtain ⟨v5, s5, s7, s19, c5, c7, c19, hb, hn⟩ := h.bk
  exact ⟨h.pr.grow k, ⟨v5, s5, s7, s19, c5, c7, c19, hb.grow k, hn⟩, h.n7, h.n19, h.ap, h.lo, h.gw.trans k⟩
theorem Sit.more {M : Nat} (h : Sit w0 w p g v l g' v' m v7 v19 N) (k : N ≤ M) : Sit w0 w p g v l g' v' m v7 v19 M := by
  obtain ⟨v5, s5, s7, s19, c5, c7, c19, hb, hn⟩ := h.bk
  exact ⟨h.pr, ⟨v5, s5, s7, s19, c5, c7, c19, hb, by omega⟩, Nat.le_trans h.n7 k, Nat.le_trans h.n19 k, h.ap, h.lo, h.gw⟩
theorem Sit.lt7 (h : Sit w0 w p g v l g' v' m v7 v19 N) : ∀ k, fpL v7 k → k < w.heap.size := by
  obtain ⟨v5, s5, s7, s19, c5, c7, c19, hb, hn⟩ := h.bk
  exact hb.h7.lt
theorem Sit.lt19 (h : Sit w0 w p g v l g' v' m v7 v19 N) : ∀ k, fpL v19 k → k < w.heap.size := by
  obtain ⟨v5, s5, s7, s19, c5, c7, c19, hb, hn⟩ := h.bk
  exact hb.h19.lt
/-- the series go on. -/
theorem Sit.move {w1 : World} {v1 v2 : Value} {l1 m1 : List Smp} (h : Sit w0 w p g v l g' v' m v7 v19 N) (hP : Pr w1 g v1 l1 g' v2 m1) (k : Keep (Fp g v g' v') w w1)
    (f1 : ∀ q, fpV v1 q → fpV v q ∨ w.heap.size ≤ q) (f2 : ∀ q, fpV v2 q → fpV v' q ∨ w.heap.size ≤ q) : Sit w0 w1 p g v1 l1 g' v2 m1 v7 v19 N := by
  obtain ⟨v5, s5, s7, s19, c5, c7, c19, hb, hn⟩ := h.bk
  have hgs := h.gw.size
  have ff : ∀ q, Fp g v1 g' v2 q → Fp g v g' v' q ∨ w.heap.size ≤ q := by
    rintro q ((e | e) | (e | e))
    · exact .inl (.inl (.inl e))
    · exact (f1 q e).imp (fun e => .inl (.inr e)) id
    · exact .inl (.inr (.inl e))
    · exact (f2 q e).imp (fun e => .inr (.inr e)) id
  refine ⟨hP, ⟨v5, s5, s7, s19, c5, c7, c19, hb.keep k (h.pr.no hb.b (by decide) (by decide) (by decide)) (fun i q => ?_) (fun i q => ?_), hn⟩, h.n7, h.n19, fun q hq e => ?_, fun q hq => ?_, h.gw.above k (fun q hq e => ?_)⟩
  · rcases q with q | q | q
    · exact h.pr.no_row hb.o5 (by decide) (by decide) (by decide) i q
    · exact h.pr.no_row hb.o7 (by decide) (by decide) (by decide) i q
    · exact h.pr.no_row hb.o19 (by decide) (by decide) (by decide) i q
  · rcases q with q | q | q
    · exact h.pr.no_held hb.h5 (by decide) (by decide) (by decide) i q
    · exact h.ap i q
    · exact h.pr.no_held hb.h19 (by decide) (by decide) (by decide) i q
  · rcases ff q e with e | e
    · exact h.ap q hq e
    · have := h.lt7 q hq; omega
  · rcases ff q hq with e | e
    · exact h.lo q e
    · omega
  · have := h.lo q e; omega
theorem Sit.sStep {w1 : World} {v1 : Value} {l1 : List Smp} (h : Sit w0 w p g v l g' v' m v7 v19 N) (hS : SerAt w1 g v1 l1) (k : Keep (fun q => q = g ∨ fpV v q) w w1) (f : ∀ q, fpV v1 q → fpV v q ∨ w.heap.size ≤ q) : Sit w0 w1 p g v1 l1 g' v' m v7 v19 N :=
  h.move (h.pr.sStep hS k f) (k.mono (fun _ _ e => .inl e)) f (fun _ e => .inl e)
theorem Sit.rStep {w1 : World} {v1 : Value} {l1 : List Smp} (h : Sit w0 w p g v l g' v' m v7 v19 N) (hS : RefAt w1 g' v1 l1) (k : Keep (fun q => q = g' ∨ fpV v' q) w w1) (f : ∀ q, fpV v1 q → fpV v' q ∨ w.heap.size ≤ q) : Sit w0 w1 p g v l g' v1 l1 v7 v19 N :=
  h.move (h.pr.rStep hS k f) (k.mono (fun _ _ e => .inr e)) (fun _ e => .inl e) f
theorem one_slice {A : Option Addr} {n c : Nat} : ∀ u ∈ [Value.slice A n c], u.oneCell' = true := by intro u hu; rw [List.mem_singleton.1 hu]; rfl
theorem lo_of {w0 w : World} (k : Grow w0 w) {q : Nat} (h : w.heap.size ≤ q) : w0.heap.size ≤ q := Nat.le_trans k.size h

theorem sit_samples (h : Sit w0 w p g v l g' v' m v7 v19 N) {A : Option Addr} {n c : Nat} {xs : List Value} (ho : LRow w 89 3 (.slice A n c) n xs) (hf : ∀ k, fpA A k → w0.heap.size ≤ k ∧ ¬ fpL v7 k ∧ ¬ Fp g v g' v' k)
    (hb : n ≤ 1000000000000) (hN : N + 1 ≤ 1099511627776) {R : VWK} (hr : ∀ w', Sit w0 w' p g v l g' v' m (v7 ++ [.slice A n c]) v19 (N + 1) → R (.tuple #[]) w') : CallsV Tryz.prog 7 [.pointer (some ⟨p, 0, none⟩), .slice A n c] w R := by
  obtain ⟨v5, s5, s7, s19, c5, c7, c19, hk, hn⟩ := h.bk
  have hn7 := h.n7
  have hst : w.cell? ⟨p, 7, none⟩ = some s7 := (hk.b.cell 7).trans rfl
  have hb1 := Blk.new' w 62 #[.slice A n c]
  have ga := Grow.alloc w (.cells #[.slice A n c] 62)
  have hr1 : Rd (w.alloc (.cells #[.slice A n c] 62)) (some ⟨w.heap.size, 0, none⟩) 1 1 [.slice A n c] := Rd.of_cells _ _ _ _ _ hb1 rfl
  obtain ⟨Ai, Ci, hs7, _, _⟩ := hk.o7.form
  refine calls_of_wpC mixed Tryz.func7 rfl (by kernel_rfl) ?_
  intro e he
  have he0 := he 0
  have he1 := he 1
  simp only [List.getD_cons_zero, List.getD_cons_succ] at he0 he1
  clear he
  try simp -dsimp only [↓RE,↓c_seq,RU,RL,if_true,if_false,forall_const,implies_true,Nat.reduceLeDiff,Nat.reduceLT,pureOp,binPure,intBin,strBin,eqPure,isConstO,unPure,sliceLo,sliceHi,slicePure,slice3Pure,lenPure,capPure,minPure,maxPure,buildP,resK,endV,yieldE,↓reduceIte,Nat.reduceEqDiff,reduceCtorEq,Nat.reduceAdd,Nat.reduceMul,Nat.reduceSub,Int.reduceLT,Int.reduceLE,Int.reduceToNat,Int.reduceAdd,Int.reduceSub,Int.reduceMul,ne_eq,decide_true,decide_false,tf7, he0, he1, hst]
  refine appK_l3 (m := 1) (bytes := 24) (by kernel_rfl) (hk.o7.grow ga) hr1 one_slice (by show v7.length + 1 ≤ maxLen; simp only [maxLen]; omega) (by show (v7.length + 1) * 24 ≤ 140737488355328; omega) (fun A3 C3 w3 hO3 k3 hF3 => ?_)
  have hB3 := (hk.b.grow ga).keep k3 (hk.o7.blk_ne hk.b (by decide))
  obtain ⟨hX, kk⟩ := hk.takeSamples (ga := ga) ho (fun k hk => ⟨(hf k hk).1, (hf k hk).2.1⟩) (by simp only [maxLen]; omega) hO3 k3 hF3
  try simp -dsimp only [↓RE,↓c_seq,RU,RL,if_true,if_false,forall_const,implies_true,Nat.reduceLeDiff,Nat.reduceLT,pureOp,binPure,intBin,strBin,eqPure,isConstO,unPure,sliceLo,sliceHi,slicePure,slice3Pure,lenPure,capPure,minPure,maxPure,buildP,resK,endV,yieldE,↓reduceIte,Nat.reduceEqDiff,reduceCtorEq,Nat.reduceAdd,Nat.reduceMul,Nat.reduceSub,Int.reduceLT,Int.reduceLE,Int.reduceToNat,Int.reduceAdd,Int.reduceSub,Int.reduceMul,ne_eq,decide_true,decide_false,tf7, he0, he1]
  refine hB3.st (i := 7) (by simp [bkCells]) ?_
  try simp -dsimp only [↓RE,↓c_seq,RU,RL,if_true,if_false,forall_const,implies_true,Nat.reduceLeDiff,Nat.reduceLT,pureOp,binPure,intBin,strBin,eqPure,isConstO,unPure,sliceLo,sliceHi,slicePure,slice3Pure,lenPure,capPure,minPure,maxPure,buildP,resK,endV,yieldE,↓reduceIte,Nat.reduceEqDiff,reduceCtorEq,Nat.reduceAdd,Nat.reduceMul,Nat.reduceSub,Int.reduceLT,Int.reduceLE,Int.reduceToNat,Int.reduceAdd,Int.reduceSub,Int.reduceMul,ne_eq,decide_true,decide_false,tf7, he0, he1]
  refine hr _ ⟨h.pr.keep kk (fun q hq e => ?_), ⟨_, _, _, _, _, _, _, hX, by omega⟩, by simp only [List.length_append, List.length_cons, List.length_nil]; omega, by have := h.n19; omega, fun k hq => ?_, h.lo, h.gw.above kk (fun q hq e => ?_)⟩
  · rcases e with e | e
    · exact h.pr.no hk.b (by decide) (by decide) (by decide) (e ▸ hq)
    · exact h.pr.no_row hk.o7 (by decide) (by decide) (by decide) q e hq
  · obtain ⟨u, hu, hq⟩ := hq
    rcases List.mem_append.1 hu with hu | hu
    · exact h.ap k ⟨u, hu, hq⟩
    · rw [List.mem_singleton.1 hu] at hq; exact (hf k ((fpV_fpA _ _ _ _).1 hq)).2.2
  · rcases e with e | e
    · have := hk.fp; omega
    · have := hk.fs q (.inr (.inl e)); omega
theorem sit_tags (h : Sit w0 w p g v l g' v' m v7 v19 N) (hN : N + 1 ≤ 1099511627776) {R : VWK}
    (hr : ∀ w', Sit w0 w' p g v l g' v' m v7 v19 (N + 1) → (∀ {t : TypeId} {size k : Nat} {u : Value} {xs : List Value}, t ≠ 58 → t ≠ 91 → LRow w t size u k xs → LRow w' t size u k xs) → R (.tuple #[]) w') :
    CallsV Tryz.prog 25 [.pointer (some ⟨p, 0, none⟩), .slice none 0 0] w R := by
  obtain ⟨v5, s5, s7, s19, c5, c7, c19, hk, hn⟩ := h.bk
  have hst : w.cell? ⟨p, 5, none⟩ = some s5 := (hk.b.cell 5).trans rfl
  have hb1 := Blk.new' w 91 #[.slice none 0 0]
  have ga := Grow.alloc w (.cells #[.slice none 0 0] 91)
  have hr1 : Rd (w.alloc (.cells #[.slice none 0 0] 91)) (some ⟨w.heap.size, 0, none⟩) 1 1 [.slice none 0 0] := Rd.of_cells _ _ _ _ _ hb1 rfl
  obtain ⟨Ai, Ci, hs5, _, _⟩ := hk.o5.form
  refine calls_of_wpC mixed Tryz.func25 rfl (by kernel_rfl) ?_
  intro e he
  have he0 := he 0
  have he1 := he 1
  simp only [List.getD_cons_zero, List.getD_cons_succ] at he0 he1
  clear he
  try simp -dsimp only [↓RE,↓c_seq,RU,RL,if_true,if_false,forall_const,implies_true,Nat.reduceLeDiff,Nat.reduceLT,pureOp,binPure,intBin,strBin,eqPure,isConstO,unPure,sliceLo,sliceHi,slicePure,slice3Pure,lenPure,capPure,minPure,maxPure,buildP,resK,endV,yieldE,↓reduceIte,Nat.reduceEqDiff,reduceCtorEq,Nat.reduceAdd,Nat.reduceMul,Nat.reduceSub,Int.reduceLT,Int.reduceLE,Int.reduceToNat,Int.reduceAdd,Int.reduceSub,Int.reduceMul,ne_eq,decide_true,decide_false,tf25, he0, he1, hst]
  refine appK_l3 (m := 1) (bytes := 24) (by kernel_rfl) (hk.o5.grow ga) hr1 one_slice (by show v5.length + 1 ≤ maxLen; simp only [maxLen]; omega) (by show (v5.length + 1) * 24 ≤ 140737488355328; omega) (fun A3 C3 w3 hO3 k3 hF3 => ?_)
  have hB3 := (hk.b.grow ga).keep k3 (hk.o5.blk_ne hk.b (by decide))
  obtain ⟨hX, kk⟩ := hk.takeTags (ga := ga) (LRow.nil _ _ _) (fun k hk => by obtain ⟨_, e, _⟩ := hk; cases e) (by decide) hO3 k3 hF3
  try simp -dsimp only [↓RE,↓c_seq,RU,RL,if_true,if_false,forall_const,implies_true,Nat.reduceLeDiff,Nat.reduceLT,pureOp,binPure,intBin,strBin,eqPure,isConstO,unPure,sliceLo,sliceHi,slicePure,slice3Pure,lenPure,capPure,minPure,maxPure,buildP,resK,endV,yieldE,↓reduceIte,Nat.reduceEqDiff,reduceCtorEq,Nat.reduceAdd,Nat.reduceMul,Nat.reduceSub,Int.reduceLT,Int.reduceLE,Int.reduceToNat,Int.reduceAdd,Int.reduceSub,Int.reduceMul,ne_eq,decide_true,decide_false,tf25, he0, he1]
  refine hB3.st (i := 5) (by simp [bkCells]) ?_
  try simp -dsimp only [↓RE,↓c_seq,RU,RL,if_true,if_false,forall_const,implies_true,Nat.reduceLeDiff,Nat.reduceLT,pureOp,binPure,intBin,strBin,eqPure,isConstO,unPure,sliceLo,sliceHi,slicePure,slice3Pure,lenPure,capPure,minPure,maxPure,buildP,resK,endV,yieldE,↓reduceIte,Nat.reduceEqDiff,reduceCtorEq,Nat.reduceAdd,Nat.reduceMul,Nat.reduceSub,Int.reduceLT,Int.reduceLE,Int.reduceToNat,Int.reduceAdd,Int.reduceSub,Int.reduceMul,ne_eq,decide_true,decide_false,tf25, he0, he1]
  refine hr _ ⟨h.pr.keep kk (fun q hq e => ?_), ⟨_, _, _, _, _, _, _, hX, by simp only [List.length_append, List.length_cons, List.length_nil]; omega⟩, by have := h.n7; omega, by have := h.n19; omega, h.ap, h.lo, h.gw.above kk (fun q hq e => ?_)⟩ (fun h1 h2 hL => hL.keep kk (fun q hq e => ?_))
  · rcases e with e | e
    · exact h.pr.no hk.b (by decide) (by decide) (by decide) (e ▸ hq)
    · exact h.pr.no_row hk.o5 (by decide) (by decide) (by decide) q e hq
  · rcases e with e | e
    · have := hk.fp; omega
    · have := hk.fs q (.inl e); omega
  · rcases e with e | e
    · exact hL.blk_ne hk.b h1 (e ▸ hq)
    · exact hL.ne hk.o5 h2 q hq e
theorem sit_deltas (h : Sit w0 w p g v l g' v' m v7 v19 N) {A : Option Addr} {n c : Nat} {D : List Dlt} (hD : LRow w 95 10 (.slice A n c) n (D.flatMap dcells)) (hf : ∀ k, fpA A k → w0.heap.size ≤ k ∧ ¬ fpL v19 k)
    (hb : n ≤ 1000000000000) (hN : N + 1 + n ≤ 1099511627776) {R : VWK} (hr : ∀ w', Sit w0 w' p g v l g' v' m v7 (v19 ++ [.slice A n c]) (N + 1 + n) → R (.tuple #[]) w') : CallsV Tryz.prog 10 [.pointer (some ⟨p, 0, none⟩), .slice A n c] w R := by
  obtain ⟨v5, s5, s7, s19, c5, c7, c19, hk, hn⟩ := h.bk
  have hn19 := h.n19
  have hst : w.cell? ⟨p, 19, none⟩ = some s19 := (hk.b.cell 19).trans rfl
  have hb1 := Blk.new' w 68 #[.slice A n c]
  have ga := Grow.alloc w (.cells #[.slice A n c] 68)
  have hr1 : Rd (w.alloc (.cells #[.slice A n c] 68)) (some ⟨w.heap.size, 0, none⟩) 1 1 [.slice A n c] := Rd.of_cells _ _ _ _ _ hb1 rfl
  obtain ⟨Ai, Ci, hs19, _, _⟩ := hk.o19.form
  refine calls_of_wpC mixed Tryz.func10 rfl (by kernel_rfl) ?_
  intro e he
  have he0 := he 0
  have he1 := he 1
  simp only [List.getD_cons_zero, List.getD_cons_succ] at he0 he1
  clear he
  rw [c_seq]
  simp -dsimp only [↓RE,RU,RL,if_true,if_false,forall_const,implies_true,Nat.reduceLeDiff,Nat.reduceLT,pureOp,binPure,intBin,strBin,eqPure,isConstO,unPure,sliceLo,sliceHi,slicePure,slice3Pure,lenPure,capPure,minPure,maxPure,buildP,resK,endV,yieldE,↓reduceIte,Nat.reduceEqDiff,reduceCtorEq,Nat.reduceAdd,Nat.reduceMul,Nat.reduceSub,Int.reduceLT,Int.reduceLE,Int.reduceToNat,Int.reduceAdd,Int.reduceSub,Int.reduceMul,ne_eq,decide_true,decide_false,tf10, he0, he1, hst]
  refine appK_l3 (m := 1) (bytes := 24) (by kernel_rfl) (hk.o19.grow ga) hr1 one_slice (by show v19.length + 1 ≤ maxLen; simp only [maxLen]; omega) (by show (v19.length + 1) * 24 ≤ 140737488355328; omega) (fun A3 C3 w3 hO3 k3 hF3 => ?_)
  have hB3 := (hk.b.grow ga).keep k3 (hk.o19.blk_ne hk.b (by decide))
  obtain ⟨hX, kk⟩ := hk.takeDeltas (ga := ga) hD hf (by simp only [maxLen]; omega) hO3 k3 hF3
  simp -dsimp only [↓RE,RU,RL,if_true,if_false,forall_const,implies_true,Nat.reduceLeDiff,Nat.reduceLT,pureOp,binPure,intBin,strBin,eqPure,isConstO,unPure,sliceLo,sliceHi,slicePure,slice3Pure,lenPure,capPure,minPure,maxPure,buildP,resK,endV,yieldE,↓reduceIte,Nat.reduceEqDiff,reduceCtorEq,Nat.reduceAdd,Nat.reduceMul,Nat.reduceSub,Int.reduceLT,Int.reduceLE,Int.reduceToNat,Int.reduceAdd,Int.reduceSub,Int.reduceMul,ne_eq,decide_true,decide_false,tf10, he0, he1]
  refine hB3.st (i := 19) (by simp [bkCells]) ?_
  have hS4 : Sit w0 (w3.setCell ⟨p, 19, none⟩ (.slice A3 (v19.length + 1) C3)) p g v l g' v' m v7 (v19 ++ [.slice A n c]) (N + 1) := by
    refine ⟨h.pr.keep kk (fun q hq e => ?_), ⟨_, _, _, _, _, _, _, hX, by omega⟩, by have := h.n7; omega, by simp only [List.length_append, List.length_cons, List.length_nil]; omega, h.ap, h.lo, h.gw.above kk (fun q hq e => ?_)⟩
    · rcases e with e | e
      · exact h.pr.no hk.b (by decide) (by decide) (by decide) (e ▸ hq)
      · exact h.pr.no_row hk.o19 (by decide) (by decide) (by decide) q e hq
    · rcases e with e | e
      · have := hk.fp; omega
      · have := hk.fs q (.inr (.inr e)); omega
  have hD4 := hD.keep kk (fun q hq e => by
    rcases e with e | e
    · exact hD.blk_ne hk.b (by decide) (e ▸ hq)
    · exact hD.ne hk.o19 (by decide) q hq e)
  generalize w3.setCell ⟨p, 19, none⟩ (.slice A3 (v19.length + 1) C3) = w4 at hS4 hD4
  simp -dsimp only [↓RE,RU,RL,if_true,if_false,forall_const,implies_true,Nat.reduceLeDiff,Nat.reduceLT,pureOp,binPure,intBin,strBin,eqPure,isConstO,unPure,sliceLo,sliceHi,slicePure,slice3Pure,lenPure,capPure,minPure,maxPure,buildP,resK,endV,yieldE,↓reduceIte,Nat.reduceEqDiff,reduceCtorEq,Nat.reduceAdd,Nat.reduceMul,Nat.reduceSub,Int.reduceLT,Int.reduceLE,Int.reduceToNat,Int.reduceAdd,Int.reduceSub,Int.reduceMul,ne_eq,decide_true,decide_false,tf10, he0, he1]
  rw [c_seq]
  simp -dsimp only [↓RE,RU,RL,if_true,if_false,forall_const,implies_true,Nat.reduceLeDiff,Nat.reduceLT,pureOp,binPure,intBin,strBin,eqPure,isConstO,unPure,sliceLo,sliceHi,slicePure,slice3Pure,lenPure,capPure,minPure,maxPure,buildP,resK,endV,yieldE,↓reduceIte,Nat.reduceEqDiff,reduceCtorEq,Nat.reduceAdd,Nat.reduceMul,Nat.reduceSub,Int.reduceLT,Int.reduceLE,Int.reduceToNat,Int.reduceAdd,Int.reduceSub,Int.reduceMul,ne_eq,decide_true,decide_false,tf10, he0, he1]
  refine wpLoop_intro (fun e' w' => (e' 0 = .pointer (some ⟨p, 0, none⟩) ∧ e' 1 = .slice A n c) ∧ ∃ i : Nat, i ≤ n ∧ e' 4 = .int .i64 i ∧ Sit w0 w' p g v l g' v' m v7 (v19 ++ [.slice A n c]) (N + 1 + i) ∧ LRow w' 95 10 (.slice A n c) n (D.flatMap dcells))
    (fun e' _ => n - (envInt (e' 4)).toNat) ⟨⟨by simp -dsimp only [↓RE,RU,RL,if_true,if_false,↓reduceIte,Nat.reduceEqDiff,reduceCtorEq,decide_true,decide_false, he0], by simp -dsimp only [↓RE,RU,RL,if_true,if_false,↓reduceIte,Nat.reduceEqDiff,reduceCtorEq,decide_true,decide_false, he1]⟩, 0, Nat.zero_le _, by simp -dsimp only [↓RE,RU,RL,if_true,if_false,↓reduceIte,Nat.reduceEqDiff,reduceCtorEq,decide_true,decide_false, he0, Int.cast_ofNat_Int], hS4, hD4⟩ ?_
  clear he0 he1
  rintro e1 w1 ⟨⟨he0, he1⟩, i, hi, he4, hS, hL⟩
  rw [c_seq, c_seq]
  simp -dsimp only [↓RE,RU,RL,if_true,if_false,forall_const,implies_true,Nat.reduceLeDiff,Nat.reduceLT,pureOp,binPure,intBin,strBin,eqPure,isConstO,unPure,sliceLo,sliceHi,slicePure,slice3Pure,lenPure,capPure,minPure,maxPure,buildP,resK,endV,yieldE,↓reduceIte,Nat.reduceEqDiff,reduceCtorEq,Nat.reduceAdd,Nat.reduceMul,Nat.reduceSub,Int.reduceLT,Int.reduceLE,Int.reduceToNat,Int.reduceAdd,Int.reduceSub,Int.reduceMul,ne_eq,decide_true,decide_false,tf10, he0, he1, he4]
  refine ⟨fun hlt => ?_, fun hge => ?_⟩
  · have hin : i < n := by omega
    obtain ⟨ad, rfl⟩ : ∃ ad, A = some ad := by obtain ⟨ad, h, _⟩ := hL.rd.2 (by omega); exact ⟨ad, h⟩
    have hcell : w1.cell? (((ad.add (i * 10)).add 0).add 1) = some (.slice none 0 0) := hL.rd.dlt hin 1 (.slice none 0 0) rfl
    have hw1 : IntKind.i64.wrap ((i : Int) + 1) = ((i + 1 : Nat) : Int) := by rw [wrap_i64_in (by omega) (by omega)]; omega
    rw [c_seq]
    simp -dsimp only [↓RE,RU,RL,if_true,if_false,forall_const,implies_true,Nat.reduceLeDiff,Nat.reduceLT,pureOp,binPure,intBin,strBin,eqPure,isConstO,unPure,sliceLo,sliceHi,slicePure,slice3Pure,lenPure,capPure,minPure,maxPure,buildP,resK,endV,yieldE,↓reduceIte,Nat.reduceEqDiff,reduceCtorEq,Nat.reduceAdd,Nat.reduceMul,Nat.reduceSub,Int.reduceLT,Int.reduceLE,Int.reduceToNat,Int.reduceAdd,Int.reduceSub,Int.reduceMul,ne_eq,decide_true,decide_false,tf10, he0, he1, he4, hcell]
    refine ⟨by omega, ?_⟩
    refine sit_tags hS (by omega) (fun w2 hS2 hL2 => ?_)
    have hL2 := hL2 (by decide) (by decide) hL
    simp -dsimp only [↓RE,RU,RL,if_true,if_false,forall_const,implies_true,Nat.reduceLeDiff,Nat.reduceLT,pureOp,binPure,intBin,strBin,eqPure,isConstO,unPure,sliceLo,sliceHi,slicePure,slice3Pure,lenPure,capPure,minPure,maxPure,buildP,resK,endV,yieldE,↓reduceIte,Nat.reduceEqDiff,reduceCtorEq,Nat.reduceAdd,Nat.reduceMul,Nat.reduceSub,Int.reduceLT,Int.reduceLE,Int.reduceToNat,Int.reduceAdd,Int.reduceSub,Int.reduceMul,ne_eq,decide_true,decide_false,tf10, he0, he1, he4, hw1]
    refine hold_intro ⟨⟨⟨by simp -dsimp only [↓RE,RU,RL,if_true,if_false,↓reduceIte,Nat.reduceEqDiff,reduceCtorEq,decide_true,decide_false, he0], by simp -dsimp only [↓RE,RU,RL,if_true,if_false,↓reduceIte,Nat.reduceEqDiff,reduceCtorEq,decide_true,decide_false, he1]⟩, i + 1, by omega, by simp -dsimp only [↓RE,RU,RL,if_true,if_false,↓reduceIte,Nat.reduceEqDiff,reduceCtorEq,decide_true,decide_false, he4, hw1], hS2, hL2⟩, ?_⟩
    simp -dsimp only [↓RE,↓c_seq,RU,RL,if_true,if_false,forall_const,implies_true,Nat.reduceLeDiff,Nat.reduceLT,pureOp,binPure,intBin,strBin,eqPure,isConstO,unPure,sliceLo,sliceHi,slicePure,slice3Pure,lenPure,capPure,minPure,maxPure,buildP,resK,endV,yieldE,↓reduceIte,Nat.reduceEqDiff,reduceCtorEq,Nat.reduceAdd,Nat.reduceMul,Nat.reduceSub,Int.reduceLT,Int.reduceLE,Int.reduceToNat,Int.reduceAdd,Int.reduceSub,Int.reduceMul,ne_eq,decide_true,decide_false,tf10, he4, hw1]
    simp only [envInt_int]; omega
  · obtain rfl : i = n := by omega
    try simp -dsimp only [↓RE,↓c_seq,RU,RL,if_true,if_false,forall_const,implies_true,Nat.reduceLeDiff,Nat.reduceLT,pureOp,binPure,intBin,strBin,eqPure,isConstO,unPure,sliceLo,sliceHi,slicePure,slice3Pure,lenPure,capPure,minPure,maxPure,buildP,resK,endV,yieldE,↓reduceIte,Nat.reduceEqDiff,reduceCtorEq,Nat.reduceAdd,Nat.reduceMul,Nat.reduceSub,Int.reduceLT,Int.reduceLE,Int.reduceToNat,Int.reduceAdd,Int.reduceSub,Int.reduceMul,ne_eq,decide_true,decide_false,tf10, he0, he1]
    exact hr _ hS
end

end Go.Proofs.YtcnebgokbjpjnaaGreat
