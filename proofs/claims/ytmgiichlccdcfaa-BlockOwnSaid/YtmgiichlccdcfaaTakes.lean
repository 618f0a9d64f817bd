/- weirmem.Book's Take functions: what is taken is kept. -/
import Derived.Test.YtmgiichlccdcfaaAlone
set_option linter.unusedVariables false
set_option linter.unusedSimpArgs false
set_option maxRecDepth 100000
namespace Go.Proofs.Ytmgiichlccdcfaa
open Go

section
variable {w0 w : World} {p : Nat} {v0 v3 v7 : List Value} {s0 s3 s7 : Value} {c0 c3 c7 : Nat → List Value}
theorem takeBytes_ok (h : Bk w0 w p v0 v3 v7 s0 s3 s7 c0 c3 c7) {A : Option Addr} {n c : Nat} {xs : List Value} (ho : w.ownsRow 0 5 1 (.slice A n c) n xs) (hf : ∀ k, fpA A k → w0.heap.size ≤ k ∧ ¬ fpL v0 k)
    (hb : n + 20 ≤ maxLen ∧ (n + 20) * 1 ≤ 140737488355328) (hN : v0.length + 1 ≤ 1099511627776) {R : VWK}
    (hr : ∀ w' s', Bk w0 w' p (v0 ++ [.slice A n c]) v3 v7 s' s3 s7 (fun j => if j = v0.length then xs else c0 j) c3 c7 → Keep (fun k => k = p ∨ fpV s0 k) w w' → R (.tuple #[]) w') : CallsV Try.prog 17 [.pointer (some ⟨p, 0, none⟩), .slice A n c] w R := by
  obtain ⟨Ai, Ci, hs0, _, _⟩ := own_form h.o0
  have hst : w.cell? ⟨p, 0, none⟩ = some s0 := (h.b.cell 0).trans rfl
  have hg1 : ∀ u ∈ [Value.slice A n c], u.oneCell' = true := by intro u hu; rw [List.mem_singleton.1 hu]; rfl
  have hb1 := Blk.new' w 29 #[.slice A n c]
  have ga := Grow.alloc w (.cells #[.slice A n c] 29)
  have hr1 : Rd (w.alloc (.cells #[.slice A n c] 29)) (some ⟨w.heap.size, 0, none⟩) 1 1 [.slice A n c] := Rd.of_cells _ _ _ _ _ hb1 rfl
  have hlt := own_lt h.o0
  have hgas := ga.size
  have hlp := h.b.lt
  have hfp := h.fp
  have hfs := h.fs
  have hfl := h.fl
  have hle : w0.heap.size ≤ w.heap.size := by omega
  refine calls_of_wpC mixed Try.func17 rfl (by kernel_rfl) ?_
  intro e he
  have he0 := he 0
  have he1 := he 1
  simp only [List.getD_cons_zero, List.getD_cons_succ] at he0 he1
  clear he
  try simp -dsimp only [↓RE,↓c_seq,RU,RL,if_true,if_false,forall_const,implies_true,Nat.reduceLeDiff,Nat.reduceLT,pureOp,binPure,intBin,strBin,eqPure,isConstO,unPure,sliceLo,sliceHi,slicePure,lenPure,minPure,maxPure,buildP,resK,endV,yieldE,↓reduceIte,Nat.reduceEqDiff,reduceCtorEq,Nat.reduceAdd,Nat.reduceMul,Nat.reduceSub,Int.reduceLT,Int.reduceLE,Int.reduceToNat,Int.reduceAdd,Int.reduceSub,Int.reduceMul,ne_eq,decide_true,decide_false,tf17, he0, he1, hst]
  refine appK_own (m := 1) (bytes := 24) (by kernel_rfl) (own_grow h.o0 ga) hr1 hg1 (by show v0.length + 1 ≤ maxLen; simp only [maxLen]; omega) (by show (v0.length + 1) * 24 ≤ 140737488355328; omega) (fun A3 C3 w3 hO3 k3 hF3 => ?_)
  have hB3 := (h.b.grow ga).keep k3 (own_blk_ne h.o0 h.b (by decide))
  have hz3 := k3.size
  try simp -dsimp only [↓RE,↓c_seq,RU,RL,if_true,if_false,forall_const,implies_true,Nat.reduceLeDiff,Nat.reduceLT,pureOp,binPure,intBin,strBin,eqPure,isConstO,unPure,sliceLo,sliceHi,slicePure,lenPure,minPure,maxPure,buildP,resK,endV,yieldE,↓reduceIte,Nat.reduceEqDiff,reduceCtorEq,Nat.reduceAdd,Nat.reduceMul,Nat.reduceSub,Int.reduceLT,Int.reduceLE,Int.reduceToNat,Int.reduceAdd,Int.reduceSub,Int.reduceMul,ne_eq,decide_true,decide_false,tf17, he0, he1]
  refine hB3.st (i := 0) (by simp [bkCells]) ?_
  have hB4 := hB3.set 0 (.slice A3 (v0.length + 1) C3)
  have k4 := Keep.set1 w3 p 0 (.slice A3 (v0.length + 1) C3)
  have hlen : (v0 ++ [Value.slice A n c]).length = v0.length + 1 := by simp
  have hO4 : (w3.setCell ⟨p, 0, none⟩ (.slice A3 (v0.length + 1) C3)).ownsRow 0 29 1 (.slice A3 (v0.length + 1) C3) (v0 ++ [Value.slice A n c]).length (v0 ++ [Value.slice A n c]) := by
    rw [hlen]; exact own_keep hO3 k4 (fun k q q' => own_blk_ne hO3 hB3 (by decide) (by rw [← q']; exact q))
  have hrow := own_keep (own_keep (own_grow ho ga) k3 (fun k q q' => own_ne ho h.o0 (by decide) k q q')) k4 (fun k q q' => own_blk_ne ho h.b (by decide) (by rw [← q']; exact q))
  have hH3 := ((h.h0.keep ga (fun _ _ q => q)).keep k3 (fun k q q' => held_own h.h0 h.o0 (by decide) k q q')).keep k4 (fun k q q' => own_held h.h0 h.b (by decide) (by rw [← q']; exact q))
  have hH4 := hH3.snoc hrow (fun k q => (hf k ((fpV_fpA _ _ _ _).1 q)).2) hb
  have kk : Keep (fun k => k = p ∨ fpV s0 k) w (w3.setCell ⟨p, 0, none⟩ (.slice A3 (v0.length + 1) C3)) := (ga.then k3).trans k4 (fun _ _ q => .inr q) (fun _ _ q => .inl q)
  try simp -dsimp only [↓RE,↓c_seq,RU,RL,if_true,if_false,forall_const,implies_true,Nat.reduceLeDiff,Nat.reduceLT,pureOp,binPure,intBin,strBin,eqPure,isConstO,unPure,sliceLo,sliceHi,slicePure,lenPure,minPure,maxPure,buildP,resK,endV,yieldE,↓reduceIte,Nat.reduceEqDiff,reduceCtorEq,Nat.reduceAdd,Nat.reduceMul,Nat.reduceSub,Int.reduceLT,Int.reduceLE,Int.reduceToNat,Int.reduceAdd,Int.reduceSub,Int.reduceMul,ne_eq,decide_true,decide_false,tf17, he0, he1]
  refine hr _ (.slice A3 (v0.length + 1) C3) ⟨hB4, hO4, own_keep (own_keep (own_grow h.o3 ga) k3 (fun k q q' => own_ne h.o3 h.o0 (by decide) k q q')) k4 (fun k q q' => own_blk_ne h.o3 h.b (by decide) (by rw [← q']; exact q)), own_keep (own_keep (own_grow h.o7 ga) k3 (fun k q q' => own_ne h.o7 h.o0 (by decide) k q q')) k4 (fun k q q' => own_blk_ne h.o7 h.b (by decide) (by rw [← q']; exact q)), hH4, ((h.h3.keep ga (fun _ _ q => q)).keep k3 (fun k q q' => held_own h.h3 h.o0 (by decide) k q q')).keep k4 (fun k q q' => own_held h.h3 h.b (by decide) (by rw [← q']; exact q)), ((h.h7.keep ga (fun _ _ q => q)).keep k3 (fun k q q' => held_own h.h7 h.o0 (by decide) k q q')).keep k4 (fun k q q' => own_held h.h7 h.b (by decide) (by rw [← q']; exact q)), hfp, fun k q => ?_, fun k q => ?_⟩ kk
  · rcases q with q | q | q
    · rcases hF3 k q with q | q
      · exact hfs k (.inl q)
      · omega
    · exact hfs k (.inr <| .inl q)
    · exact hfs k (.inr <| .inr q)
  · rcases q with q | q | q
    · obtain ⟨u, hu, hq⟩ := q
      rcases List.mem_append.1 hu with hu | hu
      · exact hfl k (.inl ⟨u, hu, hq⟩)
      · rw [List.mem_singleton.1 hu] at hq; exact (hf k ((fpV_fpA _ _ _ _).1 hq)).1
    · exact hfl k (.inr <| .inl q)
    · exact hfl k (.inr <| .inr q)
theorem takeInt64s_ok (h : Bk w0 w p v0 v3 v7 s0 s3 s7 c0 c3 c7) {A : Option Addr} {n c : Nat} {xs : List Value} (ho : w.ownsRow 0 2 1 (.slice A n c) n xs) (hf : ∀ k, fpA A k → w0.heap.size ≤ k ∧ ¬ fpL v3 k)
    (hb : n + 20 ≤ maxLen ∧ (n + 20) * 8 ≤ 140737488355328) (hN : v3.length + 1 ≤ 1099511627776) {R : VWK}
    (hr : ∀ w' s', Bk w0 w' p v0 (v3 ++ [.slice A n c]) v7 s0 s' s7 c0 (fun j => if j = v3.length then xs else c3 j) c7 → Keep (fun k => k = p ∨ fpV s3 k) w w' → R (.tuple #[]) w') : CallsV Try.prog 18 [.pointer (some ⟨p, 0, none⟩), .slice A n c] w R := by
  obtain ⟨Ai, Ci, hs3, _, _⟩ := own_form h.o3
  have hst : w.cell? ⟨p, 3, none⟩ = some s3 := (h.b.cell 3).trans rfl
  have hg1 : ∀ u ∈ [Value.slice A n c], u.oneCell' = true := by intro u hu; rw [List.mem_singleton.1 hu]; rfl
  have hb1 := Blk.new' w 77 #[.slice A n c]
  have ga := Grow.alloc w (.cells #[.slice A n c] 77)
  have hr1 : Rd (w.alloc (.cells #[.slice A n c] 77)) (some ⟨w.heap.size, 0, none⟩) 1 1 [.slice A n c] := Rd.of_cells _ _ _ _ _ hb1 rfl
  have hlt := own_lt h.o3
  have hgas := ga.size
  have hlp := h.b.lt
  have hfp := h.fp
  have hfs := h.fs
  have hfl := h.fl
  have hle : w0.heap.size ≤ w.heap.size := by omega
  refine calls_of_wpC mixed Try.func18 rfl (by kernel_rfl) ?_
  intro e he
  have he0 := he 0
  have he1 := he 1
  simp only [List.getD_cons_zero, List.getD_cons_succ] at he0 he1
  clear he
  try simp -dsimp only [↓RE,↓c_seq,RU,RL,if_true,if_false,forall_const,implies_true,Nat.reduceLeDiff,Nat.reduceLT,pureOp,binPure,intBin,strBin,eqPure,isConstO,unPure,sliceLo,sliceHi,slicePure,lenPure,minPure,maxPure,buildP,resK,endV,yieldE,↓reduceIte,Nat.reduceEqDiff,reduceCtorEq,Nat.reduceAdd,Nat.reduceMul,Nat.reduceSub,Int.reduceLT,Int.reduceLE,Int.reduceToNat,Int.reduceAdd,Int.reduceSub,Int.reduceMul,ne_eq,decide_true,decide_false,tf18, he0, he1, hst]
  refine appK_own (m := 1) (bytes := 24) (by kernel_rfl) (own_grow h.o3 ga) hr1 hg1 (by show v3.length + 1 ≤ maxLen; simp only [maxLen]; omega) (by show (v3.length + 1) * 24 ≤ 140737488355328; omega) (fun A3 C3 w3 hO3 k3 hF3 => ?_)
  have hB3 := (h.b.grow ga).keep k3 (own_blk_ne h.o3 h.b (by decide))
  have hz3 := k3.size
  try simp -dsimp only [↓RE,↓c_seq,RU,RL,if_true,if_false,forall_const,implies_true,Nat.reduceLeDiff,Nat.reduceLT,pureOp,binPure,intBin,strBin,eqPure,isConstO,unPure,sliceLo,sliceHi,slicePure,lenPure,minPure,maxPure,buildP,resK,endV,yieldE,↓reduceIte,Nat.reduceEqDiff,reduceCtorEq,Nat.reduceAdd,Nat.reduceMul,Nat.reduceSub,Int.reduceLT,Int.reduceLE,Int.reduceToNat,Int.reduceAdd,Int.reduceSub,Int.reduceMul,ne_eq,decide_true,decide_false,tf18, he0, he1]
  refine hB3.st (i := 3) (by simp [bkCells]) ?_
  have hB4 := hB3.set 3 (.slice A3 (v3.length + 1) C3)
  have k4 := Keep.set1 w3 p 3 (.slice A3 (v3.length + 1) C3)
  have hlen : (v3 ++ [Value.slice A n c]).length = v3.length + 1 := by simp
  have hO4 : (w3.setCell ⟨p, 3, none⟩ (.slice A3 (v3.length + 1) C3)).ownsRow 0 77 1 (.slice A3 (v3.length + 1) C3) (v3 ++ [Value.slice A n c]).length (v3 ++ [Value.slice A n c]) := by
    rw [hlen]; exact own_keep hO3 k4 (fun k q q' => own_blk_ne hO3 hB3 (by decide) (by rw [← q']; exact q))
  have hrow := own_keep (own_keep (own_grow ho ga) k3 (fun k q q' => own_ne ho h.o3 (by decide) k q q')) k4 (fun k q q' => own_blk_ne ho h.b (by decide) (by rw [← q']; exact q))
  have hH3 := ((h.h3.keep ga (fun _ _ q => q)).keep k3 (fun k q q' => held_own h.h3 h.o3 (by decide) k q q')).keep k4 (fun k q q' => own_held h.h3 h.b (by decide) (by rw [← q']; exact q))
  have hH4 := hH3.snoc hrow (fun k q => (hf k ((fpV_fpA _ _ _ _).1 q)).2) hb
  have kk : Keep (fun k => k = p ∨ fpV s3 k) w (w3.setCell ⟨p, 3, none⟩ (.slice A3 (v3.length + 1) C3)) := (ga.then k3).trans k4 (fun _ _ q => .inr q) (fun _ _ q => .inl q)
  try simp -dsimp only [↓RE,↓c_seq,RU,RL,if_true,if_false,forall_const,implies_true,Nat.reduceLeDiff,Nat.reduceLT,pureOp,binPure,intBin,strBin,eqPure,isConstO,unPure,sliceLo,sliceHi,slicePure,lenPure,minPure,maxPure,buildP,resK,endV,yieldE,↓reduceIte,Nat.reduceEqDiff,reduceCtorEq,Nat.reduceAdd,Nat.reduceMul,Nat.reduceSub,Int.reduceLT,Int.reduceLE,Int.reduceToNat,Int.reduceAdd,Int.reduceSub,Int.reduceMul,ne_eq,decide_true,decide_false,tf18, he0, he1]
  refine hr _ (.slice A3 (v3.length + 1) C3) ⟨hB4, own_keep (own_keep (own_grow h.o0 ga) k3 (fun k q q' => own_ne h.o0 h.o3 (by decide) k q q')) k4 (fun k q q' => own_blk_ne h.o0 h.b (by decide) (by rw [← q']; exact q)), hO4, own_keep (own_keep (own_grow h.o7 ga) k3 (fun k q q' => own_ne h.o7 h.o3 (by decide) k q q')) k4 (fun k q q' => own_blk_ne h.o7 h.b (by decide) (by rw [← q']; exact q)), ((h.h0.keep ga (fun _ _ q => q)).keep k3 (fun k q q' => held_own h.h0 h.o3 (by decide) k q q')).keep k4 (fun k q q' => own_held h.h0 h.b (by decide) (by rw [← q']; exact q)), hH4, ((h.h7.keep ga (fun _ _ q => q)).keep k3 (fun k q q' => held_own h.h7 h.o3 (by decide) k q q')).keep k4 (fun k q q' => own_held h.h7 h.b (by decide) (by rw [← q']; exact q)), hfp, fun k q => ?_, fun k q => ?_⟩ kk
  · rcases q with q | q | q
    · exact hfs k (.inl q)
    · rcases hF3 k q with q | q
      · exact hfs k (.inr <| .inl q)
      · omega
    · exact hfs k (.inr <| .inr q)
  · rcases q with q | q | q
    · exact hfl k (.inl q)
    · obtain ⟨u, hu, hq⟩ := q
      rcases List.mem_append.1 hu with hu | hu
      · exact hfl k (.inr <| .inl ⟨u, hu, hq⟩)
      · rw [List.mem_singleton.1 hu] at hq; exact (hf k ((fpV_fpA _ _ _ _).1 hq)).1
    · exact hfl k (.inr <| .inr q)
theorem takeSamples_ok (h : Bk w0 w p v0 v3 v7 s0 s3 s7 c0 c3 c7) {A : Option Addr} {n c : Nat} {xs : List Value} (ho : w.ownsRow 0 28 3 (.slice A n c) n xs) (hf : ∀ k, fpA A k → w0.heap.size ≤ k ∧ ¬ fpL v7 k)
    (hb : n + 20 ≤ maxLen ∧ (n + 20) * 24 ≤ 140737488355328) (hN : v7.length + 1 ≤ 1099511627776) {R : VWK}
    (hr : ∀ w' s', Bk w0 w' p v0 v3 (v7 ++ [.slice A n c]) s0 s3 s' c0 c3 (fun j => if j = v7.length then xs else c7 j) → Keep (fun k => k = p ∨ fpV s7 k) w w' → R (.tuple #[]) w') : CallsV Try.prog 19 [.pointer (some ⟨p, 0, none⟩), .slice A n c] w R := by
  obtain ⟨Ai, Ci, hs7, _, _⟩ := own_form h.o7
  have hst : w.cell? ⟨p, 7, none⟩ = some s7 := (h.b.cell 7).trans rfl
  have hg1 : ∀ u ∈ [Value.slice A n c], u.oneCell' = true := by intro u hu; rw [List.mem_singleton.1 hu]; rfl
  have hb1 := Blk.new' w 23 #[.slice A n c]
  have ga := Grow.alloc w (.cells #[.slice A n c] 23)
  have hr1 : Rd (w.alloc (.cells #[.slice A n c] 23)) (some ⟨w.heap.size, 0, none⟩) 1 1 [.slice A n c] := Rd.of_cells _ _ _ _ _ hb1 rfl
  have hlt := own_lt h.o7
  have hgas := ga.size
  have hlp := h.b.lt
  have hfp := h.fp
  have hfs := h.fs
  have hfl := h.fl
  have hle : w0.heap.size ≤ w.heap.size := by omega
  refine calls_of_wpC mixed Try.func19 rfl (by kernel_rfl) ?_
  intro e he
  have he0 := he 0
  have he1 := he 1
  simp only [List.getD_cons_zero, List.getD_cons_succ] at he0 he1
  clear he
  try simp -dsimp only [↓RE,↓c_seq,RU,RL,if_true,if_false,forall_const,implies_true,Nat.reduceLeDiff,Nat.reduceLT,pureOp,binPure,intBin,strBin,eqPure,isConstO,unPure,sliceLo,sliceHi,slicePure,lenPure,minPure,maxPure,buildP,resK,endV,yieldE,↓reduceIte,Nat.reduceEqDiff,reduceCtorEq,Nat.reduceAdd,Nat.reduceMul,Nat.reduceSub,Int.reduceLT,Int.reduceLE,Int.reduceToNat,Int.reduceAdd,Int.reduceSub,Int.reduceMul,ne_eq,decide_true,decide_false,tf19, he0, he1, hst]
  refine appK_own (m := 1) (bytes := 24) (by kernel_rfl) (own_grow h.o7 ga) hr1 hg1 (by show v7.length + 1 ≤ maxLen; simp only [maxLen]; omega) (by show (v7.length + 1) * 24 ≤ 140737488355328; omega) (fun A3 C3 w3 hO3 k3 hF3 => ?_)
  have hB3 := (h.b.grow ga).keep k3 (own_blk_ne h.o7 h.b (by decide))
  have hz3 := k3.size
  try simp -dsimp only [↓RE,↓c_seq,RU,RL,if_true,if_false,forall_const,implies_true,Nat.reduceLeDiff,Nat.reduceLT,pureOp,binPure,intBin,strBin,eqPure,isConstO,unPure,sliceLo,sliceHi,slicePure,lenPure,minPure,maxPure,buildP,resK,endV,yieldE,↓reduceIte,Nat.reduceEqDiff,reduceCtorEq,Nat.reduceAdd,Nat.reduceMul,Nat.reduceSub,Int.reduceLT,Int.reduceLE,Int.reduceToNat,Int.reduceAdd,Int.reduceSub,Int.reduceMul,ne_eq,decide_true,decide_false,tf19, he0, he1]
  refine hB3.st (i := 7) (by simp [bkCells]) ?_
  have hB4 := hB3.set 7 (.slice A3 (v7.length + 1) C3)
  have k4 := Keep.set1 w3 p 7 (.slice A3 (v7.length + 1) C3)
  have hlen : (v7 ++ [Value.slice A n c]).length = v7.length + 1 := by simp
  have hO4 : (w3.setCell ⟨p, 7, none⟩ (.slice A3 (v7.length + 1) C3)).ownsRow 0 23 1 (.slice A3 (v7.length + 1) C3) (v7 ++ [Value.slice A n c]).length (v7 ++ [Value.slice A n c]) := by
    rw [hlen]; exact own_keep hO3 k4 (fun k q q' => own_blk_ne hO3 hB3 (by decide) (by rw [← q']; exact q))
  have hrow := own_keep (own_keep (own_grow ho ga) k3 (fun k q q' => own_ne ho h.o7 (by decide) k q q')) k4 (fun k q q' => own_blk_ne ho h.b (by decide) (by rw [← q']; exact q))
  have hH3 := ((h.h7.keep ga (fun _ _ q => q)).keep k3 (fun k q q' => held_own h.h7 h.o7 (by decide) k q q')).keep k4 (fun k q q' => own_held h.h7 h.b (by decide) (by rw [← q']; exact q))
  have hH4 := hH3.snoc hrow (fun k q => (hf k ((fpV_fpA _ _ _ _).1 q)).2) hb
  have kk : Keep (fun k => k = p ∨ fpV s7 k) w (w3.setCell ⟨p, 7, none⟩ (.slice A3 (v7.length + 1) C3)) := (ga.then k3).trans k4 (fun _ _ q => .inr q) (fun _ _ q => .inl q)
  try simp -dsimp only [↓RE,↓c_seq,RU,RL,if_true,if_false,forall_const,implies_true,Nat.reduceLeDiff,Nat.reduceLT,pureOp,binPure,intBin,strBin,eqPure,isConstO,unPure,sliceLo,sliceHi,slicePure,lenPure,minPure,maxPure,buildP,resK,endV,yieldE,↓reduceIte,Nat.reduceEqDiff,reduceCtorEq,Nat.reduceAdd,Nat.reduceMul,Nat.reduceSub,Int.reduceLT,Int.reduceLE,Int.reduceToNat,Int.reduceAdd,Int.reduceSub,Int.reduceMul,ne_eq,decide_true,decide_false,tf19, he0, he1]
  refine hr _ (.slice A3 (v7.length + 1) C3) ⟨hB4, own_keep (own_keep (own_grow h.o0 ga) k3 (fun k q q' => own_ne h.o0 h.o7 (by decide) k q q')) k4 (fun k q q' => own_blk_ne h.o0 h.b (by decide) (by rw [← q']; exact q)), own_keep (own_keep (own_grow h.o3 ga) k3 (fun k q q' => own_ne h.o3 h.o7 (by decide) k q q')) k4 (fun k q q' => own_blk_ne h.o3 h.b (by decide) (by rw [← q']; exact q)), hO4, ((h.h0.keep ga (fun _ _ q => q)).keep k3 (fun k q q' => held_own h.h0 h.o7 (by decide) k q q')).keep k4 (fun k q q' => own_held h.h0 h.b (by decide) (by rw [← q']; exact q)), ((h.h3.keep ga (fun _ _ q => q)).keep k3 (fun k q q' => held_own h.h3 h.o7 (by decide) k q q')).keep k4 (fun k q q' => own_held h.h3 h.b (by decide) (by rw [← q']; exact q)), hH4, hfp, fun k q => ?_, fun k q => ?_⟩ kk
  · rcases q with q | q | q
    · exact hfs k (.inl q)
    · exact hfs k (.inr <| .inl q)
    · rcases hF3 k q with q | q
      · exact hfs k (.inr <| .inr q)
      · omega
  · rcases q with q | q | q
    · exact hfl k (.inl q)
    · exact hfl k (.inr <| .inl q)
    · obtain ⟨u, hu, hq⟩ := q
      rcases List.mem_append.1 hu with hu | hu
      · exact hfl k (.inr <| .inr ⟨u, hu, hq⟩)
      · rw [List.mem_singleton.1 hu] at hq; exact (hf k ((fpV_fpA _ _ _ _).1 hq)).1
end

end Go.Proofs.Ytmgiichlccdcfaa
