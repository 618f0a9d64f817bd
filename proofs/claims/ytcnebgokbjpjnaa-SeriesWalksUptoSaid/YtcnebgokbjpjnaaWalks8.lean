/- The law SeriesWalks: its walk. -/
import Derived.Test.YtcnebgokbjpjnaaWkSpec
import Derived.Test.YtcnebgokbjpjnaaFork8
set_option linter.unusedVariables false
set_option linter.unusedSimpArgs false
set_option maxRecDepth 100000
namespace Go.Proofs.Ytcnebgokbjpjnaa
open Go

/-- a block that holds a sample. -/
abbrev SBlk (w : World) (b : Nat) (s : Smp) : Prop := Blk w b 41 [.int .i64 s.1, .int .u8 s.2.1, .int .i64 s.2.2]
/-- what the first walk holds on to. -/
structure Wk (w0 wt w : World) (gs gt b : Nat) (vs vt : Value) (S : List Smp) (Ad : Option Addr) (cd : Nat) (n : Nat) (x : Smp) : Prop where
  s : SerAt w gs vs S
  t : SerAt w gt vt (S.take n)
  d : DRow w (.slice Ad (S.map freshD).length cd) (S.map freshD)
  x : SBlk w b x
  gsl : gs < wt.heap.size
  sl : ∀ q, fpV vs q → q < wt.heap.size
  dl : ∀ q, fpV (.slice Ad (S.map freshD).length cd) q → q < wt.heap.size
  gtl : wt.heap.size ≤ gt
  tl : ∀ q, fpV vt q → wt.heap.size ≤ q
  bl : wt.heap.size ≤ b
  xt : ¬ fpV vt b
  w0t : w0.heap.size ≤ wt.heap.size
  gr : Grow w0 w
section
variable {w0 wt w w1 : World} {gs gt b : Nat} {vs vt : Value} {S : List Smp} {Ad : Option Addr} {cd n : Nat} {x : Smp}
theorem Wk.grow (h : Wk w0 wt w gs gt b vs vt S Ad cd n x) (k : Grow w w1) : Wk w0 wt w1 gs gt b vs vt S Ad cd n x :=
  ⟨h.s.grow k, h.t.grow k, h.d.grow k, h.x.grow k, h.gsl, h.sl, h.dl, h.gtl, h.tl, h.bl, h.xt, h.w0t, h.gr.trans k⟩
theorem Wk.set (h : Wk w0 wt w gs gt b vs vt S Ad cd n x) {y : Smp} (hB : SBlk w1 b y) (k : Keep (fun q => q = b) w w1) : Wk w0 wt w1 gs gt b vs vt S Ad cd n y := by
  have hbl := h.bl
  refine ⟨h.s.keep k (fun e => by have := h.gsl; omega) (fun q hq e => by have := h.sl q hq; omega), h.t.keep k (fun e => ?_) (fun q hq e => ?_), h.d.keep k (fun q hq e => by have := h.dl q hq; omega), hB, h.gsl, h.sl, h.dl, h.gtl, h.tl, h.bl, h.xt, h.w0t, h.gr.above k (fun q hq e => by have := h.w0t; omega)⟩
  · exact Blk.ne_ h.x h.t.b (by decide) e.symm
  · subst e; exact h.xt hq
theorem Wk.put (h : Wk w0 wt w gs gt b vs vt S Ad cd n x) {v1 : Value} (hS : SerAt w1 gt v1 (S.take (n + 1))) (k : Keep (fun q => q = gt ∨ fpV vt q) w w1) (f : ∀ q, fpV v1 q → fpV vt q ∨ w.heap.size ≤ q) : Wk w0 wt w1 gs gt b vs v1 S Ad cd (n + 1) x := by
  have hlt : ∀ q, (q = gt ∨ fpV vt q) → wt.heap.size ≤ q := fun q hq => hq.elim (fun e => e ▸ h.gtl) (h.tl q)
  have hxl := h.x.lt
  have hw := h.gr.size
  have hwt : wt.heap.size ≤ w.heap.size := by have := h.bl; omega
  refine ⟨h.s.keep k (fun e => by have := h.gsl; have := hlt _ e; omega) (fun q hq e => by have := h.sl q hq; have := hlt _ e; omega), hS, h.d.keep k (fun q hq e => by have := h.dl q hq; have := hlt _ e; omega), h.x.keep k (fun e => ?_), h.gsl, h.sl, h.dl, h.gtl, fun q hq => (f q hq).elim (h.tl q) (fun e => by omega), h.bl, fun e => (f b e).elim h.xt (fun e => by omega), h.w0t, h.gr.above k (fun q hq e => by have := h.w0t; have := hlt _ e; omega)⟩
  rcases e with e | e
  · exact Blk.ne_ h.x h.t.b (by decide) e
  · exact h.xt e
end
theorem dlt_new {w : World} {ad : Addr} {s : Smp} (hd : ∀ j v, (dcells (freshD s))[j]? = some v → w.cell? (ad.add j) = some v) {K : VK} {tk : Tok K} (hK : K (.agg #[.int .u8 s.2.1, .int .i64 s.2.2])) : aggK w (ad.add 8) (some 2) K tk :=
  ⟨[.int .u8 s.2.1, .int .i64 s.2.2], rfl, fun j v hj => by
    match j, hj with
    | 0, hj => simp at hj; subst hj; rw [add_zero']; exact hd 8 _ rfl
    | 1, hj => simp at hj; subst hj; rw [add_add']; exact hd 9 _ rfl
    | j + 2, hj => simp at hj, hK⟩
theorem SBlk.val {w : World} {b : Nat} {s : Smp} (h : SBlk w b s) {K : VK} {tk : Tok K} (hK : K (.agg #[.int .u8 s.2.1, .int .i64 s.2.2])) : aggK w ⟨b, 1, none⟩ (some 2) K tk :=
  h.aggK (o := 1) (by simp) hK
theorem walks_walk {w : World} {A : Option Addr} {n c : Nat} {xs : List Smp} (hR : Rd w A n 3 (xs.flatMap scells)) (ho : ∀ s ∈ xs, SOk s) (hn : n ≤ 1048576) {R : VWK}
    (h : ∀ w', Grow w w' → R (.bool true) w') : CallsV Try.prog 4 [.slice A n c] w R := by
  have hl := hR.flat3
  refine calls_of_wpC mixed Try.func4 rfl (by kernel_rfl) ?_
  intro e he
  have he0 := he 0
  simp only [List.getD_cons_zero, List.getD_cons_succ] at he0
  clear he
  rw [c_seq]
  simp -dsimp only [↓RE,RU,RL,if_true,if_false,forall_const,implies_true,Nat.reduceLeDiff,Nat.reduceLT,pureOp,binPure,intBin,strBin,eqPure,isConstO,unPure,sliceLo,sliceHi,slicePure,slice3Pure,lenPure,capPure,minPure,maxPure,buildP,resK,endV,yieldE,↓reduceIte,Nat.reduceEqDiff,reduceCtorEq,Nat.reduceAdd,Nat.reduceMul,Nat.reduceSub,Int.reduceLT,Int.reduceLE,Int.reduceToNat,Int.reduceAdd,Int.reduceSub,Int.reduceMul,ne_eq,decide_true,decide_false,tf4, he0]
  rw [c_seq, c_seq]
  simp -dsimp only [↓RE,RU,RL,if_true,if_false,forall_const,implies_true,Nat.reduceLeDiff,Nat.reduceLT,pureOp,binPure,intBin,strBin,eqPure,isConstO,unPure,sliceLo,sliceHi,slicePure,slice3Pure,lenPure,capPure,minPure,maxPure,buildP,resK,endV,yieldE,↓reduceIte,Nat.reduceEqDiff,reduceCtorEq,Nat.reduceAdd,Nat.reduceMul,Nat.reduceSub,Int.reduceLT,Int.reduceLE,Int.reduceToNat,Int.reduceAdd,Int.reduceSub,Int.reduceMul,ne_eq,decide_true,decide_false,tf4, he0]
  refine live_ok (fun w1 g1 => ?_)
  simp -dsimp only [↓RE,RU,RL,if_true,if_false,forall_const,implies_true,Nat.reduceLeDiff,Nat.reduceLT,pureOp,binPure,intBin,strBin,eqPure,isConstO,unPure,sliceLo,sliceHi,slicePure,slice3Pure,lenPure,capPure,minPure,maxPure,buildP,resK,endV,yieldE,↓reduceIte,Nat.reduceEqDiff,reduceCtorEq,Nat.reduceAdd,Nat.reduceMul,Nat.reduceSub,Int.reduceLT,Int.reduceLE,Int.reduceToNat,Int.reduceAdd,Int.reduceSub,Int.reduceMul,ne_eq,decide_true,decide_false,tf4, he0]
  rw [c_seq]
  simp -dsimp only [↓RE,RU,RL,if_true,if_false,forall_const,implies_true,Nat.reduceLeDiff,Nat.reduceLT,pureOp,binPure,intBin,strBin,eqPure,isConstO,unPure,sliceLo,sliceHi,slicePure,slice3Pure,lenPure,capPure,minPure,maxPure,buildP,resK,endV,yieldE,↓reduceIte,Nat.reduceEqDiff,reduceCtorEq,Nat.reduceAdd,Nat.reduceMul,Nat.reduceSub,Int.reduceLT,Int.reduceLE,Int.reduceToNat,Int.reduceAdd,Int.reduceSub,Int.reduceMul,ne_eq,decide_true,decide_false,tf4, he0]
  refine snew_ok (fun w2 hS2 g2 => ?_)
  have g02 := g1.trans g2
  have hs1 := g1.size
  have hs2 := g2.size
  have hlt2 := hS2.b.lt
  simp -dsimp only [↓RE,RU,RL,if_true,if_false,forall_const,implies_true,Nat.reduceLeDiff,Nat.reduceLT,pureOp,binPure,intBin,strBin,eqPure,isConstO,unPure,sliceLo,sliceHi,slicePure,slice3Pure,lenPure,capPure,minPure,maxPure,buildP,resK,endV,yieldE,↓reduceIte,Nat.reduceEqDiff,reduceCtorEq,Nat.reduceAdd,Nat.reduceMul,Nat.reduceSub,Int.reduceLT,Int.reduceLE,Int.reduceToNat,Int.reduceAdd,Int.reduceSub,Int.reduceMul,ne_eq,decide_true,decide_false,tf4, he0]
  rw [c_seq]
  have ga := Grow.alloc w2 (.cells #[] 41)
  have hown : SRow (w2.alloc (.cells #[] 41)) (.slice (some ⟨w2.heap.size, 0, none⟩) 0 0) ([] : List Smp) := LRow.of_own (own_new w2 41 3 0 #[] rfl (by simp [maxLen]))
  have hsa : (w2.alloc (.cells #[] 41)).heap.size = w2.heap.size + 1 := by simp
  simp -dsimp only [↓RE,RU,RL,if_true,if_false,forall_const,implies_true,Nat.reduceLeDiff,Nat.reduceLT,pureOp,binPure,intBin,strBin,eqPure,isConstO,unPure,sliceLo,sliceHi,slicePure,slice3Pure,lenPure,capPure,minPure,maxPure,buildP,resK,endV,yieldE,↓reduceIte,Nat.reduceEqDiff,reduceCtorEq,Nat.reduceAdd,Nat.reduceMul,Nat.reduceSub,Int.reduceLT,Int.reduceLE,Int.reduceToNat,Int.reduceAdd,Int.reduceSub,Int.reduceMul,ne_eq,decide_true,decide_false,tf4, he0]
  refine app_smp (xs := []) (ys := xs) hown (hR.grow (g02.trans ga)) (by simp; omega) (fun A3 c3 w3 hL3 k3 f3 => ?_)
  have g23 : Grow w2 w3 := ga.above k3 (fun q hq e => by rw [fpV_some] at e; simp only at e; omega)
  have hf3 : ∀ q, fpA A3 q → w2.heap.size ≤ q := fun q hq => by
    rcases f3 q ((fpV_fpA _ _ _ _).2 hq) with e | e
    · rw [fpV_some] at e; simp only at e; omega
    · omega
  have e3 : ([] : List Smp).length + xs.length = xs.length := Nat.zero_add _
  rw [e3] at hL3 ⊢
  rw [List.nil_append] at hL3
  have hS3 := hS2.grow g23
  simp -dsimp only [↓RE,RU,RL,if_true,if_false,forall_const,implies_true,Nat.reduceLeDiff,Nat.reduceLT,pureOp,binPure,intBin,strBin,eqPure,isConstO,unPure,sliceLo,sliceHi,slicePure,slice3Pure,lenPure,capPure,minPure,maxPure,buildP,resK,endV,yieldE,↓reduceIte,Nat.reduceEqDiff,reduceCtorEq,Nat.reduceAdd,Nat.reduceMul,Nat.reduceSub,Int.reduceLT,Int.reduceLE,Int.reduceToNat,Int.reduceAdd,Int.reduceSub,Int.reduceMul,ne_eq,decide_true,decide_false,tf4, he0]
  refine load_ok hS3 hL3.rd (fun _ q hq => ⟨fun e => by have := hf3 q hq; omega, fpV_none q⟩) (by simp; omega) (fun w4 v4 A4 c4 hS4 k4 f4 hD4 hF4 => ?_)
  have hs3 := g23.size
  have hs4 := k4.size
  have g04 : Grow w w4 := (g02.trans g23).above k4 (fun q hq e => by
    rcases e with e | e
    · omega
    · exact fpV_none _ e)
  rw [loadD_map] at hD4 ⊢
  have hrS := Rise.nil.load xs
  have hSl := sload_len xs Rise.nil
  have hbS0 : ∀ s ∈ sLoad [] xs, -9223372036854775808 ≤ s.1 ∧ s.1 < 9223372036854775808 := fun s hs => by
    rcases sload_sub xs hs with e | e
    · cases e
    · exact (ho s e).1
  have hbS : ∀ s ∈ sLoad [] xs, s.1 < 9223372036854775808 := fun s hs => (hbS0 s hs).2
  have hag := load_again xs
  generalize sLoad [] xs = S at hS4 hD4 hrS hSl hbS0 hbS hag ⊢
  rw [List.length_nil, Nat.zero_add] at hSl
  simp -dsimp only [↓RE,RU,RL,if_true,if_false,forall_const,implies_true,Nat.reduceLeDiff,Nat.reduceLT,pureOp,binPure,intBin,strBin,eqPure,isConstO,unPure,sliceLo,sliceHi,slicePure,slice3Pure,lenPure,capPure,minPure,maxPure,buildP,resK,endV,yieldE,↓reduceIte,Nat.reduceEqDiff,reduceCtorEq,Nat.reduceAdd,Nat.reduceMul,Nat.reduceSub,Int.reduceLT,Int.reduceLE,Int.reduceToNat,Int.reduceAdd,Int.reduceSub,Int.reduceMul,ne_eq,decide_true,decide_false,tf4, he0]
  rw [c_seq]
  simp -dsimp only [↓RE,RU,RL,if_true,if_false,forall_const,implies_true,Nat.reduceLeDiff,Nat.reduceLT,pureOp,binPure,intBin,strBin,eqPure,isConstO,unPure,sliceLo,sliceHi,slicePure,slice3Pure,lenPure,capPure,minPure,maxPure,buildP,resK,endV,yieldE,↓reduceIte,Nat.reduceEqDiff,reduceCtorEq,Nat.reduceAdd,Nat.reduceMul,Nat.reduceSub,Int.reduceLT,Int.reduceLE,Int.reduceToNat,Int.reduceAdd,Int.reduceSub,Int.reduceMul,ne_eq,decide_true,decide_false,tf4, he0]
  refine snew_ok (fun w5 hT5 g5 => ?_)
  have hs5 := g5.size
  simp -dsimp only [↓RE,RU,RL,if_true,if_false,forall_const,implies_true,Nat.reduceLeDiff,Nat.reduceLT,pureOp,binPure,intBin,strBin,eqPure,isConstO,unPure,sliceLo,sliceHi,slicePure,slice3Pure,lenPure,capPure,minPure,maxPure,buildP,resK,endV,yieldE,↓reduceIte,Nat.reduceEqDiff,reduceCtorEq,Nat.reduceAdd,Nat.reduceMul,Nat.reduceSub,Int.reduceLT,Int.reduceLE,Int.reduceToNat,Int.reduceAdd,Int.reduceSub,Int.reduceMul,ne_eq,decide_true,decide_false,tf4, he0]
  rw [c_seq]
  simp -dsimp only [↓RE,RU,RL,if_true,if_false,forall_const,implies_true,Nat.reduceLeDiff,Nat.reduceLT,pureOp,binPure,intBin,strBin,eqPure,isConstO,unPure,sliceLo,sliceHi,slicePure,slice3Pure,lenPure,capPure,minPure,maxPure,buildP,resK,endV,yieldE,↓reduceIte,Nat.reduceEqDiff,reduceCtorEq,Nat.reduceAdd,Nat.reduceMul,Nat.reduceSub,Int.reduceLT,Int.reduceLE,Int.reduceToNat,Int.reduceAdd,Int.reduceSub,Int.reduceMul,ne_eq,decide_true,decide_false,tf4, he0]
  rw [c_seq]
  simp -dsimp only [↓RE,RU,RL,if_true,if_false,forall_const,implies_true,Nat.reduceLeDiff,Nat.reduceLT,pureOp,binPure,intBin,strBin,eqPure,isConstO,unPure,sliceLo,sliceHi,slicePure,slice3Pure,lenPure,capPure,minPure,maxPure,buildP,resK,endV,yieldE,↓reduceIte,Nat.reduceEqDiff,reduceCtorEq,Nat.reduceAdd,Nat.reduceMul,Nat.reduceSub,Int.reduceLT,Int.reduceLE,Int.reduceToNat,Int.reduceAdd,Int.reduceSub,Int.reduceMul,ne_eq,decide_true,decide_false,tf4, he0]
  have hS5 := hS4.grow g5
  refine first_ok hS5 (by omega) (fun w6 g6 => ?_)
  simp -dsimp only [↓RE,RU,RL,if_true,if_false,forall_const,implies_true,Nat.reduceLeDiff,Nat.reduceLT,pureOp,binPure,intBin,strBin,eqPure,isConstO,unPure,sliceLo,sliceHi,slicePure,slice3Pure,lenPure,capPure,minPure,maxPure,buildP,resK,endV,yieldE,↓reduceIte,Nat.reduceEqDiff,reduceCtorEq,Nat.reduceAdd,Nat.reduceMul,Nat.reduceSub,Int.reduceLT,Int.reduceLE,Int.reduceToNat,Int.reduceAdd,Int.reduceSub,Int.reduceMul,ne_eq,decide_true,decide_false,tf4, he0]
  refine new3 (fun w7 hb7 g7 => ?_) rfl rfl rfl
  have hs6 := g6.size
  have hlt5 := hT5.b.lt
  have hW7 : Wk w w4 w7 w1.heap.size w4.heap.size w6.heap.size v4 (.slice none 0 0) S A4 c4 0 (nthV S ((0 : Nat) : Int)).1 := by
    have g57 := g6.trans g7
    exact ⟨hS5.grow g57, hT5.grow g57, (hD4.grow g5).grow g57, hb7, by omega, hS4.row.lt, hD4.lt, Nat.le_refl _, fun q hq => (fpV_none _ hq).elim, by omega, fpV_none _, g04.size, (g04.trans g5).trans g57⟩
  generalize w1.heap.size = gs at hW7 ⊢
  generalize w6.heap.size = b at hW7 ⊢
  have hlm : (S.map freshD).length = S.length := List.length_map _
  generalize hgt : w4.heap.size = gt at hW7 ⊢
  refine os_gen (fun e' => (e' 0 = .slice A n c ∧ e' 3 = .pointer (some ⟨gs, 0, none⟩) ∧ e' 4 = .slice A4 (S.map freshD).length c4 ∧ e' 5 = .pointer (some ⟨gt, 0, none⟩) ∧ e' 7 = .pointer (some ⟨b, 0, none⟩)) ∧ e' 6 = .int .i64 ((0 : Nat) : Int) ∧ e' 24 = .bool (nthV S ((0 : Nat) : Int)).2) ⟨⟨?_, ?_, ?_, ?_, ?_⟩, ?_, ?_⟩ ?_
  · simp -dsimp only [↓RE,RU,RL,if_true,if_false,↓reduceIte,Nat.reduceEqDiff,reduceCtorEq,decide_true,decide_false, he0]
  · simp -dsimp only [↓RE,RU,RL,if_true,if_false,↓reduceIte,Nat.reduceEqDiff,reduceCtorEq,decide_true,decide_false, he0]
  · simp -dsimp only [↓RE,RU,RL,if_true,if_false,↓reduceIte,Nat.reduceEqDiff,reduceCtorEq,decide_true,decide_false, he0]
  · simp -dsimp only [↓RE,RU,RL,if_true,if_false,↓reduceIte,Nat.reduceEqDiff,reduceCtorEq,decide_true,decide_false, he0]
  · simp -dsimp only [↓RE,RU,RL,if_true,if_false,↓reduceIte,Nat.reduceEqDiff,reduceCtorEq,decide_true,decide_false, he0]
  · simp -dsimp only [↓RE,RU,RL,if_true,if_false,↓reduceIte,Nat.reduceEqDiff,reduceCtorEq,decide_true,decide_false, he0, Int.cast_ofNat_Int]
  · simp -dsimp only [↓RE,RU,RL,if_true,if_false,↓reduceIte,Nat.reduceEqDiff,reduceCtorEq,decide_true,decide_false, he0, Int.cast_ofNat_Int]
  clear he0 hb7 e
  rintro e ⟨⟨he0, he3, he4, he5, he7⟩, he6, he24⟩
  simp -dsimp only [↓RE,RU,RL,if_true,if_false,forall_const,implies_true,Nat.reduceLeDiff,Nat.reduceLT,pureOp,binPure,intBin,strBin,eqPure,isConstO,unPure,sliceLo,sliceHi,slicePure,slice3Pure,lenPure,capPure,minPure,maxPure,buildP,resK,endV,yieldE,↓reduceIte,Nat.reduceEqDiff,reduceCtorEq,Nat.reduceAdd,Nat.reduceMul,Nat.reduceSub,Int.reduceLT,Int.reduceLE,Int.reduceToNat,Int.reduceAdd,Int.reduceSub,Int.reduceMul,ne_eq,decide_true,decide_false,tf4, he24]
  refine c_seq_cut (fun e' w' => (e' 0 = .slice A n c ∧ e' 3 = .pointer (some ⟨gs, 0, none⟩) ∧ e' 4 = .slice A4 (S.map freshD).length c4 ∧ e' 5 = .pointer (some ⟨gt, 0, none⟩) ∧ e' 7 = .pointer (some ⟨b, 0, none⟩)) ∧ e' 6 = .int .i64 (S.length : Int) ∧ ∃ vt x, Wk w w4 w' gs gt b v4 vt S A4 c4 S.length x) ?_ ?_
  · simp -dsimp only [↓RE,RU,RL,if_true,if_false,forall_const,implies_true,Nat.reduceLeDiff,Nat.reduceLT,pureOp,binPure,intBin,strBin,eqPure,isConstO,unPure,sliceLo,sliceHi,slicePure,slice3Pure,lenPure,capPure,minPure,maxPure,buildP,resK,endV,yieldE,↓reduceIte,Nat.reduceEqDiff,reduceCtorEq,Nat.reduceAdd,Nat.reduceMul,Nat.reduceSub,Int.reduceLT,Int.reduceLE,Int.reduceToNat,Int.reduceAdd,Int.reduceSub,Int.reduceMul,ne_eq,decide_true,decide_false,tf4, he0]
    refine wpLoop_intro (fun e' w' => (e' 0 = .slice A n c ∧ e' 3 = .pointer (some ⟨gs, 0, none⟩) ∧ e' 4 = .slice A4 (S.map freshD).length c4 ∧ e' 5 = .pointer (some ⟨gt, 0, none⟩) ∧ e' 7 = .pointer (some ⟨b, 0, none⟩)) ∧ ∃ (k : Nat) (vt : Value), k ≤ S.length ∧ e' 6 = .int .i64 (k : Int) ∧ e' 8 = .bool (nthV S (k : Int)).2 ∧ Wk w w4 w' gs gt b v4 vt S A4 c4 k (nthV S (k : Int)).1)
      (fun e' _ => S.length - (envInt (e' 6)).toNat) ⟨⟨?_, ?_, ?_, ?_, ?_⟩, 0, .slice none 0 0, Nat.zero_le _, ?_, ?_, hW7⟩ ?_
    · simp -dsimp only [↓RE,RU,RL,if_true,if_false,↓reduceIte,Nat.reduceEqDiff,reduceCtorEq,decide_true,decide_false, he0]
    · simp -dsimp only [↓RE,RU,RL,if_true,if_false,↓reduceIte,Nat.reduceEqDiff,reduceCtorEq,decide_true,decide_false, he3]
    · simp -dsimp only [↓RE,RU,RL,if_true,if_false,↓reduceIte,Nat.reduceEqDiff,reduceCtorEq,decide_true,decide_false, he4]
    · simp -dsimp only [↓RE,RU,RL,if_true,if_false,↓reduceIte,Nat.reduceEqDiff,reduceCtorEq,decide_true,decide_false, he5]
    · simp -dsimp only [↓RE,RU,RL,if_true,if_false,↓reduceIte,Nat.reduceEqDiff,reduceCtorEq,decide_true,decide_false, he7]
    · simp -dsimp only [↓RE,RU,RL,if_true,if_false,↓reduceIte,Nat.reduceEqDiff,reduceCtorEq,decide_true,decide_false, he6]
    · simp -dsimp only [↓RE,RU,RL,if_true,if_false,↓reduceIte,Nat.reduceEqDiff,reduceCtorEq,decide_true,decide_false, he24]
    clear he0 he3 he4 he5 he7 he6 he24 hW7 e
    rintro e wz ⟨⟨he0, he3, he4, he5, he7⟩, k, vt, hk, he6, he8, hW⟩
    rw [c_seq, c_seq]
    rcases Nat.lt_or_ge k S.length with hkl | hkl
    · have hkn : decide ((k : Int) ≤ (n : Int)) = true := decide_eq_true (by omega)
      rw [nthV_lt hkl] at he8 hW
      simp -dsimp only [↓RE,RU,RL,if_true,if_false,forall_const,implies_true,Nat.reduceLeDiff,Nat.reduceLT,pureOp,binPure,intBin,strBin,eqPure,isConstO,unPure,sliceLo,sliceHi,slicePure,slice3Pure,lenPure,capPure,minPure,maxPure,buildP,resK,endV,yieldE,↓reduceIte,Nat.reduceEqDiff,reduceCtorEq,Nat.reduceAdd,Nat.reduceMul,Nat.reduceSub,Int.reduceLT,Int.reduceLE,Int.reduceToNat,Int.reduceAdd,Int.reduceSub,Int.reduceMul,ne_eq,decide_true,decide_false,tf4, he0, he6, he8, hkn]
      have hS0 := hW.s
      obtain ⟨ad, rfl⟩ := hW.d.rd.some (by omega)
      have hWd := hW.grow (Grow.drew wz)
      have hd : ∀ j v, (dcells (freshD (S.getD k (0, 0, 0))))[j]? = some v → wz.drew.cell? ((ad.add (k * 10)).add j) = some v := by
        have := hWd.d.rd.dlt (k := k) (by omega)
        rwa [fresh_getD hkl] at this
      have hx := hWd.x
      have hah := ahead_past hrS hkl
      have hpw := put_walk hrS hkl
      have hlm1 := last_max hrS hkl hbS
      have hxb : -9223372036854775808 ≤ (S.getD k (0, 0, 0)).1 ∧ (S.getD k (0, 0, 0)).1 < 9223372036854775808 := by rw [getD_lt hkl]; exact hbS0 _ (List.getElem_mem _)
      have hnx : k + 1 < S.length → (S.getD k (0, 0, 0)).1 < (S.getD (k + 1) (0, 0, 0)).1 := fun h => hrS.at k (k + 1) (by omega) h
      generalize S.getD k (0, 0, 0) = x at hW hWd hd hx hah hpw hlm1 hxb hnx
      have d3 := hd 3 _ rfl
      have d4 := hd 4 _ rfl
      have d5 := hd 5 _ rfl
      have x0 : wz.drew.cell? ⟨b, 0, none⟩ = some (.int .i64 x.1) := (hx.cell 0).trans rfl
      simp only [freshD] at d3 d4 d5
      rw [c_seq, c_seq]
      simp -dsimp only [↓RE,RU,RL,if_true,if_false,forall_const,implies_true,Nat.reduceLeDiff,Nat.reduceLT,pureOp,binPure,intBin,strBin,eqPure,isConstO,unPure,sliceLo,sliceHi,slicePure,slice3Pure,lenPure,capPure,minPure,maxPure,buildP,resK,endV,yieldE,↓reduceIte,Nat.reduceEqDiff,reduceCtorEq,Nat.reduceAdd,Nat.reduceMul,Nat.reduceSub,Int.reduceLT,Int.reduceLE,Int.reduceToNat,Int.reduceAdd,Int.reduceSub,Int.reduceMul,ne_eq,decide_true,decide_false,tf4, he0]
      refine wpDraw_still (by kernel_rfl) ?_
      have hkd : decide (((S.map freshD).length : Int) ≤ (k : Int)) = false := decide_eq_false (by omega)
      have hkd2 : decide ((k : Int) < ((S.map freshD).length : Int)) = true := decide_eq_true (by omega)
      simp -dsimp only [↓RE,RU,RL,if_true,if_false,forall_const,implies_true,Nat.reduceLeDiff,Nat.reduceLT,pureOp,binPure,intBin,strBin,eqPure,isConstO,unPure,sliceLo,sliceHi,slicePure,slice3Pure,lenPure,capPure,minPure,maxPure,buildP,resK,endV,yieldE,↓reduceIte,Nat.reduceEqDiff,reduceCtorEq,Nat.reduceAdd,Nat.reduceMul,Nat.reduceSub,Int.reduceLT,Int.reduceLE,Int.reduceToNat,Int.reduceAdd,Int.reduceSub,Int.reduceMul,ne_eq,decide_true,decide_false,tf4, he4, he6, he7, hkd, d3, x0, add_lit', Nat.zero_add]
      refine ⟨⟨by omega, by omega⟩, ⟨by omega, by omega⟩, dlt_new hd ?_⟩
      simp -dsimp only [↓RE,RU,RL,if_true,if_false,forall_const,implies_true,Nat.reduceLeDiff,Nat.reduceLT,pureOp,binPure,intBin,strBin,eqPure,isConstO,unPure,sliceLo,sliceHi,slicePure,slice3Pure,lenPure,capPure,minPure,maxPure,buildP,resK,endV,yieldE,↓reduceIte,Nat.reduceEqDiff,reduceCtorEq,Nat.reduceAdd,Nat.reduceMul,Nat.reduceSub,Int.reduceLT,Int.reduceLE,Int.reduceToNat,Int.reduceAdd,Int.reduceSub,Int.reduceMul,ne_eq,decide_true,decide_false,tf4, he4, he6, he7, hkd2, add_lit', Nat.zero_add]
      refine SBlk.val hx ?_
      simp -dsimp only [↓RE,RU,RL,if_true,if_false,forall_const,implies_true,Nat.reduceLeDiff,Nat.reduceLT,pureOp,binPure,intBin,strBin,eqPure,isConstO,unPure,sliceLo,sliceHi,slicePure,slice3Pure,lenPure,capPure,minPure,maxPure,buildP,resK,endV,yieldE,↓reduceIte,Nat.reduceEqDiff,reduceCtorEq,Nat.reduceAdd,Nat.reduceMul,Nat.reduceSub,Int.reduceLT,Int.reduceLE,Int.reduceToNat,Int.reduceAdd,Int.reduceSub,Int.reduceMul,ne_eq,decide_true,decide_false,tf4, he4, he6, he7, d4, d5, eq_self, and_self, decide_true, Bool.not_true, Option.map_some, add_lit', Nat.zero_add]
      refine ⟨⟨by omega, by omega⟩, ⟨by omega, by omega⟩, ?_⟩
      rw [c_seq]
      simp -dsimp only [↓RE,RU,RL,if_true,if_false,forall_const,implies_true,Nat.reduceLeDiff,Nat.reduceLT,pureOp,binPure,intBin,strBin,eqPure,isConstO,unPure,sliceLo,sliceHi,slicePure,slice3Pure,lenPure,capPure,minPure,maxPure,buildP,resK,endV,yieldE,↓reduceIte,Nat.reduceEqDiff,reduceCtorEq,Nat.reduceAdd,Nat.reduceMul,Nat.reduceSub,Int.reduceLT,Int.reduceLE,Int.reduceToNat,Int.reduceAdd,Int.reduceSub,Int.reduceMul,ne_eq,decide_true,decide_false,tf4, he5, he7, x0, add_lit', Nat.zero_add]
      refine SBlk.val hx ?_
      simp -dsimp only [↓RE,RU,RL,if_true,if_false,forall_const,implies_true,Nat.reduceLeDiff,Nat.reduceLT,pureOp,binPure,intBin,strBin,eqPure,isConstO,unPure,sliceLo,sliceHi,slicePure,slice3Pure,lenPure,capPure,minPure,maxPure,buildP,resK,endV,yieldE,↓reduceIte,Nat.reduceEqDiff,reduceCtorEq,Nat.reduceAdd,Nat.reduceMul,Nat.reduceSub,Int.reduceLT,Int.reduceLE,Int.reduceToNat,Int.reduceAdd,Int.reduceSub,Int.reduceMul,ne_eq,decide_true,decide_false,tf4, he5, he7]
      refine put_ok (k := x.2.1) (x := x.2.2) hWd.t (by rw [List.length_take]; omega) (fun w10 v10 hS10 k10 f10 => ?_)
      have hpw' : sPut (S.take k) x.1 (x.2.1, x.2.2) = S.take (k + 1) := hpw
      rw [hpw'] at hS10
      have hW10 := hWd.put hS10 k10 f10
      have hw1 : IntKind.i64.wrap ((k : Int) + 1) = ((k + 1 : Nat) : Int) := by rw [wrap_i64_in (by omega) (by omega)]; omega
      simp -dsimp only [↓RE,RU,RL,if_true,if_false,forall_const,implies_true,Nat.reduceLeDiff,Nat.reduceLT,pureOp,binPure,intBin,strBin,eqPure,isConstO,unPure,sliceLo,sliceHi,slicePure,slice3Pure,lenPure,capPure,minPure,maxPure,buildP,resK,endV,yieldE,↓reduceIte,Nat.reduceEqDiff,reduceCtorEq,Nat.reduceAdd,Nat.reduceMul,Nat.reduceSub,Int.reduceLT,Int.reduceLE,Int.reduceToNat,Int.reduceAdd,Int.reduceSub,Int.reduceMul,ne_eq,decide_true,decide_false,tf4, he6]
      rw [c_seq]
      simp -dsimp only [↓RE,RU,RL,if_true,if_false,forall_const,implies_true,Nat.reduceLeDiff,Nat.reduceLT,pureOp,binPure,intBin,strBin,eqPure,isConstO,unPure,sliceLo,sliceHi,slicePure,slice3Pure,lenPure,capPure,minPure,maxPure,buildP,resK,endV,yieldE,↓reduceIte,Nat.reduceEqDiff,reduceCtorEq,Nat.reduceAdd,Nat.reduceMul,Nat.reduceSub,Int.reduceLT,Int.reduceLE,Int.reduceToNat,Int.reduceAdd,Int.reduceSub,Int.reduceMul,ne_eq,decide_true,decide_false,tf4, he6, hw1]
      have hx10 := hW10.x
      have y0 : w10.cell? ⟨b, 0, none⟩ = some (.int .i64 x.1) := (hx10.cell 0).trans rfl
      rw [c_seq, c_seq]
      cases hmx : decide (x.1 = 9223372036854775807) with
      | true =>
        have hmx' := of_decide_eq_true hmx
        have hk1 := hlm1 hmx'
        rw [hk1] at hW10
        simp -dsimp only [↓RE,RU,RL,if_true,if_false,forall_const,implies_true,Nat.reduceLeDiff,Nat.reduceLT,pureOp,binPure,intBin,strBin,eqPure,isConstO,unPure,sliceLo,sliceHi,slicePure,slice3Pure,lenPure,capPure,minPure,maxPure,buildP,resK,endV,yieldE,↓reduceIte,Nat.reduceEqDiff,reduceCtorEq,Nat.reduceAdd,Nat.reduceMul,Nat.reduceSub,Int.reduceLT,Int.reduceLE,Int.reduceToNat,Int.reduceAdd,Int.reduceSub,Int.reduceMul,ne_eq,decide_true,decide_false,tf4, he7, y0, add_lit', Nat.zero_add, hmx]
        refine hold_intro ⟨⟨by simp -dsimp only [↓RE,RU,RL,if_true,if_false,↓reduceIte,Nat.reduceEqDiff,reduceCtorEq,decide_true,decide_false, he0], by simp -dsimp only [↓RE,RU,RL,if_true,if_false,↓reduceIte,Nat.reduceEqDiff,reduceCtorEq,decide_true,decide_false, he3], by simp -dsimp only [↓RE,RU,RL,if_true,if_false,↓reduceIte,Nat.reduceEqDiff,reduceCtorEq,decide_true,decide_false, he4], by simp -dsimp only [↓RE,RU,RL,if_true,if_false,↓reduceIte,Nat.reduceEqDiff,reduceCtorEq,decide_true,decide_false, he5], by simp -dsimp only [↓RE,RU,RL,if_true,if_false,↓reduceIte,Nat.reduceEqDiff,reduceCtorEq,decide_true,decide_false, he7]⟩, ?_, v10, x, hW10⟩
        rw [← hk1]
        simp -dsimp only [↓RE,↓c_seq,RU,RL,if_true,if_false,forall_const,implies_true,Nat.reduceLeDiff,Nat.reduceLT,pureOp,binPure,intBin,strBin,eqPure,isConstO,unPure,sliceLo,sliceHi,slicePure,slice3Pure,lenPure,capPure,minPure,maxPure,buildP,resK,endV,yieldE,↓reduceIte,Nat.reduceEqDiff,reduceCtorEq,Nat.reduceAdd,Nat.reduceMul,Nat.reduceSub,Int.reduceLT,Int.reduceLE,Int.reduceToNat,Int.reduceAdd,Int.reduceSub,Int.reduceMul,ne_eq,decide_true,decide_false,tf4, he6, hw1]
      | false =>
        have hmx' := of_decide_eq_false hmx
        have hw2 : IntKind.i64.wrap (x.1 + 1) = x.1 + 1 := wrap_i64_in (by omega) (by omega)
        simp -dsimp only [↓RE,RU,RL,if_true,if_false,forall_const,implies_true,Nat.reduceLeDiff,Nat.reduceLT,pureOp,binPure,intBin,strBin,eqPure,isConstO,unPure,sliceLo,sliceHi,slicePure,slice3Pure,lenPure,capPure,minPure,maxPure,buildP,resK,endV,yieldE,↓reduceIte,Nat.reduceEqDiff,reduceCtorEq,Nat.reduceAdd,Nat.reduceMul,Nat.reduceSub,Int.reduceLT,Int.reduceLE,Int.reduceToNat,Int.reduceAdd,Int.reduceSub,Int.reduceMul,ne_eq,decide_true,decide_false,tf4, he7, y0, add_lit', Nat.zero_add, hmx]
        rw [c_seq]
        simp -dsimp only [↓RE,RU,RL,if_true,if_false,forall_const,implies_true,Nat.reduceLeDiff,Nat.reduceLT,pureOp,binPure,intBin,strBin,eqPure,isConstO,unPure,sliceLo,sliceHi,slicePure,slice3Pure,lenPure,capPure,minPure,maxPure,buildP,resK,endV,yieldE,↓reduceIte,Nat.reduceEqDiff,reduceCtorEq,Nat.reduceAdd,Nat.reduceMul,Nat.reduceSub,Int.reduceLT,Int.reduceLE,Int.reduceToNat,Int.reduceAdd,Int.reduceSub,Int.reduceMul,ne_eq,decide_true,decide_false,tf4, he3, he7, y0, add_lit', Nat.zero_add, hw2]
        refine behind_ok hW10.s (by omega) (fun w11 g11 => ?_)
        rw [hah]
        simp -dsimp only [↓RE,RU,RL,if_true,if_false,forall_const,implies_true,Nat.reduceLeDiff,Nat.reduceLT,pureOp,binPure,intBin,strBin,eqPure,isConstO,unPure,sliceLo,sliceHi,slicePure,slice3Pure,lenPure,capPure,minPure,maxPure,buildP,resK,endV,yieldE,↓reduceIte,Nat.reduceEqDiff,reduceCtorEq,Nat.reduceAdd,Nat.reduceMul,Nat.reduceSub,Int.reduceLT,Int.reduceLE,Int.reduceToNat,Int.reduceAdd,Int.reduceSub,Int.reduceMul,ne_eq,decide_true,decide_false,tf4, he3]
        refine new3 (fun w12 hb12 g12 => ?_) rfl rfl rfl
        have hW12 := hW10.grow (g11.trans g12)
        have hsz12 := hW12.x.lt
        have hb9 : b ≠ w11.heap.size := by have := hx10.lt; have := g11.size; omega
        refine os_gen (fun e' => (e' 0 = .slice A n c ∧ e' 3 = .pointer (some ⟨gs, 0, none⟩) ∧ e' 4 = .slice (some ad) (S.map freshD).length c4 ∧ e' 5 = .pointer (some ⟨gt, 0, none⟩) ∧ e' 7 = .pointer (some ⟨b, 0, none⟩)) ∧ e' 6 = .int .i64 ((k + 1 : Nat) : Int) ∧ e' 9 = .pointer (some ⟨w11.heap.size, 0, none⟩) ∧ e' 89 = .bool (nthV S ((k + 1 : Nat) : Int)).2) ⟨⟨?_, ?_, ?_, ?_, ?_⟩, ?_, ?_, ?_⟩ ?_
        · simp -dsimp only [↓RE,RU,RL,if_true,if_false,↓reduceIte,Nat.reduceEqDiff,reduceCtorEq,decide_true,decide_false, he0]
        · simp -dsimp only [↓RE,RU,RL,if_true,if_false,↓reduceIte,Nat.reduceEqDiff,reduceCtorEq,decide_true,decide_false, he3]
        · simp -dsimp only [↓RE,RU,RL,if_true,if_false,↓reduceIte,Nat.reduceEqDiff,reduceCtorEq,decide_true,decide_false, he4]
        · simp -dsimp only [↓RE,RU,RL,if_true,if_false,↓reduceIte,Nat.reduceEqDiff,reduceCtorEq,decide_true,decide_false, he5]
        · simp -dsimp only [↓RE,RU,RL,if_true,if_false,↓reduceIte,Nat.reduceEqDiff,reduceCtorEq,decide_true,decide_false, he7]
        · simp -dsimp only [↓RE,RU,RL,if_true,if_false,↓reduceIte,Nat.reduceEqDiff,reduceCtorEq,decide_true,decide_false, he6, hw1]
        · simp -dsimp only [↓RE,RU,RL,if_true,if_false,↓reduceIte,Nat.reduceEqDiff,reduceCtorEq,decide_true,decide_false, he3]
        · simp -dsimp only [↓RE,RU,RL,if_true,if_false,↓reduceIte,Nat.reduceEqDiff,reduceCtorEq,decide_true,decide_false, he3]
        have he6o := he6
        clear he0 he3 he4 he5 he7 he6 he8
        rintro e2 ⟨⟨he0, he3, he4, he5, he7⟩, he6, he9, he89⟩
        simp -dsimp only [↓RE,RU,RL,if_true,if_false,forall_const,implies_true,Nat.reduceLeDiff,Nat.reduceLT,pureOp,binPure,intBin,strBin,eqPure,isConstO,unPure,sliceLo,sliceHi,slicePure,slice3Pure,lenPure,capPure,minPure,maxPure,buildP,resK,endV,yieldE,↓reduceIte,Nat.reduceEqDiff,reduceCtorEq,Nat.reduceAdd,Nat.reduceMul,Nat.reduceSub,Int.reduceLT,Int.reduceLE,Int.reduceToNat,Int.reduceAdd,Int.reduceSub,Int.reduceMul,ne_eq,decide_true,decide_false,tf4, he89]
        generalize w11.heap.size = b9 at hb12 hb9 he9
        have hx12 := hW12.x
        have z0 : w12.cell? ⟨b, 0, none⟩ = some (.int .i64 x.1) := (hx12.cell 0).trans rfl
        have u0 : w12.cell? ⟨b9, 0, none⟩ = some (.int .i64 (nthV S ((k + 1 : Nat) : Int)).1.1) := (hb12.cell 0).trans rfl
        refine c_seq_cut (fun e' w' => w' = w12 ∧ (e' 0 = .slice A n c ∧ e' 3 = .pointer (some ⟨gs, 0, none⟩) ∧ e' 4 = .slice (some ad) (S.map freshD).length c4 ∧ e' 5 = .pointer (some ⟨gt, 0, none⟩) ∧ e' 7 = .pointer (some ⟨b, 0, none⟩)) ∧ e' 6 = .int .i64 ((k + 1 : Nat) : Int) ∧ e' 9 = .pointer (some ⟨b9, 0, none⟩) ∧ e' 10 = .bool (nthV S ((k + 1 : Nat) : Int)).2) ?_ ?_
        · rw [c_seq]
          rcases Nat.lt_or_ge (k + 1) S.length with hk1 | hk1
          · rw [nthV_lt hk1] at u0 he89 ⊢
            have hle : decide ((S.getD (k + 1) (0, 0, 0)).1 ≤ x.1) = false := decide_eq_false (by have := hnx hk1; omega)
            simp -dsimp only [↓RE,RU,RL,if_true,if_false,forall_const,implies_true,Nat.reduceLeDiff,Nat.reduceLT,pureOp,binPure,intBin,strBin,eqPure,isConstO,unPure,sliceLo,sliceHi,slicePure,slice3Pure,lenPure,capPure,minPure,maxPure,buildP,resK,endV,yieldE,↓reduceIte,Nat.reduceEqDiff,reduceCtorEq,Nat.reduceAdd,Nat.reduceMul,Nat.reduceSub,Int.reduceLT,Int.reduceLE,Int.reduceToNat,Int.reduceAdd,Int.reduceSub,Int.reduceMul,ne_eq,decide_true,decide_false,tf4, he89, he9, he7, u0, z0, add_lit', Nat.zero_add, hle]
            exact hold_intro ⟨rfl, ⟨by simp -dsimp only [↓RE,RU,RL,if_true,if_false,↓reduceIte,Nat.reduceEqDiff,reduceCtorEq,decide_true,decide_false, he0], by simp -dsimp only [↓RE,RU,RL,if_true,if_false,↓reduceIte,Nat.reduceEqDiff,reduceCtorEq,decide_true,decide_false, he3], by simp -dsimp only [↓RE,RU,RL,if_true,if_false,↓reduceIte,Nat.reduceEqDiff,reduceCtorEq,decide_true,decide_false, he4], by simp -dsimp only [↓RE,RU,RL,if_true,if_false,↓reduceIte,Nat.reduceEqDiff,reduceCtorEq,decide_true,decide_false, he5], by simp -dsimp only [↓RE,RU,RL,if_true,if_false,↓reduceIte,Nat.reduceEqDiff,reduceCtorEq,decide_true,decide_false, he7]⟩, by simp -dsimp only [↓RE,RU,RL,if_true,if_false,↓reduceIte,Nat.reduceEqDiff,reduceCtorEq,decide_true,decide_false, he6], by simp -dsimp only [↓RE,RU,RL,if_true,if_false,↓reduceIte,Nat.reduceEqDiff,reduceCtorEq,decide_true,decide_false, he9], by simp -dsimp only [↓RE,RU,RL,if_true,if_false,↓reduceIte,Nat.reduceEqDiff,reduceCtorEq,decide_true,decide_false, he89]⟩
          · rw [nthV_ge hk1] at he89 ⊢
            simp -dsimp only [↓RE,RU,RL,if_true,if_false,forall_const,implies_true,Nat.reduceLeDiff,Nat.reduceLT,pureOp,binPure,intBin,strBin,eqPure,isConstO,unPure,sliceLo,sliceHi,slicePure,slice3Pure,lenPure,capPure,minPure,maxPure,buildP,resK,endV,yieldE,↓reduceIte,Nat.reduceEqDiff,reduceCtorEq,Nat.reduceAdd,Nat.reduceMul,Nat.reduceSub,Int.reduceLT,Int.reduceLE,Int.reduceToNat,Int.reduceAdd,Int.reduceSub,Int.reduceMul,ne_eq,decide_true,decide_false,tf4, he89, undef]
            exact hold_intro ⟨rfl, ⟨by simp -dsimp only [↓RE,RU,RL,if_true,if_false,↓reduceIte,Nat.reduceEqDiff,reduceCtorEq,decide_true,decide_false, he0], by simp -dsimp only [↓RE,RU,RL,if_true,if_false,↓reduceIte,Nat.reduceEqDiff,reduceCtorEq,decide_true,decide_false, he3], by simp -dsimp only [↓RE,RU,RL,if_true,if_false,↓reduceIte,Nat.reduceEqDiff,reduceCtorEq,decide_true,decide_false, he4], by simp -dsimp only [↓RE,RU,RL,if_true,if_false,↓reduceIte,Nat.reduceEqDiff,reduceCtorEq,decide_true,decide_false, he5], by simp -dsimp only [↓RE,RU,RL,if_true,if_false,↓reduceIte,Nat.reduceEqDiff,reduceCtorEq,decide_true,decide_false, he7]⟩, by simp -dsimp only [↓RE,RU,RL,if_true,if_false,↓reduceIte,Nat.reduceEqDiff,reduceCtorEq,decide_true,decide_false, he6], by simp -dsimp only [↓RE,RU,RL,if_true,if_false,↓reduceIte,Nat.reduceEqDiff,reduceCtorEq,decide_true,decide_false, he9], by simp -dsimp only [↓RE,RU,RL,if_true,if_false,↓reduceIte,Nat.reduceEqDiff,reduceCtorEq,decide_true,decide_false, he89]⟩
        clear he0 he3 he4 he5 he7 he6 he9 he89
        rintro e3 w13 ⟨rfl, ⟨he0, he3, he4, he5, he7⟩, he6, he9, he10⟩
        rw [c_seq]
        simp -dsimp only [↓RE,RU,RL,if_true,if_false,forall_const,implies_true,Nat.reduceLeDiff,Nat.reduceLT,pureOp,binPure,intBin,strBin,eqPure,isConstO,unPure,sliceLo,sliceHi,slicePure,slice3Pure,lenPure,capPure,minPure,maxPure,buildP,resK,endV,yieldE,↓reduceIte,Nat.reduceEqDiff,reduceCtorEq,Nat.reduceAdd,Nat.reduceMul,Nat.reduceSub,Int.reduceLT,Int.reduceLE,Int.reduceToNat,Int.reduceAdd,Int.reduceSub,Int.reduceMul,ne_eq,decide_true,decide_false,tf4, he9]
        refine blk_agg3 hb12 ?_
        simp -dsimp only [↓RE,RU,RL,if_true,if_false,forall_const,implies_true,Nat.reduceLeDiff,Nat.reduceLT,pureOp,binPure,intBin,strBin,eqPure,isConstO,unPure,sliceLo,sliceHi,slicePure,slice3Pure,lenPure,capPure,minPure,maxPure,buildP,resK,endV,yieldE,↓reduceIte,Nat.reduceEqDiff,reduceCtorEq,Nat.reduceAdd,Nat.reduceMul,Nat.reduceSub,Int.reduceLT,Int.reduceLE,Int.reduceToNat,Int.reduceAdd,Int.reduceSub,Int.reduceMul,ne_eq,decide_true,decide_false,tf4, he7]
        refine blk_st3 hx12 rfl rfl rfl (fun w14 hx14 k14 => ?_)
        have hW14 := hW12.set (y := (nthV S ((k + 1 : Nat) : Int)).1) hx14 k14
        simp -dsimp only [↓RE,RU,RL,if_true,if_false,forall_const,implies_true,Nat.reduceLeDiff,Nat.reduceLT,pureOp,binPure,intBin,strBin,eqPure,isConstO,unPure,sliceLo,sliceHi,slicePure,slice3Pure,lenPure,capPure,minPure,maxPure,buildP,resK,endV,yieldE,↓reduceIte,Nat.reduceEqDiff,reduceCtorEq,Nat.reduceAdd,Nat.reduceMul,Nat.reduceSub,Int.reduceLT,Int.reduceLE,Int.reduceToNat,Int.reduceAdd,Int.reduceSub,Int.reduceMul,ne_eq,decide_true,decide_false,tf4, he10]
        refine hold_intro ⟨⟨⟨by simp -dsimp only [↓RE,RU,RL,if_true,if_false,↓reduceIte,Nat.reduceEqDiff,reduceCtorEq,decide_true,decide_false, he0], by simp -dsimp only [↓RE,RU,RL,if_true,if_false,↓reduceIte,Nat.reduceEqDiff,reduceCtorEq,decide_true,decide_false, he3], by simp -dsimp only [↓RE,RU,RL,if_true,if_false,↓reduceIte,Nat.reduceEqDiff,reduceCtorEq,decide_true,decide_false, he4], by simp -dsimp only [↓RE,RU,RL,if_true,if_false,↓reduceIte,Nat.reduceEqDiff,reduceCtorEq,decide_true,decide_false, he5], by simp -dsimp only [↓RE,RU,RL,if_true,if_false,↓reduceIte,Nat.reduceEqDiff,reduceCtorEq,decide_true,decide_false, he7]⟩, k + 1, v10, by omega, by simp -dsimp only [↓RE,RU,RL,if_true,if_false,↓reduceIte,Nat.reduceEqDiff,reduceCtorEq,decide_true,decide_false, he6], by simp -dsimp only [↓RE,RU,RL,if_true,if_false,↓reduceIte,Nat.reduceEqDiff,reduceCtorEq,decide_true,decide_false, he10], hW14⟩, ?_⟩
        simp -dsimp only [↓RE,↓c_seq,RU,RL,if_true,if_false,forall_const,implies_true,Nat.reduceLeDiff,Nat.reduceLT,pureOp,binPure,intBin,strBin,eqPure,isConstO,unPure,sliceLo,sliceHi,slicePure,slice3Pure,lenPure,capPure,minPure,maxPure,buildP,resK,endV,yieldE,↓reduceIte,Nat.reduceEqDiff,reduceCtorEq,Nat.reduceAdd,Nat.reduceMul,Nat.reduceSub,Int.reduceLT,Int.reduceLE,Int.reduceToNat,Int.reduceAdd,Int.reduceSub,Int.reduceMul,ne_eq,decide_true,decide_false,tf4, he6o, he6]
        simp only [envInt_int]; omega
    · obtain rfl : k = S.length := by omega
      rw [nthV_ge (Nat.le_refl _)] at he8
      simp -dsimp only [↓RE,RU,RL,if_true,if_false,forall_const,implies_true,Nat.reduceLeDiff,Nat.reduceLT,pureOp,binPure,intBin,strBin,eqPure,isConstO,unPure,sliceLo,sliceHi,slicePure,slice3Pure,lenPure,capPure,minPure,maxPure,buildP,resK,endV,yieldE,↓reduceIte,Nat.reduceEqDiff,reduceCtorEq,Nat.reduceAdd,Nat.reduceMul,Nat.reduceSub,Int.reduceLT,Int.reduceLE,Int.reduceToNat,Int.reduceAdd,Int.reduceSub,Int.reduceMul,ne_eq,decide_true,decide_false,tf4, he8, undef]
      exact hold_intro ⟨⟨by simp -dsimp only [↓RE,RU,RL,if_true,if_false,↓reduceIte,Nat.reduceEqDiff,reduceCtorEq,decide_true,decide_false, he0], by simp -dsimp only [↓RE,RU,RL,if_true,if_false,↓reduceIte,Nat.reduceEqDiff,reduceCtorEq,decide_true,decide_false, he3], by simp -dsimp only [↓RE,RU,RL,if_true,if_false,↓reduceIte,Nat.reduceEqDiff,reduceCtorEq,decide_true,decide_false, he4], by simp -dsimp only [↓RE,RU,RL,if_true,if_false,↓reduceIte,Nat.reduceEqDiff,reduceCtorEq,decide_true,decide_false, he5], by simp -dsimp only [↓RE,RU,RL,if_true,if_false,↓reduceIte,Nat.reduceEqDiff,reduceCtorEq,decide_true,decide_false, he7]⟩, by simp -dsimp only [↓RE,RU,RL,if_true,if_false,↓reduceIte,Nat.reduceEqDiff,reduceCtorEq,decide_true,decide_false, he6], vt, _, hW⟩
  clear he0 he3 he4 he5 he7 he6 he24 hW7 e
  rintro e wz ⟨⟨he0, he3, he4, he5, he7⟩, he6, vt, x, hW⟩
  have hTt : SerAt wz gt vt S := by have := hW.t; rwa [List.take_length] at this
  rw [c_seq, c_seq]
  simp -dsimp only [↓RE,RU,RL,if_true,if_false,forall_const,implies_true,Nat.reduceLeDiff,Nat.reduceLT,pureOp,binPure,intBin,strBin,eqPure,isConstO,unPure,sliceLo,sliceHi,slicePure,slice3Pure,lenPure,capPure,minPure,maxPure,buildP,resK,endV,yieldE,↓reduceIte,Nat.reduceEqDiff,reduceCtorEq,Nat.reduceAdd,Nat.reduceMul,Nat.reduceSub,Int.reduceLT,Int.reduceLE,Int.reduceToNat,Int.reduceAdd,Int.reduceSub,Int.reduceMul,ne_eq,decide_true,decide_false,tf4, he3, he6]
  refine len_ok hW.s ?_
  simp -dsimp only [↓RE,RU,RL,if_true,if_false,forall_const,implies_true,Nat.reduceLeDiff,Nat.reduceLT,pureOp,binPure,intBin,strBin,eqPure,isConstO,unPure,sliceLo,sliceHi,slicePure,slice3Pure,lenPure,capPure,minPure,maxPure,buildP,resK,endV,yieldE,↓reduceIte,Nat.reduceEqDiff,reduceCtorEq,Nat.reduceAdd,Nat.reduceMul,Nat.reduceSub,Int.reduceLT,Int.reduceLE,Int.reduceToNat,Int.reduceAdd,Int.reduceSub,Int.reduceMul,ne_eq,decide_true,decide_false,tf4, he4, he5, he6, hlm, eq_self, decide_true, Bool.not_true]
  refine len_ok hTt ?_
  simp -dsimp only [↓RE,RU,RL,if_true,if_false,forall_const,implies_true,Nat.reduceLeDiff,Nat.reduceLT,pureOp,binPure,intBin,strBin,eqPure,isConstO,unPure,sliceLo,sliceHi,slicePure,slice3Pure,lenPure,capPure,minPure,maxPure,buildP,resK,endV,yieldE,↓reduceIte,Nat.reduceEqDiff,reduceCtorEq,Nat.reduceAdd,Nat.reduceMul,Nat.reduceSub,Int.reduceLT,Int.reduceLE,Int.reduceToNat,Int.reduceAdd,Int.reduceSub,Int.reduceMul,ne_eq,decide_true,decide_false,tf4, he4, he5, he6, eq_self, decide_true, Bool.not_true]
  rw [c_seq]
  simp -dsimp only [↓RE,RU,RL,if_true,if_false,forall_const,implies_true,Nat.reduceLeDiff,Nat.reduceLT,pureOp,binPure,intBin,strBin,eqPure,isConstO,unPure,sliceLo,sliceHi,slicePure,slice3Pure,lenPure,capPure,minPure,maxPure,buildP,resK,endV,yieldE,↓reduceIte,Nat.reduceEqDiff,reduceCtorEq,Nat.reduceAdd,Nat.reduceMul,Nat.reduceSub,Int.reduceLT,Int.reduceLE,Int.reduceToNat,Int.reduceAdd,Int.reduceSub,Int.reduceMul,ne_eq,decide_true,decide_false,tf4, he3]
  refine last_ok hW.s (by omega) (fun w11 g11 => ?_)
  have hW11 := hW.grow g11
  have hx11 := hW11.x
  simp -dsimp only [↓RE,RU,RL,if_true,if_false,forall_const,implies_true,Nat.reduceLeDiff,Nat.reduceLT,pureOp,binPure,intBin,strBin,eqPure,isConstO,unPure,sliceLo,sliceHi,slicePure,slice3Pure,lenPure,capPure,minPure,maxPure,buildP,resK,endV,yieldE,↓reduceIte,Nat.reduceEqDiff,reduceCtorEq,Nat.reduceAdd,Nat.reduceMul,Nat.reduceSub,Int.reduceLT,Int.reduceLE,Int.reduceToNat,Int.reduceAdd,Int.reduceSub,Int.reduceMul,ne_eq,decide_true,decide_false,tf4, he7]
  refine blk_st3 hx11 rfl rfl rfl (fun w12 hx12 k12 => ?_)
  have hW12 := hW11.set (y := (nthV S ((S.length : Int) - 1)).1) hx12 k12
  refine os_gen (fun e' => (e' 0 = .slice A n c ∧ e' 3 = .pointer (some ⟨gs, 0, none⟩) ∧ e' 4 = .slice A4 (S.map freshD).length c4 ∧ e' 5 = .pointer (some ⟨gt, 0, none⟩) ∧ e' 7 = .pointer (some ⟨b, 0, none⟩)) ∧ e' 6 = .int .i64 (S.length : Int) ∧ e' 120 = .bool (nthV S ((S.length : Int) - 1)).2) ⟨⟨?_, ?_, ?_, ?_, ?_⟩, ?_, ?_⟩ ?_
  · simp -dsimp only [↓RE,RU,RL,if_true,if_false,↓reduceIte,Nat.reduceEqDiff,reduceCtorEq,decide_true,decide_false, he0]
  · simp -dsimp only [↓RE,RU,RL,if_true,if_false,↓reduceIte,Nat.reduceEqDiff,reduceCtorEq,decide_true,decide_false, he3]
  · simp -dsimp only [↓RE,RU,RL,if_true,if_false,↓reduceIte,Nat.reduceEqDiff,reduceCtorEq,decide_true,decide_false, he4]
  · simp -dsimp only [↓RE,RU,RL,if_true,if_false,↓reduceIte,Nat.reduceEqDiff,reduceCtorEq,decide_true,decide_false, he5]
  · simp -dsimp only [↓RE,RU,RL,if_true,if_false,↓reduceIte,Nat.reduceEqDiff,reduceCtorEq,decide_true,decide_false, he7]
  · simp -dsimp only [↓RE,RU,RL,if_true,if_false,↓reduceIte,Nat.reduceEqDiff,reduceCtorEq,decide_true,decide_false, he6]
  · simp -dsimp only [↓RE,RU,RL,if_true,if_false,↓reduceIte,Nat.reduceEqDiff,reduceCtorEq,decide_true,decide_false, he3]
  clear he0 he3 he4 he5 he7 he6 hW hTt hx12 hx11 hW11 e
  rintro e ⟨⟨he0, he3, he4, he5, he7⟩, he6, he120⟩
  simp -dsimp only [↓RE,RU,RL,if_true,if_false,forall_const,implies_true,Nat.reduceLeDiff,Nat.reduceLT,pureOp,binPure,intBin,strBin,eqPure,isConstO,unPure,sliceLo,sliceHi,slicePure,slice3Pure,lenPure,capPure,minPure,maxPure,buildP,resK,endV,yieldE,↓reduceIte,Nat.reduceEqDiff,reduceCtorEq,Nat.reduceAdd,Nat.reduceMul,Nat.reduceSub,Int.reduceLT,Int.reduceLE,Int.reduceToNat,Int.reduceAdd,Int.reduceSub,Int.reduceMul,ne_eq,decide_true,decide_false,tf4, he120]
  refine c_seq_cut (fun e' w' => (e' 0 = .slice A n c ∧ e' 3 = .pointer (some ⟨gs, 0, none⟩) ∧ e' 4 = .slice A4 (S.map freshD).length c4 ∧ e' 5 = .pointer (some ⟨gt, 0, none⟩) ∧ e' 7 = .pointer (some ⟨b, 0, none⟩)) ∧ e' 6 = .int .i64 0 ∧ e' 8 = .bool false ∧ ∃ x, Wk w w4 w' gs gt b v4 vt S A4 c4 S.length x) ?_ ?_
  · simp -dsimp only [↓RE,RU,RL,if_true,if_false,forall_const,implies_true,Nat.reduceLeDiff,Nat.reduceLT,pureOp,binPure,intBin,strBin,eqPure,isConstO,unPure,sliceLo,sliceHi,slicePure,slice3Pure,lenPure,capPure,minPure,maxPure,buildP,resK,endV,yieldE,↓reduceIte,Nat.reduceEqDiff,reduceCtorEq,Nat.reduceAdd,Nat.reduceMul,Nat.reduceSub,Int.reduceLT,Int.reduceLE,Int.reduceToNat,Int.reduceAdd,Int.reduceSub,Int.reduceMul,ne_eq,decide_true,decide_false,tf4, he0]
    refine wpLoop_intro (fun e' w' => (e' 0 = .slice A n c ∧ e' 3 = .pointer (some ⟨gs, 0, none⟩) ∧ e' 4 = .slice A4 (S.map freshD).length c4 ∧ e' 5 = .pointer (some ⟨gt, 0, none⟩) ∧ e' 7 = .pointer (some ⟨b, 0, none⟩)) ∧ ∃ (m : Nat), m ≤ S.length ∧ e' 6 = .int .i64 (m : Int) ∧ e' 8 = .bool (nthV S ((m : Int) - 1)).2 ∧ Wk w w4 w' gs gt b v4 vt S A4 c4 S.length (nthV S ((m : Int) - 1)).1)
      (fun e' _ => (envInt (e' 6)).toNat) ⟨⟨?_, ?_, ?_, ?_, ?_⟩, S.length, Nat.le_refl _, ?_, ?_, hW12⟩ ?_
    · simp -dsimp only [↓RE,RU,RL,if_true,if_false,↓reduceIte,Nat.reduceEqDiff,reduceCtorEq,decide_true,decide_false, he0]
    · simp -dsimp only [↓RE,RU,RL,if_true,if_false,↓reduceIte,Nat.reduceEqDiff,reduceCtorEq,decide_true,decide_false, he3]
    · simp -dsimp only [↓RE,RU,RL,if_true,if_false,↓reduceIte,Nat.reduceEqDiff,reduceCtorEq,decide_true,decide_false, he4]
    · simp -dsimp only [↓RE,RU,RL,if_true,if_false,↓reduceIte,Nat.reduceEqDiff,reduceCtorEq,decide_true,decide_false, he5]
    · simp -dsimp only [↓RE,RU,RL,if_true,if_false,↓reduceIte,Nat.reduceEqDiff,reduceCtorEq,decide_true,decide_false, he7]
    · simp -dsimp only [↓RE,RU,RL,if_true,if_false,↓reduceIte,Nat.reduceEqDiff,reduceCtorEq,decide_true,decide_false, he6]
    · simp -dsimp only [↓RE,RU,RL,if_true,if_false,↓reduceIte,Nat.reduceEqDiff,reduceCtorEq,decide_true,decide_false, he120]
    clear he0 he3 he4 he5 he7 he6 he120 hW12 e
    rintro e wz ⟨⟨he0, he3, he4, he5, he7⟩, m, hm, he6, he8, hW⟩
    rw [c_seq, c_seq]
    cases m with
    | zero =>
      rw [nthV_pred0] at he8
      simp -dsimp only [↓RE,RU,RL,if_true,if_false,forall_const,implies_true,Nat.reduceLeDiff,Nat.reduceLT,pureOp,binPure,intBin,strBin,eqPure,isConstO,unPure,sliceLo,sliceHi,slicePure,slice3Pure,lenPure,capPure,minPure,maxPure,buildP,resK,endV,yieldE,↓reduceIte,Nat.reduceEqDiff,reduceCtorEq,Nat.reduceAdd,Nat.reduceMul,Nat.reduceSub,Int.reduceLT,Int.reduceLE,Int.reduceToNat,Int.reduceAdd,Int.reduceSub,Int.reduceMul,ne_eq,decide_true,decide_false,tf4, he8, undef]
      exact hold_intro ⟨⟨by simp -dsimp only [↓RE,RU,RL,if_true,if_false,↓reduceIte,Nat.reduceEqDiff,reduceCtorEq,decide_true,decide_false, he0], by simp -dsimp only [↓RE,RU,RL,if_true,if_false,↓reduceIte,Nat.reduceEqDiff,reduceCtorEq,decide_true,decide_false, he3], by simp -dsimp only [↓RE,RU,RL,if_true,if_false,↓reduceIte,Nat.reduceEqDiff,reduceCtorEq,decide_true,decide_false, he4], by simp -dsimp only [↓RE,RU,RL,if_true,if_false,↓reduceIte,Nat.reduceEqDiff,reduceCtorEq,decide_true,decide_false, he5], by simp -dsimp only [↓RE,RU,RL,if_true,if_false,↓reduceIte,Nat.reduceEqDiff,reduceCtorEq,decide_true,decide_false, he7]⟩, by simp -dsimp only [↓RE,RU,RL,if_true,if_false,↓reduceIte,Nat.reduceEqDiff,reduceCtorEq,decide_true,decide_false, he6, Int.cast_ofNat_Int], by simp -dsimp only [↓RE,RU,RL,if_true,if_false,↓reduceIte,Nat.reduceEqDiff,reduceCtorEq,decide_true,decide_false, he8], _, hW⟩
    | succ m =>
      have hml : m < S.length := hm
      rw [nthV_pred hml] at he8 hW
      have hm0 : decide ((0 : Int) < ((m + 1 : Nat) : Int)) = true := decide_eq_true (by omega)
      simp -dsimp only [↓RE,RU,RL,if_true,if_false,forall_const,implies_true,Nat.reduceLeDiff,Nat.reduceLT,pureOp,binPure,intBin,strBin,eqPure,isConstO,unPure,sliceLo,sliceHi,slicePure,slice3Pure,lenPure,capPure,minPure,maxPure,buildP,resK,endV,yieldE,↓reduceIte,Nat.reduceEqDiff,reduceCtorEq,Nat.reduceAdd,Nat.reduceMul,Nat.reduceSub,Int.reduceLT,Int.reduceLE,Int.reduceToNat,Int.reduceAdd,Int.reduceSub,Int.reduceMul,ne_eq,decide_true,decide_false,tf4, he6, he8, hm0]
      have hw1 : IntKind.i64.wrap (((m + 1 : Nat) : Int) - 1) = (m : Int) := by rw [wrap_i64_in (by omega) (by omega)]; omega
      rw [c_seq]
      simp -dsimp only [↓RE,RU,RL,if_true,if_false,forall_const,implies_true,Nat.reduceLeDiff,Nat.reduceLT,pureOp,binPure,intBin,strBin,eqPure,isConstO,unPure,sliceLo,sliceHi,slicePure,slice3Pure,lenPure,capPure,minPure,maxPure,buildP,resK,endV,yieldE,↓reduceIte,Nat.reduceEqDiff,reduceCtorEq,Nat.reduceAdd,Nat.reduceMul,Nat.reduceSub,Int.reduceLT,Int.reduceLE,Int.reduceToNat,Int.reduceAdd,Int.reduceSub,Int.reduceMul,ne_eq,decide_true,decide_false,tf4, he6, hw1]
      obtain ⟨ad, rfl⟩ := hW.d.rd.some (by omega)
      have hWd := hW.grow (Grow.drew wz)
      have hd : ∀ j v, (dcells (freshD (S.getD m (0, 0, 0))))[j]? = some v → wz.drew.cell? ((ad.add (m * 10)).add j) = some v := by
        have := hWd.d.rd.dlt (k := m) (by omega)
        rwa [fresh_getD hml] at this
      have hah := ahead_at hrS hml
      generalize S.getD m (0, 0, 0) = x at hW hWd hd hah
      have hx := hWd.x
      have d3 := hd 3 _ rfl
      have x0 : wz.drew.cell? ⟨b, 0, none⟩ = some (.int .i64 x.1) := (hx.cell 0).trans rfl
      simp only [freshD] at d3
      rw [c_seq, c_seq]
      simp -dsimp only [↓RE,RU,RL,if_true,if_false,forall_const,implies_true,Nat.reduceLeDiff,Nat.reduceLT,pureOp,binPure,intBin,strBin,eqPure,isConstO,unPure,sliceLo,sliceHi,slicePure,slice3Pure,lenPure,capPure,minPure,maxPure,buildP,resK,endV,yieldE,↓reduceIte,Nat.reduceEqDiff,reduceCtorEq,Nat.reduceAdd,Nat.reduceMul,Nat.reduceSub,Int.reduceLT,Int.reduceLE,Int.reduceToNat,Int.reduceAdd,Int.reduceSub,Int.reduceMul,ne_eq,decide_true,decide_false,tf4, he0]
      refine wpDraw_still (by kernel_rfl) ?_
      simp -dsimp only [↓RE,RU,RL,if_true,if_false,forall_const,implies_true,Nat.reduceLeDiff,Nat.reduceLT,pureOp,binPure,intBin,strBin,eqPure,isConstO,unPure,sliceLo,sliceHi,slicePure,slice3Pure,lenPure,capPure,minPure,maxPure,buildP,resK,endV,yieldE,↓reduceIte,Nat.reduceEqDiff,reduceCtorEq,Nat.reduceAdd,Nat.reduceMul,Nat.reduceSub,Int.reduceLT,Int.reduceLE,Int.reduceToNat,Int.reduceAdd,Int.reduceSub,Int.reduceMul,ne_eq,decide_true,decide_false,tf4, he4, he6, hw1, he7, d3, x0, add_lit', Nat.zero_add, eq_self, decide_true, Bool.not_true]
      refine ⟨⟨by omega, by omega⟩, ?_⟩
      simp -dsimp only [↓RE,RU,RL,if_true,if_false,forall_const,implies_true,Nat.reduceLeDiff,Nat.reduceLT,pureOp,binPure,intBin,strBin,eqPure,isConstO,unPure,sliceLo,sliceHi,slicePure,slice3Pure,lenPure,capPure,minPure,maxPure,buildP,resK,endV,yieldE,↓reduceIte,Nat.reduceEqDiff,reduceCtorEq,Nat.reduceAdd,Nat.reduceMul,Nat.reduceSub,Int.reduceLT,Int.reduceLE,Int.reduceToNat,Int.reduceAdd,Int.reduceSub,Int.reduceMul,ne_eq,decide_true,decide_false,tf4, he3, he7, x0, add_lit', Nat.zero_add]
      refine before_ok hWd.s (by omega) (fun w11 g11 => ?_)
      rw [hah]
      have hW11 := hWd.grow g11
      have hx11 := hW11.x
      simp -dsimp only [↓RE,RU,RL,if_true,if_false,forall_const,implies_true,Nat.reduceLeDiff,Nat.reduceLT,pureOp,binPure,intBin,strBin,eqPure,isConstO,unPure,sliceLo,sliceHi,slicePure,slice3Pure,lenPure,capPure,minPure,maxPure,buildP,resK,endV,yieldE,↓reduceIte,Nat.reduceEqDiff,reduceCtorEq,Nat.reduceAdd,Nat.reduceMul,Nat.reduceSub,Int.reduceLT,Int.reduceLE,Int.reduceToNat,Int.reduceAdd,Int.reduceSub,Int.reduceMul,ne_eq,decide_true,decide_false,tf4, he7]
      refine blk_st3 hx11 rfl rfl rfl (fun w12 hx12 k12 => ?_)
      have hW12 := hW11.set (y := (nthV S ((m : Int) - 1)).1) hx12 k12
      simp -dsimp only [↓RE,RU,RL,if_true,if_false,forall_const,implies_true,Nat.reduceLeDiff,Nat.reduceLT,pureOp,binPure,intBin,strBin,eqPure,isConstO,unPure,sliceLo,sliceHi,slicePure,slice3Pure,lenPure,capPure,minPure,maxPure,buildP,resK,endV,yieldE,↓reduceIte,Nat.reduceEqDiff,reduceCtorEq,Nat.reduceAdd,Nat.reduceMul,Nat.reduceSub,Int.reduceLT,Int.reduceLE,Int.reduceToNat,Int.reduceAdd,Int.reduceSub,Int.reduceMul,ne_eq,decide_true,decide_false,tf4, he7]
      refine hold_intro ⟨⟨⟨by simp -dsimp only [↓RE,RU,RL,if_true,if_false,↓reduceIte,Nat.reduceEqDiff,reduceCtorEq,decide_true,decide_false, he0], by simp -dsimp only [↓RE,RU,RL,if_true,if_false,↓reduceIte,Nat.reduceEqDiff,reduceCtorEq,decide_true,decide_false, he3], by simp -dsimp only [↓RE,RU,RL,if_true,if_false,↓reduceIte,Nat.reduceEqDiff,reduceCtorEq,decide_true,decide_false, he4], by simp -dsimp only [↓RE,RU,RL,if_true,if_false,↓reduceIte,Nat.reduceEqDiff,reduceCtorEq,decide_true,decide_false, he5], by simp -dsimp only [↓RE,RU,RL,if_true,if_false,↓reduceIte,Nat.reduceEqDiff,reduceCtorEq,decide_true,decide_false, he7]⟩, m, by omega, by simp -dsimp only [↓RE,RU,RL,if_true,if_false,↓reduceIte,Nat.reduceEqDiff,reduceCtorEq,decide_true,decide_false, he6, hw1], by simp -dsimp only [↓RE,RU,RL,if_true,if_false,↓reduceIte,Nat.reduceEqDiff,reduceCtorEq,decide_true,decide_false, he3], hW12⟩, ?_⟩
      simp -dsimp only [↓RE,↓c_seq,RU,RL,if_true,if_false,forall_const,implies_true,Nat.reduceLeDiff,Nat.reduceLT,pureOp,binPure,intBin,strBin,eqPure,isConstO,unPure,sliceLo,sliceHi,slicePure,slice3Pure,lenPure,capPure,minPure,maxPure,buildP,resK,endV,yieldE,↓reduceIte,Nat.reduceEqDiff,reduceCtorEq,Nat.reduceAdd,Nat.reduceMul,Nat.reduceSub,Int.reduceLT,Int.reduceLE,Int.reduceToNat,Int.reduceAdd,Int.reduceSub,Int.reduceMul,ne_eq,decide_true,decide_false,tf4, he6, hw1]
      simp only [envInt_int]; omega
  clear he0 he3 he4 he5 he7 he6 he120 hW12 e
  rintro e wz ⟨⟨he0, he3, he4, he5, he7⟩, he6, he8, x, hW⟩
  have hTt : SerAt wz gt vt S := by have := hW.t; rwa [List.take_length] at this
  have hgz := hW.gr
  have hrl : (sRange S (-9223372036854775808) 9223372036854775807).length ≤ S.length := List.length_filter_le _ _
  rw [c_seq]
  simp -dsimp only [↓RE,RU,RL,if_true,if_false,forall_const,implies_true,Nat.reduceLeDiff,Nat.reduceLT,pureOp,binPure,intBin,strBin,eqPure,isConstO,unPure,sliceLo,sliceHi,slicePure,slice3Pure,lenPure,capPure,minPure,maxPure,buildP,resK,endV,yieldE,↓reduceIte,Nat.reduceEqDiff,reduceCtorEq,Nat.reduceAdd,Nat.reduceMul,Nat.reduceSub,Int.reduceLT,Int.reduceLE,Int.reduceToNat,Int.reduceAdd,Int.reduceSub,Int.reduceMul,ne_eq,decide_true,decide_false,tf4, he3, he6, he8, eq_self, decide_true]
  refine range_ok hW.s (by omega) (fun y1 B1 q1 gy1 hL1 hF1 => ?_)
  simp -dsimp only [↓RE,RU,RL,if_true,if_false,forall_const,implies_true,Nat.reduceLeDiff,Nat.reduceLT,pureOp,binPure,intBin,strBin,eqPure,isConstO,unPure,sliceLo,sliceHi,slicePure,slice3Pure,lenPure,capPure,minPure,maxPure,buildP,resK,endV,yieldE,↓reduceIte,Nat.reduceEqDiff,reduceCtorEq,Nat.reduceAdd,Nat.reduceMul,Nat.reduceSub,Int.reduceLT,Int.reduceLE,Int.reduceToNat,Int.reduceAdd,Int.reduceSub,Int.reduceMul,ne_eq,decide_true,decide_false,tf4, he5]
  refine range_ok (hTt.grow gy1) (by omega) (fun y2 B2 q2 gy2 hL2 hF2 => ?_)
  simp -dsimp only [↓RE,RU,RL,if_true,if_false,forall_const,implies_true,Nat.reduceLeDiff,Nat.reduceLT,pureOp,binPure,intBin,strBin,eqPure,isConstO,unPure,sliceLo,sliceHi,slicePure,slice3Pure,lenPure,capPure,minPure,maxPure,buildP,resK,endV,yieldE,↓reduceIte,Nat.reduceEqDiff,reduceCtorEq,Nat.reduceAdd,Nat.reduceMul,Nat.reduceSub,Int.reduceLT,Int.reduceLE,Int.reduceToNat,Int.reduceAdd,Int.reduceSub,Int.reduceMul,ne_eq,decide_true,decide_false,tf4, he5]
  refine msameSamples_ok (hL1.grow gy2).rd hL2.rd (by omega) (by omega) (fun y3 gy3 => ?_)
  rw [decide_eq_true rfl]
  have gz3 := (gy1.trans gy2).trans gy3
  have hT3 := hTt.grow gz3
  have gb := Grow.alloc y3 (.cells #[] 41)
  have hown2 : SRow (y3.alloc (.cells #[] 41)) (.slice (some ⟨y3.heap.size, 0, none⟩) 0 0) ([] : List Smp) := LRow.of_own (own_new y3 41 3 0 #[] rfl (by simp [maxLen]))
  have hsb : (y3.alloc (.cells #[] 41)).heap.size = y3.heap.size + 1 := by simp
  simp -dsimp only [↓RE,RU,RL,if_true,if_false,forall_const,implies_true,Nat.reduceLeDiff,Nat.reduceLT,pureOp,binPure,intBin,strBin,eqPure,isConstO,unPure,sliceLo,sliceHi,slicePure,slice3Pure,lenPure,capPure,minPure,maxPure,buildP,resK,endV,yieldE,↓reduceIte,Nat.reduceEqDiff,reduceCtorEq,Nat.reduceAdd,Nat.reduceMul,Nat.reduceSub,Int.reduceLT,Int.reduceLE,Int.reduceToNat,Int.reduceAdd,Int.reduceSub,Int.reduceMul,ne_eq,decide_true,decide_false,tf4, he5, he0]
  refine app_smp (xs := []) (ys := xs) hown2 (hR.grow ((hgz.trans gz3).trans gb)) (by simp; omega) (fun B4 q4 y4 hL4 k4' f4' => ?_)
  have gy4 : Grow y3 y4 := gb.above k4' (fun q hq e => by rw [fpV_some] at e; simp only at e; omega)
  have hf4 : ∀ q, fpA B4 q → y3.heap.size ≤ q := fun q hq => by
    rcases f4' q ((fpV_fpA _ _ _ _).2 hq) with e | e
    · rw [fpV_some] at e; simp only at e; omega
    · omega
  rw [e3] at hL4 ⊢
  rw [List.nil_append] at hL4
  simp -dsimp only [↓RE,RU,RL,if_true,if_false,forall_const,implies_true,Nat.reduceLeDiff,Nat.reduceLT,pureOp,binPure,intBin,strBin,eqPure,isConstO,unPure,sliceLo,sliceHi,slicePure,slice3Pure,lenPure,capPure,minPure,maxPure,buildP,resK,endV,yieldE,↓reduceIte,Nat.reduceEqDiff,reduceCtorEq,Nat.reduceAdd,Nat.reduceMul,Nat.reduceSub,Int.reduceLT,Int.reduceLE,Int.reduceToNat,Int.reduceAdd,Int.reduceSub,Int.reduceMul,ne_eq,decide_true,decide_false,tf4, he5]
  refine load_ok (hT3.grow gy4) hL4.rd (fun _ q hq => ⟨fun e => by have := hf4 q hq; have := hT3.b.lt; omega, fun e => by have := hf4 q hq; have := hT3.row.lt q e; omega⟩) (by omega) (fun y5 v5 A5 c5 hS5' k5 f5 hD5 hF5 => ?_)
  rw [hag, List.length_nil]
  have hsw := hW.w0t
  have hg5 : Grow w y5 := ((hgz.trans gz3).trans gy4).above k5 (fun q hq e => by
    rcases e with e | e
    · have := hW.gtl; omega
    · have := hW.tl q e; omega)
  try simp -dsimp only [↓RE,↓c_seq,RU,RL,if_true,if_false,forall_const,implies_true,Nat.reduceLeDiff,Nat.reduceLT,pureOp,binPure,intBin,strBin,eqPure,isConstO,unPure,sliceLo,sliceHi,slicePure,slice3Pure,lenPure,capPure,minPure,maxPure,buildP,resK,endV,yieldE,↓reduceIte,Nat.reduceEqDiff,reduceCtorEq,Nat.reduceAdd,Nat.reduceMul,Nat.reduceSub,Int.reduceLT,Int.reduceLE,Int.reduceToNat,Int.reduceAdd,Int.reduceSub,Int.reduceMul,ne_eq,decide_true,decide_false,tf4, eq_self, decide_true]
  exact h y5 hg5

end Go.Proofs.Ytcnebgokbjpjnaa
