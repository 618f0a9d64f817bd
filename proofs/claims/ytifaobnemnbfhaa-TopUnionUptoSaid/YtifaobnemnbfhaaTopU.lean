/- The law TopUnion, walked. -/
import Derived.Test.YtifaobnemnbfhaaTopUS
import Derived.Test.YtifaobnemnbfhaaLoadP
import Derived.Test.YtifaobnemnbfhaaLive8
set_option linter.unusedVariables false
set_option linter.unusedSimpArgs false
set_option maxRecDepth 100000
namespace Go.Proofs.Ytifaobnemnbfhaa
open Go

theorem OrdR.keep {F : Nat → Prop} {w0 w w' : World} {v : Value} {D : List WrV} {l : List Wr} (h : OrdR w0 w v D l) (k : Keep F w w') (hF : ∀ q, fpV v q → ¬ F q) (hT : ∀ x ∈ D, ∀ q, fpA x.s.A q → ¬ F q) : OrdR w0 w' v D l :=
  ⟨h.eq, h.row.keep k hF, fun x hx => ⟨(h.ok x hx).1.keep0 k (fun _ => hT x hx), TRow.keep (h.ok x hx).2 k (hT x hx)⟩, h.fresh, h.tfresh, h.apart⟩
theorem OrdR.base {w0 w1 w : World} {v : Value} {D : List WrV} {l : List Wr} (h : OrdR w1 w v D l) (hs : w0.heap.size ≤ w1.heap.size) : OrdR w0 w v D l :=
  ⟨h.eq, h.row, h.ok, fun q hq => Nat.le_trans hs (h.fresh q hq), fun x hx q hq => Nat.le_trans hs (h.tfresh x hx q hq), h.apart⟩
theorem same5_ok {w : World} {a b : SerV} (ha : a.Ok w) (hb : b.Ok w) {R : VWK} (h : ∀ w', Grow w w' → R (.bool (decide (cmpSer a.s b.s = 0))) w') : CallsV Try.prog 5 [.agg a.cells.toArray, .agg b.cells.toArray] w R := by
  refine calls_of_wpC mixed Try.func5 rfl (by kernel_rfl) ?_
  intro e he
  have he0 := he 0
  have he1 := he 1
  simp only [List.getD_cons_zero, List.getD_cons_succ] at he0 he1
  clear he
  rw [c_seq]
  simp -dsimp only [↓RE,RU,RL,if_true,if_false,forall_const,implies_true,Nat.reduceLeDiff,Nat.reduceLT,pureOp,binPure,intBin,strBin,eqPure,isConstO,unPure,sliceLo,sliceHi,slicePure,slice3Pure,lenPure,capPure,minPure,maxPure,buildP,resK,endV,yieldE,↓reduceIte,Nat.reduceEqDiff,reduceCtorEq,Nat.reduceAdd,Nat.reduceMul,Nat.reduceSub,Int.reduceLT,Int.reduceLE,Int.reduceToNat,Int.reduceAdd,Int.reduceSub,Int.reduceMul,ne_eq,decide_true,decide_false,tf5, he0, he1]
  refine c_gen2 (fun e' w' => ∃ p q, e' 2 = .pointer (some ⟨p, 0, none⟩) ∧ e' 3 = .pointer (some ⟨q, 0, none⟩) ∧ Blk w' p 25 a.cells ∧ Blk w' q 25 b.cells ∧ Grow w w') ⟨_, _, ?_, ?_, two_new w _ _ a.cells.toArray b.cells.toArray⟩ ?_
  · simp -dsimp only [↓RE,RU,RL,if_true,if_false,↓reduceIte,Nat.reduceEqDiff,reduceCtorEq,decide_true,decide_false, he0]
  · simp -dsimp only [↓RE,RU,RL,if_true,if_false,↓reduceIte,Nat.reduceEqDiff,reduceCtorEq,decide_true,decide_false, he0]
  clear he0 he1 e
  rintro e w1 ⟨p, q, he2, he3, hb1, hb2, g1⟩
  have x0 : ∀ {K : VK} {tk : Tok K}, K (.agg a.cells.toArray) → aggK w1 ⟨p, 0, none⟩ (some 3) K tk := fun hK => hb1.aggK (by simp [SerV.cells]) hK
  have y0 : ∀ {K : VK} {tk : Tok K}, K (.agg b.cells.toArray) → aggK w1 ⟨q, 0, none⟩ (some 3) K tk := fun hK => hb2.aggK (by simp [SerV.cells]) hK
  repeat (first | rw [c_seq] | simp -dsimp only [↓RE,RU,RL,if_true,if_false,forall_const,implies_true,Nat.reduceLeDiff,Nat.reduceLT,pureOp,binPure,intBin,strBin,eqPure,isConstO,unPure,sliceLo,sliceHi,slicePure,slice3Pure,lenPure,capPure,minPure,maxPure,buildP,resK,endV,yieldE,↓reduceIte,Nat.reduceEqDiff,reduceCtorEq,Nat.reduceAdd,Nat.reduceMul,Nat.reduceSub,Int.reduceLT,Int.reduceLE,Int.reduceToNat,Int.reduceAdd,Int.reduceSub,Int.reduceMul,ne_eq,decide_true,decide_false,tf5, he2])
  refine x0 ?_
  repeat (first | rw [c_seq] | simp -dsimp only [↓RE,RU,RL,if_true,if_false,forall_const,implies_true,Nat.reduceLeDiff,Nat.reduceLT,pureOp,binPure,intBin,strBin,eqPure,isConstO,unPure,sliceLo,sliceHi,slicePure,slice3Pure,lenPure,capPure,minPure,maxPure,buildP,resK,endV,yieldE,↓reduceIte,Nat.reduceEqDiff,reduceCtorEq,Nat.reduceAdd,Nat.reduceMul,Nat.reduceSub,Int.reduceLT,Int.reduceLE,Int.reduceToNat,Int.reduceAdd,Int.reduceSub,Int.reduceMul,ne_eq,decide_true,decide_false,tf5, he3])
  refine y0 ?_
  repeat (first | rw [c_seq] | simp -dsimp only [↓RE,RU,RL,if_true,if_false,forall_const,implies_true,Nat.reduceLeDiff,Nat.reduceLT,pureOp,binPure,intBin,strBin,eqPure,isConstO,unPure,sliceLo,sliceHi,slicePure,slice3Pure,lenPure,capPure,minPure,maxPure,buildP,resK,endV,yieldE,↓reduceIte,Nat.reduceEqDiff,reduceCtorEq,Nat.reduceAdd,Nat.reduceMul,Nat.reduceSub,Int.reduceLT,Int.reduceLE,Int.reduceToNat,Int.reduceAdd,Int.reduceSub,Int.reduceMul,ne_eq,decide_true,decide_false,tf5, he2])
  refine rserc_ok (ha.grow g1) (hb.grow g1) (fun w3 g3 => ?_)
  repeat (first | rw [c_seq] | simp -dsimp only [↓RE,RU,RL,if_true,if_false,forall_const,implies_true,Nat.reduceLeDiff,Nat.reduceLT,pureOp,binPure,intBin,strBin,eqPure,isConstO,unPure,sliceLo,sliceHi,slicePure,slice3Pure,lenPure,capPure,minPure,maxPure,buildP,resK,endV,yieldE,↓reduceIte,Nat.reduceEqDiff,reduceCtorEq,Nat.reduceAdd,Nat.reduceMul,Nat.reduceSub,Int.reduceLT,Int.reduceLE,Int.reduceToNat,Int.reduceAdd,Int.reduceSub,Int.reduceMul,ne_eq,decide_true,decide_false,tf5, he2])
  exact h w3 (g1.trans g3)
/-- what the first rows say. -/
def WW (xs : List WS) (k : Nat) : List Wr := (allW (xs.take k)).map WrV.wr
theorem WW_succ {xs : List WS} {k : Nat} (hk : k < xs.length) : WW xs (k + 1) = WW xs k ++ (xs[k]).l.map WrV.wr := by
  unfold WW allW
  rw [List.take_succ_eq_append_getElem hk, List.flatMap_append, List.map_append]
  simp
theorem WW_len {xs : List WS} (k : Nat) : (WW xs k).length ≤ (allW xs).length := by
  unfold WW
  rw [List.length_map]
  conv => rhs; rw [← List.take_append_drop k xs]
  unfold allW
  rw [List.flatMap_append, List.length_append]
  omega
theorem mine_len (ask : Ser) (W : List Wr) : (mine ask W).length ≤ W.length := by
  unfold mine
  rw [List.length_map]
  exact List.length_filter_le _ _
theorem sload_len0 (xs : List Smp) : (sLoad [] xs).length ≤ xs.length := by
  have h := sload_len xs Rise.nil
  rwa [List.length_nil, Nat.zero_add] at h
/-- between two rows. -/
structure Un (w : World) (xs : List WS) (ask : SerV) (b g : Nat) (v va : Value) (D : List WrV) (k : Nat) (w' : World) : Prop where
  gr : Grow w w'
  s : SerAt w' g v (sLoad [] (mine ask.s (WW xs k)))
  gl : w.heap.size ≤ g
  vl : ∀ q, fpV v q → w.heap.size ≤ q
  o : OrdR w w' va D (wOrd (WW xs k))
  ab : Blk w' b 25 ask.cells
theorem Un.grow {w : World} {xs : List WS} {ask : SerV} {b g : Nat} {v va : Value} {D : List WrV} {k : Nat} {w1 w2 : World} (h : Un w xs ask b g v va D k w1) (q : Grow w1 w2) : Un w xs ask b g v va D k w2 :=
  ⟨h.gr.trans q, h.s.grow q, h.gl, h.vl, h.o.grow q, h.ab.grow q⟩
theorem Un.keepF {F : Nat → Prop} {w : World} {xs : List WS} {ask : SerV} {b g : Nat} {v va : Value} {D : List WrV} {k : Nat} {wz w1 w2 : World} (h : Un w xs ask b g v va D k w1) (q : Keep F w1 w2) (hF : ∀ i, F i → wz.heap.size ≤ i) (hz : Un w xs ask b g v va D k wz) : Un w xs ask b g v va D k w2 := by
  have hs := hz.gr.size
  refine ⟨h.gr.above q (fun i hi e => by have := hF i e; omega), h.s.keep q (fun e => by have := hF g e; have := hz.s.b.lt; omega) (fun i hi e => by have := hF i e; have := hz.s.row.lt i hi; omega), h.gl, h.vl,
    h.o.keep q (fun i hi e => by have := hF i e; have := hz.o.row.lt i hi; omega) (fun x hx i hi e => by have := hF i e; have := LRow.lt (hz.o.ok x hx).2 i ((fpV_fpA _ _ _ _).2 hi); omega), h.ab.keep q (fun e => by have := hF b e; have := hz.ab.lt; omega)⟩
set_option maxHeartbeats 4000000 in
theorem union_walk {w : World} {B : Option Addr} {m d : Nat} {xs : List WS} {ask : SerV} (hR : Rd w B m 1 (xs.map WS.cell)) (ho : ∀ x ∈ xs, x.Ok w ∧ ∀ y ∈ x.l, y.Ok w) (ha : ask.Ok w) (hn : (allW xs).length + m ≤ 1048576) {R : VWK}
    (h : ∀ w', Grow w w' → R (.bool true) w') : CallsV Try.prog 3 [.slice B m d, .agg ask.cells.toArray] w R := by
  have hl : xs.length = m := by have := hR.1; simp at this; omega
  have hcell : ∀ w', Grow w w' → ∀ k (hk : k < m), ∃ ad, B = some ad ∧ w'.cell? (ad.add k) = some ((xs[k]'(by omega)).cell) := fun w' g k hk => by
    obtain ⟨ad, u, e, hu, hc⟩ := (hR.grow g).cell1 hk
    refine ⟨ad, e, hc.trans ?_⟩
    rw [List.getElem?_map, List.getElem?_eq_getElem (by omega)] at hu
    exact hu.symm
  refine calls_of_wpC mixed Try.func3 rfl (by kernel_rfl) ?_
  intro e he
  have he0 := he 0
  have he1 := he 1
  simp only [List.getD_cons_zero, List.getD_cons_succ] at he0 he1
  clear he
  have hb0 := Blk.new' w 25 ask.cells.toArray
  have g0 := Grow.alloc w (.cells ask.cells.toArray 25)
  ((repeat rw [c_seq]); try simp -dsimp only [↓RE,RU,RL,if_true,if_false,forall_const,implies_true,Nat.reduceLeDiff,Nat.reduceLT,pureOp,binPure,intBin,strBin,eqPure,isConstO,unPure,sliceLo,sliceHi,slicePure,slice3Pure,lenPure,capPure,minPure,maxPure,buildP,resK,endV,yieldE,↓reduceIte,Nat.reduceEqDiff,reduceCtorEq,Nat.reduceAdd,Nat.reduceMul,Nat.reduceSub,Int.reduceLT,Int.reduceLE,Int.reduceToNat,Int.reduceAdd,Int.reduceSub,Int.reduceMul,ne_eq,decide_true,decide_false,tf3, he0, he1])
  ((repeat rw [c_seq]); try simp -dsimp only [↓RE,RU,RL,if_true,if_false,forall_const,implies_true,Nat.reduceLeDiff,Nat.reduceLT,pureOp,binPure,intBin,strBin,eqPure,isConstO,unPure,sliceLo,sliceHi,slicePure,slice3Pure,lenPure,capPure,minPure,maxPure,buildP,resK,endV,yieldE,↓reduceIte,Nat.reduceEqDiff,reduceCtorEq,Nat.reduceAdd,Nat.reduceMul,Nat.reduceSub,Int.reduceLT,Int.reduceLE,Int.reduceToNat,Int.reduceAdd,Int.reduceSub,Int.reduceMul,ne_eq,decide_true,decide_false,tf3, he0])
  refine snew_ok (fun w1 hS1 g1 => ?_)
  have hs0 := g0.size
  have hU0 : Un w xs ask w.heap.size (w.alloc (.cells ask.cells.toArray 25)).heap.size (.slice none 0 0) (.slice none 0 0) [] 0 w1 :=
    ⟨g0.trans g1, hS1, hs0, fun q hq => (fpV_none _ hq).elim, ⟨rfl, LRow.nil _ _ _, fun x hx => (by cases hx), fun q hq => (fpV_none _ hq).elim, fun x hx => (by cases hx), List.Pairwise.nil⟩, by simpa using hb0.grow g1⟩
  generalize hgs : (w.alloc (.cells ask.cells.toArray 25)).heap.size = g at hU0 ⊢
  generalize hbs : w.heap.size = b at hU0
  ((repeat rw [c_seq]); try simp -dsimp only [↓RE,RU,RL,if_true,if_false,forall_const,implies_true,Nat.reduceLeDiff,Nat.reduceLT,pureOp,binPure,intBin,strBin,eqPure,isConstO,unPure,sliceLo,sliceHi,slicePure,slice3Pure,lenPure,capPure,minPure,maxPure,buildP,resK,endV,yieldE,↓reduceIte,Nat.reduceEqDiff,reduceCtorEq,Nat.reduceAdd,Nat.reduceMul,Nat.reduceSub,Int.reduceLT,Int.reduceLE,Int.reduceToNat,Int.reduceAdd,Int.reduceSub,Int.reduceMul,ne_eq,decide_true,decide_false,tf3, he0])
  ((repeat rw [c_seq]); try simp -dsimp only [↓RE,RU,RL,if_true,if_false,forall_const,implies_true,Nat.reduceLeDiff,Nat.reduceLT,pureOp,binPure,intBin,strBin,eqPure,isConstO,unPure,sliceLo,sliceHi,slicePure,slice3Pure,lenPure,capPure,minPure,maxPure,buildP,resK,endV,yieldE,↓reduceIte,Nat.reduceEqDiff,reduceCtorEq,Nat.reduceAdd,Nat.reduceMul,Nat.reduceSub,Int.reduceLT,Int.reduceLE,Int.reduceToNat,Int.reduceAdd,Int.reduceSub,Int.reduceMul,ne_eq,decide_true,decide_false,tf3, he0])
  refine c_seq_cut (fun e' w' => ∃ v va D, (e' 3 = .pointer (some ⟨b, 0, none⟩) ∧ e' 5 = .pointer (some ⟨g, 0, none⟩) ∧ e' 6 = va) ∧ Un w xs ask b g v va D m w') ?_ ?_
  · repeat (first | rw [c_seq] | simp -dsimp only [↓RE,RU,RL,if_true,if_false,forall_const,implies_true,Nat.reduceLeDiff,Nat.reduceLT,pureOp,binPure,intBin,strBin,eqPure,isConstO,unPure,sliceLo,sliceHi,slicePure,slice3Pure,lenPure,capPure,minPure,maxPure,buildP,resK,endV,yieldE,↓reduceIte,Nat.reduceEqDiff,reduceCtorEq,Nat.reduceAdd,Nat.reduceMul,Nat.reduceSub,Int.reduceLT,Int.reduceLE,Int.reduceToNat,Int.reduceAdd,Int.reduceSub,Int.reduceMul,ne_eq,decide_true,decide_false,tf3, he0])
    refine wpLoop_intro (fun e' w' => ∃ v va D, (e' 0 = .slice B m d ∧ e' 3 = .pointer (some ⟨b, 0, none⟩) ∧ e' 5 = .pointer (some ⟨g, 0, none⟩) ∧ e' 6 = va) ∧ ∃ k : Nat, k ≤ m ∧ e' 7 = .int .i64 (k : Int) ∧ Un w xs ask b g v va D k w')
      (fun e' _ => m - (envInt (e' 7)).toNat) ⟨_, _, _, ⟨?_, ?_, ?_, ?_⟩, 0, Nat.zero_le _, ?_, hU0⟩ ?_
    · simp -dsimp only [↓RE,RU,RL,if_true,if_false,↓reduceIte,Nat.reduceEqDiff,reduceCtorEq,decide_true,decide_false, he0]
    · rw [← hbs]; simp -dsimp only [↓RE,↓c_seq,RU,RL,if_true,if_false,forall_const,implies_true,Nat.reduceLeDiff,Nat.reduceLT,pureOp,binPure,intBin,strBin,eqPure,isConstO,unPure,sliceLo,sliceHi,slicePure,slice3Pure,lenPure,capPure,minPure,maxPure,buildP,resK,endV,yieldE,↓reduceIte,Nat.reduceEqDiff,reduceCtorEq,Nat.reduceAdd,Nat.reduceMul,Nat.reduceSub,Int.reduceLT,Int.reduceLE,Int.reduceToNat,Int.reduceAdd,Int.reduceSub,Int.reduceMul,ne_eq,decide_true,decide_false,tf3, he0]
    · rw [← hgs]; simp -dsimp only [↓RE,↓c_seq,RU,RL,if_true,if_false,forall_const,implies_true,Nat.reduceLeDiff,Nat.reduceLT,pureOp,binPure,intBin,strBin,eqPure,isConstO,unPure,sliceLo,sliceHi,slicePure,slice3Pure,lenPure,capPure,minPure,maxPure,buildP,resK,endV,yieldE,↓reduceIte,Nat.reduceEqDiff,reduceCtorEq,Nat.reduceAdd,Nat.reduceMul,Nat.reduceSub,Int.reduceLT,Int.reduceLE,Int.reduceToNat,Int.reduceAdd,Int.reduceSub,Int.reduceMul,ne_eq,decide_true,decide_false,tf3, he0]
    · simp -dsimp only [↓RE,RU,RL,if_true,if_false,↓reduceIte,Nat.reduceEqDiff,reduceCtorEq,decide_true,decide_false, he0]
    · simp -dsimp only [↓RE,RU,RL,if_true,if_false,↓reduceIte,Nat.reduceEqDiff,reduceCtorEq,decide_true,decide_false, Int.cast_ofNat_Int]
    clear he0 he1 hU0 e
    rintro e wz ⟨v, va, D, ⟨he0, he3, he5, he6⟩, k, hk, he7, hU⟩
    rcases Nat.lt_or_ge k m with hlt | hge
    · have hd : decide ((k : Int) < (m : Int)) = true := decide_eq_true (by omega)
      have hmu : (envInt (e 7)).toNat = k := by rw [he7]; exact Int.toNat_natCast k
      have v1 : IntKind.i64.wrap ((k : Int) + 1) = ((k + 1 : Nat) : Int) := by rw [wrap_i64_in (by omega) (by omega)]; omega
      obtain ⟨x, hx⟩ : ∃ x, x = xs[k]'(by omega) := ⟨_, rfl⟩
      obtain ⟨hxo, hyo⟩ := ho x (hx ▸ List.getElem_mem _)
      have hWs := WW_succ (xs := xs) (k := k) (by omega)
      rw [← hx] at hWs
      have hWl := WW_len (xs := xs) (k + 1)
      have hxl := hxo.wlen
      have hcx : ∀ w', Grow w w' → ∃ ad, B = some ad ∧ w'.cell? (ad.add k) = some (.slice x.A x.n x.c) := fun w' g' => by
        obtain ⟨ad, e1, e2⟩ := hcell w' g' k hlt
        refine ⟨ad, e1, ?_⟩
        rw [e2, ← hx]; rfl
      clear hx
      obtain ⟨ad, hB, _⟩ := hcx wz hU.gr
      subst hB
      have hcx : ∀ w', Grow w w' → w'.cell? (ad.add k) = some (.slice x.A x.n x.c) := fun w' g' => by
        obtain ⟨ad', e1, e2⟩ := hcx w' g'
        injection e1 with e1
        subst e1
        exact e2
      rw [hWs, List.length_append, List.length_map] at hWl
      ((repeat rw [c_seq]); try simp -dsimp only [↓RE,RU,RL,if_true,if_false,forall_const,implies_true,Nat.reduceLeDiff,Nat.reduceLT,pureOp,binPure,intBin,strBin,eqPure,isConstO,unPure,sliceLo,sliceHi,slicePure,slice3Pure,lenPure,capPure,minPure,maxPure,buildP,resK,endV,yieldE,↓reduceIte,Nat.reduceEqDiff,reduceCtorEq,Nat.reduceAdd,Nat.reduceMul,Nat.reduceSub,Int.reduceLT,Int.reduceLE,Int.reduceToNat,Int.reduceAdd,Int.reduceSub,Int.reduceMul,ne_eq,decide_true,decide_false,tf3, he0, he7, hd])
      ((repeat rw [c_seq]); try simp -dsimp only [↓RE,RU,RL,if_true,if_false,forall_const,implies_true,Nat.reduceLeDiff,Nat.reduceLT,pureOp,binPure,intBin,strBin,eqPure,isConstO,unPure,sliceLo,sliceHi,slicePure,slice3Pure,lenPure,capPure,minPure,maxPure,buildP,resK,endV,yieldE,↓reduceIte,Nat.reduceEqDiff,reduceCtorEq,Nat.reduceAdd,Nat.reduceMul,Nat.reduceSub,Int.reduceLT,Int.reduceLE,Int.reduceToNat,Int.reduceAdd,Int.reduceSub,Int.reduceMul,ne_eq,decide_true,decide_false,tf3, he0])
      ((repeat rw [c_seq]); try simp -dsimp only [↓RE,RU,RL,if_true,if_false,forall_const,implies_true,Nat.reduceLeDiff,Nat.reduceLT,pureOp,binPure,intBin,strBin,eqPure,isConstO,unPure,sliceLo,sliceHi,slicePure,slice3Pure,lenPure,capPure,minPure,maxPure,buildP,resK,endV,yieldE,↓reduceIte,Nat.reduceEqDiff,reduceCtorEq,Nat.reduceAdd,Nat.reduceMul,Nat.reduceSub,Int.reduceLT,Int.reduceLE,Int.reduceToNat,Int.reduceAdd,Int.reduceSub,Int.reduceMul,ne_eq,decide_true,decide_false,tf3, he0])
      refine c_seq_cut (fun e' w' => ∃ vin, (e' 0 = .slice (some ad) m d ∧ e' 3 = .pointer (some ⟨b, 0, none⟩) ∧ e' 5 = .pointer (some ⟨g, 0, none⟩) ∧ e' 6 = va ∧ e' 7 = .int .i64 (k : Int) ∧ e' 8 = vin) ∧ Grow wz w' ∧ SRow w' vin (mine ask.s (x.l.map WrV.wr)) ∧ (∀ q, fpV vin q → wz.heap.size ≤ q)) ?_ ?_
      · repeat (first | rw [c_seq] | simp -dsimp only [↓RE,RU,RL,if_true,if_false,forall_const,implies_true,Nat.reduceLeDiff,Nat.reduceLT,pureOp,binPure,intBin,strBin,eqPure,isConstO,unPure,sliceLo,sliceHi,slicePure,slice3Pure,lenPure,capPure,minPure,maxPure,buildP,resK,endV,yieldE,↓reduceIte,Nat.reduceEqDiff,reduceCtorEq,Nat.reduceAdd,Nat.reduceMul,Nat.reduceSub,Int.reduceLT,Int.reduceLE,Int.reduceToNat,Int.reduceAdd,Int.reduceSub,Int.reduceMul,ne_eq,decide_true,decide_false,tf3, he0])
        refine wpLoop_intro (fun e' w' => ∃ vin, (e' 0 = .slice (some ad) m d ∧ e' 3 = .pointer (some ⟨b, 0, none⟩) ∧ e' 5 = .pointer (some ⟨g, 0, none⟩) ∧ e' 6 = va ∧ e' 7 = .int .i64 (k : Int) ∧ e' 8 = vin) ∧ ∃ j : Nat, j ≤ x.n ∧ e' 9 = .int .i64 (j : Int) ∧ Grow wz w' ∧ SRow w' vin (mine ask.s ((x.l.take j).map WrV.wr)) ∧ (∀ q, fpV vin q → wz.heap.size ≤ q))
          (fun e' _ => x.n - (envInt (e' 9)).toNat) ⟨.slice none 0 0, ⟨?_, ?_, ?_, ?_, ?_, ?_⟩, 0, Nat.zero_le _, ?_, Keep.refl _ _, LRow.nil _ _ _, fun q hq => (fpV_none _ hq).elim⟩ ?_
        · simp -dsimp only [↓RE,RU,RL,if_true,if_false,↓reduceIte,Nat.reduceEqDiff,reduceCtorEq,decide_true,decide_false, he0]
        · simp -dsimp only [↓RE,RU,RL,if_true,if_false,↓reduceIte,Nat.reduceEqDiff,reduceCtorEq,decide_true,decide_false, he3]
        · simp -dsimp only [↓RE,RU,RL,if_true,if_false,↓reduceIte,Nat.reduceEqDiff,reduceCtorEq,decide_true,decide_false, he5]
        · simp -dsimp only [↓RE,RU,RL,if_true,if_false,↓reduceIte,Nat.reduceEqDiff,reduceCtorEq,decide_true,decide_false, he6]
        · simp -dsimp only [↓RE,RU,RL,if_true,if_false,↓reduceIte,Nat.reduceEqDiff,reduceCtorEq,decide_true,decide_false, he7]
        · simp -dsimp only [↓RE,RU,RL,if_true,if_false,↓reduceIte,Nat.reduceEqDiff,reduceCtorEq,decide_true,decide_false, he7]
        · simp -dsimp only [↓RE,RU,RL,if_true,if_false,↓reduceIte,Nat.reduceEqDiff,reduceCtorEq,decide_true,decide_false, Int.cast_ofNat_Int]
        clear he0 he3 he5 he6 he7
        rintro e1 wy ⟨vin, ⟨he0, he3, he5, he6, he7, he8⟩, j, hj, he9, gzy, hin, hFin⟩
        have hU2 := hU.grow gzy
        have hc0 := hcx wy hU2.gr
        rcases Nat.lt_or_ge j x.n with hjl | hjl
        · have hd2 : decide ((j : Int) < (x.n : Int)) = true := decide_eq_true (by omega)
          have hmu2 : (envInt (e1 9)).toNat = j := by rw [he9]; exact Int.toNat_natCast j
          have v2 : IntKind.i64.wrap ((j : Int) + 1) = ((j + 1 : Nat) : Int) := by rw [wrap_i64_in (by omega) (by omega)]; omega
          obtain ⟨y, hy⟩ : ∃ y, y = x.l[j]'(by omega) := ⟨_, rfl⟩
          have hym : y ∈ x.l := hy ▸ List.getElem_mem _
          have hyk : x.l[j]? = some y := by rw [List.getElem?_eq_getElem (by omega), ← hy]
          have eT : x.l.take (j + 1) = x.l.take j ++ [y] := by rw [List.take_succ_eq_append_getElem (by omega), ← hy]
          clear hy
          have hyw := hyo y hym
          obtain ⟨ay, hay⟩ : ∃ ay, x.A = some ay := by
            obtain ⟨ay, e, _⟩ := hxo.2 (by omega)
            exact ⟨ay, e⟩
          rw [hay] at hc0
          have hrd : ∀ w', Grow w w' → ∀ (i : Nat) u, y.cells[i]? = some u → w'.cell? ((ay.add (j * 6)).add i) = some u := fun w' g' i u hu => by
            obtain ⟨_, ad', hA, hcc⟩ := (hxo.grow g').flat (size := 6) (fun a _ => wcells_len a) hyk (by omega)
            rw [hay] at hA
            injection hA with hA
            subst hA
            exact hcc i u hu
          have hxc : ∀ w', Grow wy w' → w'.cell? (ad.add k) = some (.slice (some ay) x.n x.c) := fun w' g' => by
            have := hcx w' (hU2.gr.trans g')
            rwa [hay] at this
          repeat (first | rw [c_seq] | simp -dsimp only [↓RE,RU,RL,if_true,if_false,forall_const,implies_true,Nat.reduceLeDiff,Nat.reduceLT,pureOp,binPure,intBin,strBin,eqPure,isConstO,unPure,sliceLo,sliceHi,slicePure,slice3Pure,lenPure,capPure,minPure,maxPure,buildP,resK,endV,yieldE,↓reduceIte,Nat.reduceEqDiff,reduceCtorEq,Nat.reduceAdd,Nat.reduceMul,Nat.reduceSub,Int.reduceLT,Int.reduceLE,Int.reduceToNat,Int.reduceAdd,Int.reduceSub,Int.reduceMul,ne_eq,decide_true,decide_false,tf3, he0, he7, he9, hc0, hd2, Nat.mul_one, Int.toNat_natCast])
          refine ⟨⟨by omega, by omega⟩, ?_⟩
          refine wpDraw_by (Grow wy ·) [(0, true), (1, true), (2, true), (3, true), (4, true), (5, true), (6, true), (7, true), (8, true), (9, false)] (by kernel_rfl) (Grow.drew wy) ?_
          simp only [planL, List.getElem?_toArray, List.getElem?_cons_zero, List.getElem?_cons_succ, Option.toList_some, List.map_cons, List.map_nil, List.cons_append, List.nil_append]
          repeat (first | rw [c_seq] | simp -dsimp only [↓RE,RU,RL,if_true,if_false,forall_const,implies_true,Nat.reduceLeDiff,Nat.reduceLT,pureOp,binPure,intBin,strBin,eqPure,isConstO,unPure,sliceLo,sliceHi,slicePure,slice3Pure,lenPure,capPure,minPure,maxPure,buildP,resK,endV,yieldE,↓reduceIte,Nat.reduceEqDiff,reduceCtorEq,Nat.reduceAdd,Nat.reduceMul,Nat.reduceSub,Int.reduceLT,Int.reduceLE,Int.reduceToNat,Int.reduceAdd,Int.reduceSub,Int.reduceMul,ne_eq,decide_true,decide_false,tf3, he0, he3, he7, he9, Nat.mul_one, Int.toNat_natCast])
          refine ⟨⟨by omega, by omega⟩, _, hxc, ?_⟩
          repeat (first | rw [c_seq] | simp -dsimp only [↓RE,RU,RL,if_true,if_false,forall_const,implies_true,Nat.reduceLeDiff,Nat.reduceLT,pureOp,binPure,intBin,strBin,eqPure,isConstO,unPure,sliceLo,sliceHi,slicePure,slice3Pure,lenPure,capPure,minPure,maxPure,buildP,resK,endV,yieldE,↓reduceIte,Nat.reduceEqDiff,reduceCtorEq,Nat.reduceAdd,Nat.reduceMul,Nat.reduceSub,Int.reduceLT,Int.reduceLE,Int.reduceToNat,Int.reduceAdd,Int.reduceSub,Int.reduceMul,ne_eq,decide_true,decide_false,tf3, he0, he3, he7, he9, Nat.mul_one, Int.toNat_natCast, add_zero'])
          refine ⟨⟨by omega, by omega⟩, y.s.cells, rfl, fun w' g' i u hu => hrd w' (hU2.gr.trans g') i u (y.head hu), ?_⟩
          repeat (first | rw [c_seq] | simp -dsimp only [↓RE,RU,RL,if_true,if_false,forall_const,implies_true,Nat.reduceLeDiff,Nat.reduceLT,pureOp,binPure,intBin,strBin,eqPure,isConstO,unPure,sliceLo,sliceHi,slicePure,slice3Pure,lenPure,capPure,minPure,maxPure,buildP,resK,endV,yieldE,↓reduceIte,Nat.reduceEqDiff,reduceCtorEq,Nat.reduceAdd,Nat.reduceMul,Nat.reduceSub,Int.reduceLT,Int.reduceLE,Int.reduceToNat,Int.reduceAdd,Int.reduceSub,Int.reduceMul,ne_eq,decide_true,decide_false,tf3, he3])
          refine ⟨ask.cells, rfl, fun w' g' i u hu => by rw [add_lit', Nat.zero_add, (hU2.ab.grow g').cell]; exact hu, ?_⟩
          repeat (first | rw [c_seq] | simp -dsimp only [↓RE,RU,RL,if_true,if_false,forall_const,implies_true,Nat.reduceLeDiff,Nat.reduceLT,pureOp,binPure,intBin,strBin,eqPure,isConstO,unPure,sliceLo,sliceHi,slicePure,slice3Pure,lenPure,capPure,minPure,maxPure,buildP,resK,endV,yieldE,↓reduceIte,Nat.reduceEqDiff,reduceCtorEq,Nat.reduceAdd,Nat.reduceMul,Nat.reduceSub,Int.reduceLT,Int.reduceLE,Int.reduceToNat,Int.reduceAdd,Int.reduceSub,Int.reduceMul,ne_eq,decide_true,decide_false,tf3, he3])
          have gd := hU2.gr.trans (Grow.drew wy)
          refine same5_ok (hyw.1.grow gd) (ha.grow gd) (fun w5 g5 => ?_)
          refine ⟨(Grow.drew wy).trans g5, ?_⟩
          have gy5 := (Grow.drew wy).trans g5
          have hU5 := hU2.grow gy5
          have hin5 : SRow w5 vin _ := LRow.grow hin gy5
          have hmc : mine ask.s ((x.l.take (j + 1)).map WrV.wr) = mine ask.s ((x.l.take j).map WrV.wr) ++ (if cmpSer y.s.s ask.s = 0 then [y.x] else []) := by
            rw [eT, List.map_append, mine_app]
            congr 1
            show mine ask.s [y.wr] = _
            rw [mine_cons]
            rfl
          by_cases hz : cmpSer y.s.s ask.s = 0
          · have hz' : decide (cmpSer y.s.s ask.s = 0) = true := decide_eq_true hz
            rw [if_pos hz] at hmc
            have hc5 := hxc w5 gy5
            repeat (first | rw [c_seq] | simp -dsimp only [↓RE,RU,RL,if_true,if_false,forall_const,implies_true,Nat.reduceLeDiff,Nat.reduceLT,pureOp,binPure,intBin,strBin,eqPure,isConstO,unPure,sliceLo,sliceHi,slicePure,slice3Pure,lenPure,capPure,minPure,maxPure,buildP,resK,endV,yieldE,↓reduceIte,Nat.reduceEqDiff,reduceCtorEq,Nat.reduceAdd,Nat.reduceMul,Nat.reduceSub,Int.reduceLT,Int.reduceLE,Int.reduceToNat,Int.reduceAdd,Int.reduceSub,Int.reduceMul,ne_eq,decide_true,decide_false,tf3, hz', he0, he7, he8, he9, hc5, Nat.mul_one, Int.toNat_natCast])
            refine ⟨⟨by omega, by omega⟩, ⟨by omega, by omega⟩, [.int .i64 y.x.1, .int .u8 y.x.2.1, .int .i64 y.x.2.2], rfl, fun i u hu => ?_, ?_⟩
            · rw [add_add']
              refine hrd w5 (gd.trans g5) (3 + i) u ?_
              match i, hu with
              | 0, hu => exact hu
              | 1, hu => exact hu
              | 2, hu => exact hu
              | i + 3, hu => simp at hu
            repeat (first | rw [c_seq] | simp -dsimp only [↓RE,RU,RL,if_true,if_false,forall_const,implies_true,Nat.reduceLeDiff,Nat.reduceLT,pureOp,binPure,intBin,strBin,eqPure,isConstO,unPure,sliceLo,sliceHi,slicePure,slice3Pure,lenPure,capPure,minPure,maxPure,buildP,resK,endV,yieldE,↓reduceIte,Nat.reduceEqDiff,reduceCtorEq,Nat.reduceAdd,Nat.reduceMul,Nat.reduceSub,Int.reduceLT,Int.reduceLE,Int.reduceToNat,Int.reduceAdd,Int.reduceSub,Int.reduceMul,ne_eq,decide_true,decide_false,tf3, he8])
            have ga := Grow.alloc w5 (.cells #[.int .i64 y.x.1, .int .u8 y.x.2.1, .int .i64 y.x.2.2] 35)
            have hone : Rd (w5.alloc (.cells #[.int .i64 y.x.1, .int .u8 y.x.2.1, .int .i64 y.x.2.2] 35)) (some ⟨w5.heap.size, 0, none⟩) 1 3 ([y.x].flatMap scells) :=
              Rd.of_own (own_new w5 35 3 1 #[.int .i64 y.x.1, .int .u8 y.x.2.1, .int .i64 y.x.2.2] rfl (by simp [maxLen]))
            have hml := mine_len ask.s ((x.l.take j).map WrV.wr)
            rw [List.length_map, List.length_take] at hml
            refine app_smp (ys := [y.x]) (LRow.grow hin5 ga) hone (by simp only [List.length_cons, List.length_nil]; omega) (fun A6 c6 w6 hin6 k6 f6 => ?_)
            rw [← hmc] at hin6
            have hsy := gy5.size
            have hsz := gzy.size
            have g6 : Grow wz w6 := ((gzy.trans gy5).trans ga).above k6 (fun q hq e => by have := hFin q e; omega)
            repeat (first | rw [c_seq] | simp -dsimp only [↓RE,RU,RL,if_true,if_false,forall_const,implies_true,Nat.reduceLeDiff,Nat.reduceLT,pureOp,binPure,intBin,strBin,eqPure,isConstO,unPure,sliceLo,sliceHi,slicePure,slice3Pure,lenPure,capPure,minPure,maxPure,buildP,resK,endV,yieldE,↓reduceIte,Nat.reduceEqDiff,reduceCtorEq,Nat.reduceAdd,Nat.reduceMul,Nat.reduceSub,Int.reduceLT,Int.reduceLE,Int.reduceToNat,Int.reduceAdd,Int.reduceSub,Int.reduceMul,ne_eq,decide_true,decide_false,tf3, he9, v2])
            refine hold_intro ⟨⟨_, ⟨?_, ?_, ?_, ?_, ?_, ?_⟩, j + 1, hjl, ?_, g6, hin6, fun q hq => ?_⟩, ?_⟩
            · simp -dsimp only [↓RE,RU,RL,if_true,if_false,↓reduceIte,Nat.reduceEqDiff,reduceCtorEq,decide_true,decide_false, he0]
            · simp -dsimp only [↓RE,RU,RL,if_true,if_false,↓reduceIte,Nat.reduceEqDiff,reduceCtorEq,decide_true,decide_false, he3]
            · simp -dsimp only [↓RE,RU,RL,if_true,if_false,↓reduceIte,Nat.reduceEqDiff,reduceCtorEq,decide_true,decide_false, he5]
            · simp -dsimp only [↓RE,RU,RL,if_true,if_false,↓reduceIte,Nat.reduceEqDiff,reduceCtorEq,decide_true,decide_false, he6]
            · simp -dsimp only [↓RE,RU,RL,if_true,if_false,↓reduceIte,Nat.reduceEqDiff,reduceCtorEq,decide_true,decide_false, he7]
            · simp -dsimp only [↓RE,RU,RL,if_true,if_false,↓reduceIte,Nat.reduceEqDiff,reduceCtorEq,decide_true,decide_false, he8]
            · simp -dsimp only [↓RE,RU,RL,if_true,if_false,↓reduceIte,Nat.reduceEqDiff,reduceCtorEq,decide_true,decide_false, he9, v2]
            · rcases f6 q hq with e | e
              · exact hFin q e
              · have := ga.size; omega
            · rw [hmu2]
              simp -dsimp only [↓RE,↓c_seq,RU,RL,if_true,if_false,forall_const,implies_true,Nat.reduceLeDiff,Nat.reduceLT,pureOp,binPure,intBin,strBin,eqPure,isConstO,unPure,sliceLo,sliceHi,slicePure,slice3Pure,lenPure,capPure,minPure,maxPure,buildP,resK,endV,yieldE,↓reduceIte,Nat.reduceEqDiff,reduceCtorEq,Nat.reduceAdd,Nat.reduceMul,Nat.reduceSub,Int.reduceLT,Int.reduceLE,Int.reduceToNat,Int.reduceAdd,Int.reduceSub,Int.reduceMul,ne_eq,decide_true,decide_false,tf3, he9, v2, envInt, Int.toNat_natCast]
              omega
          · have hz' : decide (cmpSer y.s.s ask.s = 0) = false := decide_eq_false hz
            rw [if_neg hz, List.append_nil] at hmc
            rw [← hmc] at hin5
            repeat (first | rw [c_seq] | simp -dsimp only [↓RE,RU,RL,if_true,if_false,forall_const,implies_true,Nat.reduceLeDiff,Nat.reduceLT,pureOp,binPure,intBin,strBin,eqPure,isConstO,unPure,sliceLo,sliceHi,slicePure,slice3Pure,lenPure,capPure,minPure,maxPure,buildP,resK,endV,yieldE,↓reduceIte,Nat.reduceEqDiff,reduceCtorEq,Nat.reduceAdd,Nat.reduceMul,Nat.reduceSub,Int.reduceLT,Int.reduceLE,Int.reduceToNat,Int.reduceAdd,Int.reduceSub,Int.reduceMul,ne_eq,decide_true,decide_false,tf3, hz', he9, v2])
            refine hold_intro ⟨⟨vin, ⟨?_, ?_, ?_, ?_, ?_, ?_⟩, j + 1, hjl, ?_, gzy.trans gy5, hin5, hFin⟩, ?_⟩
            · simp -dsimp only [↓RE,RU,RL,if_true,if_false,↓reduceIte,Nat.reduceEqDiff,reduceCtorEq,decide_true,decide_false, he0]
            · simp -dsimp only [↓RE,RU,RL,if_true,if_false,↓reduceIte,Nat.reduceEqDiff,reduceCtorEq,decide_true,decide_false, he3]
            · simp -dsimp only [↓RE,RU,RL,if_true,if_false,↓reduceIte,Nat.reduceEqDiff,reduceCtorEq,decide_true,decide_false, he5]
            · simp -dsimp only [↓RE,RU,RL,if_true,if_false,↓reduceIte,Nat.reduceEqDiff,reduceCtorEq,decide_true,decide_false, he6]
            · simp -dsimp only [↓RE,RU,RL,if_true,if_false,↓reduceIte,Nat.reduceEqDiff,reduceCtorEq,decide_true,decide_false, he7]
            · simp -dsimp only [↓RE,RU,RL,if_true,if_false,↓reduceIte,Nat.reduceEqDiff,reduceCtorEq,decide_true,decide_false, he8]
            · simp -dsimp only [↓RE,RU,RL,if_true,if_false,↓reduceIte,Nat.reduceEqDiff,reduceCtorEq,decide_true,decide_false, he9, v2]
            · rw [hmu2]
              simp -dsimp only [↓RE,↓c_seq,RU,RL,if_true,if_false,forall_const,implies_true,Nat.reduceLeDiff,Nat.reduceLT,pureOp,binPure,intBin,strBin,eqPure,isConstO,unPure,sliceLo,sliceHi,slicePure,slice3Pure,lenPure,capPure,minPure,maxPure,buildP,resK,endV,yieldE,↓reduceIte,Nat.reduceEqDiff,reduceCtorEq,Nat.reduceAdd,Nat.reduceMul,Nat.reduceSub,Int.reduceLT,Int.reduceLE,Int.reduceToNat,Int.reduceAdd,Int.reduceSub,Int.reduceMul,ne_eq,decide_true,decide_false,tf3, he9, v2, envInt, Int.toNat_natCast]
              omega
        · have hd2 : decide ((j : Int) < (x.n : Int)) = false := decide_eq_false (by omega)
          rw [List.take_of_length_le (by omega)] at hin
          repeat (first | rw [c_seq] | simp -dsimp only [↓RE,RU,RL,if_true,if_false,forall_const,implies_true,Nat.reduceLeDiff,Nat.reduceLT,pureOp,binPure,intBin,strBin,eqPure,isConstO,unPure,sliceLo,sliceHi,slicePure,slice3Pure,lenPure,capPure,minPure,maxPure,buildP,resK,endV,yieldE,↓reduceIte,Nat.reduceEqDiff,reduceCtorEq,Nat.reduceAdd,Nat.reduceMul,Nat.reduceSub,Int.reduceLT,Int.reduceLE,Int.reduceToNat,Int.reduceAdd,Int.reduceSub,Int.reduceMul,ne_eq,decide_true,decide_false,tf3, he0, he7, he9, hc0, hd2, Nat.mul_one, Int.toNat_natCast])
          refine ⟨⟨by omega, by omega⟩, hold_intro ⟨vin, ⟨?_, ?_, ?_, ?_, ?_, ?_⟩, gzy, hin, hFin⟩⟩
          · simp -dsimp only [↓RE,RU,RL,if_true,if_false,↓reduceIte,Nat.reduceEqDiff,reduceCtorEq,decide_true,decide_false, he0]
          · simp -dsimp only [↓RE,RU,RL,if_true,if_false,↓reduceIte,Nat.reduceEqDiff,reduceCtorEq,decide_true,decide_false, he3]
          · simp -dsimp only [↓RE,RU,RL,if_true,if_false,↓reduceIte,Nat.reduceEqDiff,reduceCtorEq,decide_true,decide_false, he5]
          · simp -dsimp only [↓RE,RU,RL,if_true,if_false,↓reduceIte,Nat.reduceEqDiff,reduceCtorEq,decide_true,decide_false, he6]
          · simp -dsimp only [↓RE,RU,RL,if_true,if_false,↓reduceIte,Nat.reduceEqDiff,reduceCtorEq,decide_true,decide_false, he7]
          · simp -dsimp only [↓RE,RU,RL,if_true,if_false,↓reduceIte,Nat.reduceEqDiff,reduceCtorEq,decide_true,decide_false, he8]
      · clear he0 he3 he5 he6 he7
        rintro e1 wy ⟨vin, ⟨he0, he3, he5, he6, he7, he8⟩, gzy, hin, hFin⟩
        have hU2 := hU.grow gzy
        obtain ⟨Ai, ci, rfl, _, _⟩ := hin.form
        have hml := mine_len ask.s (x.l.map WrV.wr)
        rw [List.length_map] at hml
        have hsl := sload_len0 (mine ask.s (WW xs k))
        have hml2 := mine_len ask.s (WW xs k)
        have hgl := hU.s.b.lt
        ((repeat rw [c_seq]); try simp -dsimp only [↓RE,RU,RL,if_true,if_false,forall_const,implies_true,Nat.reduceLeDiff,Nat.reduceLT,pureOp,binPure,intBin,strBin,eqPure,isConstO,unPure,sliceLo,sliceHi,slicePure,slice3Pure,lenPure,capPure,minPure,maxPure,buildP,resK,endV,yieldE,↓reduceIte,Nat.reduceEqDiff,reduceCtorEq,Nat.reduceAdd,Nat.reduceMul,Nat.reduceSub,Int.reduceLT,Int.reduceLE,Int.reduceToNat,Int.reduceAdd,Int.reduceSub,Int.reduceMul,ne_eq,decide_true,decide_false,tf3, he5, he8])
        refine sld_ok hU2.s hin.rd (fun _ q hq => ⟨fun e => ?_, fun e => ?_⟩) (by omega) (fun w6 v6 A6 c6 hS6 k6 f6 hD6 hF6 => ?_)
        · have := hFin q ((fpV_fpA _ _ _ _).2 hq); omega
        · have h1 := hFin q ((fpV_fpA _ _ _ _).2 hq)
          have h2 := hU.s.row.lt q e
          omega
        have g6 : Grow w w6 := hU2.gr.above k6 (fun q hq e => by
          rcases e with e | e
          · have := hU.gl; omega
          · have := hU.vl q e; omega)
        have hO6 : OrdR w w6 va D (wOrd (WW xs k)) := hU2.o.keep k6 (fun q hq e => by
          rcases e with e | e
          · subst e; exact hU2.o.row.blk_ne hU2.s.b (by decide) hq
          · exact hU2.o.row.ne hU2.s.row (by decide) q hq e) (fun z hz q hq e => by
          have hT := (hU2.o.ok z hz).2
          rcases e with e | e
          · subst e; exact LRow.blk_ne hT hU2.s.b (by decide) ((fpV_fpA _ _ _ _).2 hq)
          · exact LRow.ne hT hU2.s.row (by decide) q ((fpV_fpA _ _ _ _).2 hq) e)
        have hb6 : Blk w6 b 25 ask.cells := hU2.ab.keep k6 (fun e => by
          rcases e with e | e
          · exact Blk.ne_ hU2.ab hU2.s.b (by decide) e
          · exact hU2.s.row.blk_ne hU2.ab (by decide) e)
        have hv6 : ∀ q, fpV v6 q → w.heap.size ≤ q := fun q hq => by
          have := hU2.gr.size
          rcases f6 q hq with e | e
          · exact hU.vl q e
          · omega
        rw [← sLoad_app, ← mine_app, ← hWs] at hS6
        obtain ⟨Aa, ca, rfl, _, _⟩ := hO6.row.form
        have hDl : D.length = (wOrd (WW xs k)).length := by rw [← hO6.eq, List.length_map]
        have hol := wOrd_len (WW xs k)
        have hc6 := hcx w6 g6
        repeat (first | rw [c_seq] | simp -dsimp only [↓RE,RU,RL,if_true,if_false,forall_const,implies_true,Nat.reduceLeDiff,Nat.reduceLT,pureOp,binPure,intBin,strBin,eqPure,isConstO,unPure,sliceLo,sliceHi,slicePure,slice3Pure,lenPure,capPure,minPure,maxPure,buildP,resK,endV,yieldE,↓reduceIte,Nat.reduceEqDiff,reduceCtorEq,Nat.reduceAdd,Nat.reduceMul,Nat.reduceSub,Int.reduceLT,Int.reduceLE,Int.reduceToNat,Int.reduceAdd,Int.reduceSub,Int.reduceMul,ne_eq,decide_true,decide_false,tf3, he0, he6, he7, hc6, Nat.mul_one, Int.toNat_natCast])
        refine ⟨⟨by omega, by omega⟩, ?_⟩
        repeat (first | rw [c_seq] | simp -dsimp only [↓RE,RU,RL,if_true,if_false,forall_const,implies_true,Nat.reduceLeDiff,Nat.reduceLT,pureOp,binPure,intBin,strBin,eqPure,isConstO,unPure,sliceLo,sliceHi,slicePure,slice3Pure,lenPure,capPure,minPure,maxPure,buildP,resK,endV,yieldE,↓reduceIte,Nat.reduceEqDiff,reduceCtorEq,Nat.reduceAdd,Nat.reduceMul,Nat.reduceSub,Int.reduceLT,Int.reduceLE,Int.reduceToNat,Int.reduceAdd,Int.reduceSub,Int.reduceMul,ne_eq,decide_true,decide_false,tf3, he6])
        refine merge_ok hO6.row.rd (hxo.grow g6) (fun z hz => (hO6.ok z hz).1) (fun z hz => (hyo z hz).grow g6) (by omega) (fun w7 v7 D7 hD7 g7 => ?_)
        rw [hO6.eq, wOrd_again, ← hWs] at hD7
        have hs6 := g6.size
        repeat (first | rw [c_seq] | simp -dsimp only [↓RE,RU,RL,if_true,if_false,forall_const,implies_true,Nat.reduceLeDiff,Nat.reduceLT,pureOp,binPure,intBin,strBin,eqPure,isConstO,unPure,sliceLo,sliceHi,slicePure,slice3Pure,lenPure,capPure,minPure,maxPure,buildP,resK,endV,yieldE,↓reduceIte,Nat.reduceEqDiff,reduceCtorEq,Nat.reduceAdd,Nat.reduceMul,Nat.reduceSub,Int.reduceLT,Int.reduceLE,Int.reduceToNat,Int.reduceAdd,Int.reduceSub,Int.reduceMul,ne_eq,decide_true,decide_false,tf3, he7, v1])
        refine hold_intro ⟨⟨v6, v7, D7, ⟨?_, ?_, ?_, ?_⟩, k + 1, hlt, ?_, ⟨g6.trans g7, hS6.grow g7, hU.gl, hv6, hD7.base hs6, hb6.grow g7⟩⟩, ?_⟩
        · simp -dsimp only [↓RE,RU,RL,if_true,if_false,↓reduceIte,Nat.reduceEqDiff,reduceCtorEq,decide_true,decide_false, he0]
        · simp -dsimp only [↓RE,RU,RL,if_true,if_false,↓reduceIte,Nat.reduceEqDiff,reduceCtorEq,decide_true,decide_false, he3]
        · simp -dsimp only [↓RE,RU,RL,if_true,if_false,↓reduceIte,Nat.reduceEqDiff,reduceCtorEq,decide_true,decide_false, he5]
        · simp -dsimp only [↓RE,RU,RL,if_true,if_false,↓reduceIte,Nat.reduceEqDiff,reduceCtorEq,decide_true,decide_false, he6]
        · simp -dsimp only [↓RE,RU,RL,if_true,if_false,↓reduceIte,Nat.reduceEqDiff,reduceCtorEq,decide_true,decide_false, he7, v1]
        · rw [hmu]
          simp -dsimp only [↓RE,↓c_seq,RU,RL,if_true,if_false,forall_const,implies_true,Nat.reduceLeDiff,Nat.reduceLT,pureOp,binPure,intBin,strBin,eqPure,isConstO,unPure,sliceLo,sliceHi,slicePure,slice3Pure,lenPure,capPure,minPure,maxPure,buildP,resK,endV,yieldE,↓reduceIte,Nat.reduceEqDiff,reduceCtorEq,Nat.reduceAdd,Nat.reduceMul,Nat.reduceSub,Int.reduceLT,Int.reduceLE,Int.reduceToNat,Int.reduceAdd,Int.reduceSub,Int.reduceMul,ne_eq,decide_true,decide_false,tf3, he7, v1, envInt, Int.toNat_natCast]
          omega
    · have hkm : k = m := by omega
      subst hkm
      have hd : decide ((k : Int) < (k : Int)) = false := decide_eq_false (by omega)
      repeat (first | rw [c_seq] | simp -dsimp only [↓RE,RU,RL,if_true,if_false,forall_const,implies_true,Nat.reduceLeDiff,Nat.reduceLT,pureOp,binPure,intBin,strBin,eqPure,isConstO,unPure,sliceLo,sliceHi,slicePure,slice3Pure,lenPure,capPure,minPure,maxPure,buildP,resK,endV,yieldE,↓reduceIte,Nat.reduceEqDiff,reduceCtorEq,Nat.reduceAdd,Nat.reduceMul,Nat.reduceSub,Int.reduceLT,Int.reduceLE,Int.reduceToNat,Int.reduceAdd,Int.reduceSub,Int.reduceMul,ne_eq,decide_true,decide_false,tf3, he0, he7, hd])
      refine hold_intro ⟨v, va, D, ⟨?_, ?_, ?_⟩, hU⟩
      · simp -dsimp only [↓RE,RU,RL,if_true,if_false,↓reduceIte,Nat.reduceEqDiff,reduceCtorEq,decide_true,decide_false, he3]
      · simp -dsimp only [↓RE,RU,RL,if_true,if_false,↓reduceIte,Nat.reduceEqDiff,reduceCtorEq,decide_true,decide_false, he5]
      · simp -dsimp only [↓RE,RU,RL,if_true,if_false,↓reduceIte,Nat.reduceEqDiff,reduceCtorEq,decide_true,decide_false, he6]
  · clear he0 he1 hU0 e
    rintro e wz ⟨v, va, D, ⟨he3, he5, he6⟩, hU⟩
    have hWm : WW xs m = (allW xs).map WrV.wr := by unfold WW; rw [List.take_of_length_le (by omega)]
    obtain ⟨S, hS⟩ : ∃ S, S = sLoad [] (mine ask.s (WW xs m)) := ⟨_, rfl⟩
    have hSo : mine ask.s (wOrd (WW xs m)) = S := by rw [hS, mine_ord]
    have hml2 := mine_len ask.s (WW xs m)
    have hwl := WW_len (xs := xs) m
    have hsl := sload_len0 (mine ask.s (WW xs m))
    rw [← hS] at hsl
    have hSl : S.length ≤ 1048576 := by omega
    have hrS : Rise S := hS ▸ Rise.nil.load _
    have hbS : ∀ s ∈ S, -9223372036854775808 ≤ s.1 ∧ s.1 < 9223372036854775808 := fun s hs => by
      rw [hS] at hs
      rcases sload_sub _ hs with e | e
      · cases e
      · have hm := mine_mem.1 e
        rw [hWm] at hm
        obtain ⟨y, hy, he⟩ := List.mem_map.1 hm
        unfold allW at hy
        obtain ⟨x, hx, hyx⟩ := List.mem_flatMap.1 hy
        have := ((ho x hx).2 y hyx).2.1
        have e2 : y.x = s := congrArg Prod.snd he
        rw [← e2]; exact this
    have hUs : SerAt wz g v S := hS ▸ hU.s
    have hrl := range_last hrS hbS
    have hrn : (sRange S (-9223372036854775808) 9223372036854775807).length ≤ S.length := List.length_filter_le _ _
    ((repeat rw [c_seq]); try simp -dsimp only [↓RE,RU,RL,if_true,if_false,forall_const,implies_true,Nat.reduceLeDiff,Nat.reduceLT,pureOp,binPure,intBin,strBin,eqPure,isConstO,unPure,sliceLo,sliceHi,slicePure,slice3Pure,lenPure,capPure,minPure,maxPure,buildP,resK,endV,yieldE,↓reduceIte,Nat.reduceEqDiff,reduceCtorEq,Nat.reduceAdd,Nat.reduceMul,Nat.reduceSub,Int.reduceLT,Int.reduceLE,Int.reduceToNat,Int.reduceAdd,Int.reduceSub,Int.reduceMul,ne_eq,decide_true,decide_false,tf3, he5])
    refine range_ok hUs (by omega) (fun w2 A2 c2 g2 hR2 hF2 => ?_)
    have hU2 := hU.grow g2
    have hUs2 := hUs.grow g2
    generalize sRange S (-9223372036854775808) 9223372036854775807 = r at hR2 hrl hrn ⊢
    ((repeat rw [c_seq]); try simp -dsimp only [↓RE,RU,RL,if_true,if_false,forall_const,implies_true,Nat.reduceLeDiff,Nat.reduceLT,pureOp,binPure,intBin,strBin,eqPure,isConstO,unPure,sliceLo,sliceHi,slicePure,slice3Pure,lenPure,capPure,minPure,maxPure,buildP,resK,endV,yieldE,↓reduceIte,Nat.reduceEqDiff,reduceCtorEq,Nat.reduceAdd,Nat.reduceMul,Nat.reduceSub,Int.reduceLT,Int.reduceLE,Int.reduceToNat,Int.reduceAdd,Int.reduceSub,Int.reduceMul,ne_eq,decide_true,decide_false,tf3, he5])
    refine c_seq_cut (fun e' w' => ∃ vh, (e' 3 = .pointer (some ⟨b, 0, none⟩) ∧ e' 5 = .pointer (some ⟨g, 0, none⟩) ∧ e' 6 = va ∧ e' 10 = vh) ∧ Un w xs ask b g v va D m w' ∧ SRow w' vh S) ?_ ?_
    · ((repeat rw [c_seq]); try simp -dsimp only [↓RE,RU,RL,if_true,if_false,forall_const,implies_true,Nat.reduceLeDiff,Nat.reduceLT,pureOp,binPure,intBin,strBin,eqPure,isConstO,unPure,sliceLo,sliceHi,slicePure,slice3Pure,lenPure,capPure,minPure,maxPure,buildP,resK,endV,yieldE,↓reduceIte,Nat.reduceEqDiff,reduceCtorEq,Nat.reduceAdd,Nat.reduceMul,Nat.reduceSub,Int.reduceLT,Int.reduceLE,Int.reduceToNat,Int.reduceAdd,Int.reduceSub,Int.reduceMul,ne_eq,decide_true,decide_false,tf3, he5])
      refine last_ok hUs2 (by omega) (fun w3 g3 => ?_)
      generalize nthV S ((S.length : Int) - 1) = p at hrl ⊢
      obtain ⟨lx, lb⟩ := p
      have hU3 := hU2.grow g3
      have hR3 := LRow.grow hR2 g3
      ((repeat rw [c_seq]); try simp -dsimp only [↓RE,RU,RL,if_true,if_false,forall_const,implies_true,Nat.reduceLeDiff,Nat.reduceLT,pureOp,binPure,intBin,strBin,eqPure,isConstO,unPure,sliceLo,sliceHi,slicePure,slice3Pure,lenPure,capPure,minPure,maxPure,buildP,resK,endV,yieldE,↓reduceIte,Nat.reduceEqDiff,reduceCtorEq,Nat.reduceAdd,Nat.reduceMul,Nat.reduceSub,Int.reduceLT,Int.reduceLE,Int.reduceToNat,Int.reduceAdd,Int.reduceSub,Int.reduceMul,ne_eq,decide_true,decide_false,tf3, he5, cS])
      refine new3 (fun w4 hb4 g4 => ?_) rfl rfl rfl
      generalize w3.heap.size = q at hb4
      have hU4 := hU3.grow g4
      have hR4 := LRow.grow hR3 g4
      refine os_gen (fun e' => (e' 3 = .pointer (some ⟨b, 0, none⟩) ∧ e' 5 = .pointer (some ⟨g, 0, none⟩) ∧ e' 6 = va) ∧ e' 10 = .slice A2 r.length c2 ∧ e' 11 = .pointer (some ⟨q, 0, none⟩) ∧ e' 68 = .bool lb) ⟨⟨?_, ?_, ?_⟩, ?_, ?_, ?_⟩ ?_
      · simp -dsimp only [↓RE,RU,RL,if_true,if_false,↓reduceIte,Nat.reduceEqDiff,reduceCtorEq,decide_true,decide_false, he3]
      · simp -dsimp only [↓RE,RU,RL,if_true,if_false,↓reduceIte,Nat.reduceEqDiff,reduceCtorEq,decide_true,decide_false, he5]
      · simp -dsimp only [↓RE,RU,RL,if_true,if_false,↓reduceIte,Nat.reduceEqDiff,reduceCtorEq,decide_true,decide_false, he6]
      · simp -dsimp only [↓RE,RU,RL,if_true,if_false,↓reduceIte,Nat.reduceEqDiff,reduceCtorEq,decide_true,decide_false, he5]
      · simp -dsimp only [↓RE,RU,RL,if_true,if_false,↓reduceIte,Nat.reduceEqDiff,reduceCtorEq,decide_true,decide_false, he5]
      · simp -dsimp only [↓RE,RU,RL,if_true,if_false,↓reduceIte,Nat.reduceEqDiff,reduceCtorEq,decide_true,decide_false, he5]
      clear he3 he5 he6 e
      rintro e ⟨⟨he3, he5, he6⟩, he10, he11, he68⟩
      have x0 : w4.cell? ⟨q, 0, none⟩ = some (.int .i64 lx.1) := (hb4.cell 0).trans rfl
      cases lb with
      | false =>
        rw [if_neg (fun q => by cases q.1)] at hrl
        subst hrl
        repeat (first | rw [c_seq] | simp -dsimp only [↓RE,RU,RL,if_true,if_false,forall_const,implies_true,Nat.reduceLeDiff,Nat.reduceLT,pureOp,binPure,intBin,strBin,eqPure,isConstO,unPure,sliceLo,sliceHi,slicePure,slice3Pure,lenPure,capPure,minPure,maxPure,buildP,resK,endV,yieldE,↓reduceIte,Nat.reduceEqDiff,reduceCtorEq,Nat.reduceAdd,Nat.reduceMul,Nat.reduceSub,Int.reduceLT,Int.reduceLE,Int.reduceToNat,Int.reduceAdd,Int.reduceSub,Int.reduceMul,ne_eq,decide_true,decide_false,tf3, he68, undef])
        refine hold_intro ⟨_, ⟨?_, ?_, ?_, ?_⟩, hU4, hR4⟩
        · simp -dsimp only [↓RE,RU,RL,if_true,if_false,↓reduceIte,Nat.reduceEqDiff,reduceCtorEq,decide_true,decide_false, he3]
        · simp -dsimp only [↓RE,RU,RL,if_true,if_false,↓reduceIte,Nat.reduceEqDiff,reduceCtorEq,decide_true,decide_false, he5]
        · simp -dsimp only [↓RE,RU,RL,if_true,if_false,↓reduceIte,Nat.reduceEqDiff,reduceCtorEq,decide_true,decide_false, he6]
        · simp -dsimp only [↓RE,RU,RL,if_true,if_false,↓reduceIte,Nat.reduceEqDiff,reduceCtorEq,decide_true,decide_false, he10]
      | true =>
        by_cases hm : lx.1 = 9223372036854775807
        · rw [if_pos ⟨rfl, hm⟩] at hrl
          have hm' : decide (lx.1 = 9223372036854775807) = true := decide_eq_true hm
          have hrll := congrArg List.length hrl
          rw [List.length_append] at hrll
          repeat (first | rw [c_seq] | simp -dsimp only [↓RE,RU,RL,if_true,if_false,forall_const,implies_true,Nat.reduceLeDiff,Nat.reduceLT,pureOp,binPure,intBin,strBin,eqPure,isConstO,unPure,sliceLo,sliceHi,slicePure,slice3Pure,lenPure,capPure,minPure,maxPure,buildP,resK,endV,yieldE,↓reduceIte,Nat.reduceEqDiff,reduceCtorEq,Nat.reduceAdd,Nat.reduceMul,Nat.reduceSub,Int.reduceLT,Int.reduceLE,Int.reduceToNat,Int.reduceAdd,Int.reduceSub,Int.reduceMul,ne_eq,decide_true,decide_false,tf3, he68, he10, he11, x0, hm', add_lit', Nat.zero_add])
          have e4 : ∀ {K : VK} {tk : Tok K}, K (.agg #[.int .i64 lx.1, .int .u8 lx.2.1, .int .i64 lx.2.2]) → aggK w4 ⟨q, 0, none⟩ (some 3) K tk := fun hK => hb4.aggK (by simp) hK
          refine e4 ?_
          repeat (first | rw [c_seq] | simp -dsimp only [↓RE,RU,RL,if_true,if_false,forall_const,implies_true,Nat.reduceLeDiff,Nat.reduceLT,pureOp,binPure,intBin,strBin,eqPure,isConstO,unPure,sliceLo,sliceHi,slicePure,slice3Pure,lenPure,capPure,minPure,maxPure,buildP,resK,endV,yieldE,↓reduceIte,Nat.reduceEqDiff,reduceCtorEq,Nat.reduceAdd,Nat.reduceMul,Nat.reduceSub,Int.reduceLT,Int.reduceLE,Int.reduceToNat,Int.reduceAdd,Int.reduceSub,Int.reduceMul,ne_eq,decide_true,decide_false,tf3, he10])
          have ga := Grow.alloc w4 (.cells #[.int .i64 lx.1, .int .u8 lx.2.1, .int .i64 lx.2.2] 35)
          have hone : Rd (w4.alloc (.cells #[.int .i64 lx.1, .int .u8 lx.2.1, .int .i64 lx.2.2] 35)) (some ⟨w4.heap.size, 0, none⟩) 1 3 ([lx].flatMap scells) :=
            Rd.of_own (own_new w4 35 3 1 #[.int .i64 lx.1, .int .u8 lx.2.1, .int .i64 lx.2.2] rfl (by simp [maxLen]))
          refine app_smp (ys := [lx]) (LRow.grow hR4 ga) hone (by simp only [List.length_cons, List.length_nil]; omega) (fun A6 c6 w6 hin6 k6 f6 => ?_)
          rw [hrl] at hin6
          have hU6 := (hU4.grow ga).keepF k6 (fun i hi => hF2 i ((fpV_fpA _ _ _ _).1 hi)) hU
          repeat (first | rw [c_seq] | simp -dsimp only [↓RE,RU,RL,if_true,if_false,forall_const,implies_true,Nat.reduceLeDiff,Nat.reduceLT,pureOp,binPure,intBin,strBin,eqPure,isConstO,unPure,sliceLo,sliceHi,slicePure,slice3Pure,lenPure,capPure,minPure,maxPure,buildP,resK,endV,yieldE,↓reduceIte,Nat.reduceEqDiff,reduceCtorEq,Nat.reduceAdd,Nat.reduceMul,Nat.reduceSub,Int.reduceLT,Int.reduceLE,Int.reduceToNat,Int.reduceAdd,Int.reduceSub,Int.reduceMul,ne_eq,decide_true,decide_false,tf3, he10])
          refine hold_intro ⟨_, ⟨?_, ?_, ?_, ?_⟩, hU6, hin6⟩
          · simp -dsimp only [↓RE,RU,RL,if_true,if_false,↓reduceIte,Nat.reduceEqDiff,reduceCtorEq,decide_true,decide_false, he3]
          · simp -dsimp only [↓RE,RU,RL,if_true,if_false,↓reduceIte,Nat.reduceEqDiff,reduceCtorEq,decide_true,decide_false, he5]
          · simp -dsimp only [↓RE,RU,RL,if_true,if_false,↓reduceIte,Nat.reduceEqDiff,reduceCtorEq,decide_true,decide_false, he6]
          · simp -dsimp only [↓RE,RU,RL,if_true,if_false,↓reduceIte,Nat.reduceEqDiff,reduceCtorEq,decide_true,decide_false, he10]
        · rw [if_neg (fun q => hm q.2)] at hrl
          subst hrl
          have hm' : decide (lx.1 = 9223372036854775807) = false := decide_eq_false hm
          repeat (first | rw [c_seq] | simp -dsimp only [↓RE,RU,RL,if_true,if_false,forall_const,implies_true,Nat.reduceLeDiff,Nat.reduceLT,pureOp,binPure,intBin,strBin,eqPure,isConstO,unPure,sliceLo,sliceHi,slicePure,slice3Pure,lenPure,capPure,minPure,maxPure,buildP,resK,endV,yieldE,↓reduceIte,Nat.reduceEqDiff,reduceCtorEq,Nat.reduceAdd,Nat.reduceMul,Nat.reduceSub,Int.reduceLT,Int.reduceLE,Int.reduceToNat,Int.reduceAdd,Int.reduceSub,Int.reduceMul,ne_eq,decide_true,decide_false,tf3, he68, he11, x0, hm', add_lit', Nat.zero_add])
          refine hold_intro ⟨_, ⟨?_, ?_, ?_, ?_⟩, hU4, hR4⟩
          · simp -dsimp only [↓RE,RU,RL,if_true,if_false,↓reduceIte,Nat.reduceEqDiff,reduceCtorEq,decide_true,decide_false, he3]
          · simp -dsimp only [↓RE,RU,RL,if_true,if_false,↓reduceIte,Nat.reduceEqDiff,reduceCtorEq,decide_true,decide_false, he5]
          · simp -dsimp only [↓RE,RU,RL,if_true,if_false,↓reduceIte,Nat.reduceEqDiff,reduceCtorEq,decide_true,decide_false, he6]
          · simp -dsimp only [↓RE,RU,RL,if_true,if_false,↓reduceIte,Nat.reduceEqDiff,reduceCtorEq,decide_true,decide_false, he10]
    · clear he3 he5 he6 e
      rintro e wy ⟨vh, ⟨he3, he5, he6, he10⟩, hU4, hH⟩
      obtain ⟨Ah, ch, rfl, _, _⟩ := hH.form
      obtain ⟨Aa, ca, rfl, _, _⟩ := hU4.o.row.form
      have hDl : D.length = (wOrd (WW xs m)).length := by rw [← hU4.o.eq, List.length_map]
      have hol := wOrd_len (WW xs m)
      have hmi : ∀ i (hi : i < D.length), mine ask.s ((D.take (i + 1)).map WrV.wr) = mine ask.s ((D.take i).map WrV.wr) ++ (if cmpSer (D[i]).s.s ask.s = 0 then [(D[i]).x] else []) := fun i hi => by
        rw [List.take_succ_eq_append_getElem hi, List.map_append, mine_app]
        congr 1
        show mine ask.s [(D[i]).wr] = _
        rw [mine_cons]
        rfl
      have hmS : ∀ i, ∃ rest, S = mine ask.s ((D.take i).map WrV.wr) ++ rest := fun i => ⟨mine ask.s ((D.drop i).map WrV.wr), by
        rw [← mine_app, ← List.map_append, List.take_append_drop, hU4.o.eq, hSo]⟩
      have hmd : mine ask.s (D.map WrV.wr) = S := by rw [hU4.o.eq, hSo]
      ((repeat rw [c_seq]); try simp -dsimp only [↓RE,RU,RL,if_true,if_false,forall_const,implies_true,Nat.reduceLeDiff,Nat.reduceLT,pureOp,binPure,intBin,strBin,eqPure,isConstO,unPure,sliceLo,sliceHi,slicePure,slice3Pure,lenPure,capPure,minPure,maxPure,buildP,resK,endV,yieldE,↓reduceIte,Nat.reduceEqDiff,reduceCtorEq,Nat.reduceAdd,Nat.reduceMul,Nat.reduceSub,Int.reduceLT,Int.reduceLE,Int.reduceToNat,Int.reduceAdd,Int.reduceSub,Int.reduceMul,ne_eq,decide_true,decide_false,tf3, he5])
      refine c_seq_cut (fun e' w' => Grow wy w' ∧ e' 5 = .pointer (some ⟨g, 0, none⟩) ∧ e' 10 = .slice Ah S.length ch ∧ e' 13 = .int .i64 (S.length : Int)) ?_ ?_
      · repeat (first | rw [c_seq] | simp -dsimp only [↓RE,RU,RL,if_true,if_false,forall_const,implies_true,Nat.reduceLeDiff,Nat.reduceLT,pureOp,binPure,intBin,strBin,eqPure,isConstO,unPure,sliceLo,sliceHi,slicePure,slice3Pure,lenPure,capPure,minPure,maxPure,buildP,resK,endV,yieldE,↓reduceIte,Nat.reduceEqDiff,reduceCtorEq,Nat.reduceAdd,Nat.reduceMul,Nat.reduceSub,Int.reduceLT,Int.reduceLE,Int.reduceToNat,Int.reduceAdd,Int.reduceSub,Int.reduceMul,ne_eq,decide_true,decide_false,tf3, he5])
        refine wpLoop_intro (fun e' w' => Grow wy w' ∧ (e' 3 = .pointer (some ⟨b, 0, none⟩) ∧ e' 5 = .pointer (some ⟨g, 0, none⟩) ∧ e' 6 = .slice Aa D.length ca ∧ e' 10 = .slice Ah S.length ch) ∧ ∃ i : Nat, i ≤ D.length ∧ e' 14 = .int .i64 (i : Int) ∧ e' 13 = .int .i64 ((mine ask.s ((D.take i).map WrV.wr)).length : Int))
          (fun e' _ => D.length - (envInt (e' 14)).toNat) ⟨Keep.refl _ _, ⟨?_, ?_, ?_, ?_⟩, 0, Nat.zero_le _, ?_, ?_⟩ ?_
        · simp -dsimp only [↓RE,RU,RL,if_true,if_false,↓reduceIte,Nat.reduceEqDiff,reduceCtorEq,decide_true,decide_false, he3]
        · simp -dsimp only [↓RE,RU,RL,if_true,if_false,↓reduceIte,Nat.reduceEqDiff,reduceCtorEq,decide_true,decide_false, he5]
        · simp -dsimp only [↓RE,RU,RL,if_true,if_false,↓reduceIte,Nat.reduceEqDiff,reduceCtorEq,decide_true,decide_false, he6]
        · simp -dsimp only [↓RE,RU,RL,if_true,if_false,↓reduceIte,Nat.reduceEqDiff,reduceCtorEq,decide_true,decide_false, he10]
        · simp -dsimp only [↓RE,RU,RL,if_true,if_false,↓reduceIte,Nat.reduceEqDiff,reduceCtorEq,decide_true,decide_false, Int.cast_ofNat_Int]
        · rw [List.take_zero, List.map_nil]; simp -dsimp only [↓RE,↓c_seq,RU,RL,if_true,if_false,forall_const,implies_true,Nat.reduceLeDiff,Nat.reduceLT,pureOp,binPure,intBin,strBin,eqPure,isConstO,unPure,sliceLo,sliceHi,slicePure,slice3Pure,lenPure,capPure,minPure,maxPure,buildP,resK,endV,yieldE,↓reduceIte,Nat.reduceEqDiff,reduceCtorEq,Nat.reduceAdd,Nat.reduceMul,Nat.reduceSub,Int.reduceLT,Int.reduceLE,Int.reduceToNat,Int.reduceAdd,Int.reduceSub,Int.reduceMul,ne_eq,decide_true,decide_false,tf3, mine, List.filter_nil, List.map_nil, List.length_nil, Int.cast_ofNat_Int]
        clear he3 he5 he6 he10 e
        rintro e wx ⟨gx, ⟨he3, he5, he6, he10⟩, i, hi, he14, he13⟩
        rcases Nat.lt_or_ge i D.length with hlt | hge
        · have hd : decide ((i : Int) < (D.length : Int)) = true := decide_eq_true (by omega)
          have hmu : (envInt (e 14)).toNat = i := by rw [he14]; exact Int.toNat_natCast i
          have v1 : IntKind.i64.wrap ((i : Int) + 1) = ((i + 1 : Nat) : Int) := by rw [wrap_i64_in (by omega) (by omega)]; omega
          have hm1 := hmi i hlt
          obtain ⟨rest, hrest⟩ := hmS (i + 1)
          obtain ⟨y, hy⟩ : ∃ y, y = D[i] := ⟨_, rfl⟩
          have hyk : D[i]? = some y := by rw [List.getElem?_eq_getElem hlt, ← hy]
          rw [← hy] at hm1
          have hyo := (hU4.o.ok y (List.mem_of_getElem? hyk)).1
          clear hy
          obtain ⟨ad, rfl⟩ : ∃ ad, Aa = some ad := by
            obtain ⟨ad, e, _⟩ := hU4.o.row.rd.2 (by omega)
            exact ⟨ad, e⟩
          have hrd : ∀ w', Grow wy w' → ∀ (j : Nat) u, y.cells[j]? = some u → w'.cell? ((ad.add (i * 6)).add j) = some u := fun w' g' j u hu => by
            obtain ⟨_, ad', hA, hcc⟩ := (hU4.o.row.rd.grow g').flat (size := 6) (fun a _ => wcells_len a) hyk (by omega)
            injection hA with hA
            subst hA
            exact hcc j u hu
          repeat (first | rw [c_seq] | simp -dsimp only [↓RE,RU,RL,if_true,if_false,forall_const,implies_true,Nat.reduceLeDiff,Nat.reduceLT,pureOp,binPure,intBin,strBin,eqPure,isConstO,unPure,sliceLo,sliceHi,slicePure,slice3Pure,lenPure,capPure,minPure,maxPure,buildP,resK,endV,yieldE,↓reduceIte,Nat.reduceEqDiff,reduceCtorEq,Nat.reduceAdd,Nat.reduceMul,Nat.reduceSub,Int.reduceLT,Int.reduceLE,Int.reduceToNat,Int.reduceAdd,Int.reduceSub,Int.reduceMul,ne_eq,decide_true,decide_false,tf3, he6, he14, hd])
          refine wpDraw_by (Grow wx ·) [(0, true), (1, true), (2, true), (3, true), (4, true), (5, true), (6, false), (7, true)] (by kernel_rfl) (Grow.drew wx) ?_
          simp only [planL, List.getElem?_toArray, List.getElem?_cons_zero, List.getElem?_cons_succ, Option.toList_some, List.map_cons, List.map_nil, List.cons_append, List.nil_append]
          repeat (first | rw [c_seq] | simp -dsimp only [↓RE,RU,RL,if_true,if_false,forall_const,implies_true,Nat.reduceLeDiff,Nat.reduceLT,pureOp,binPure,intBin,strBin,eqPure,isConstO,unPure,sliceLo,sliceHi,slicePure,slice3Pure,lenPure,capPure,minPure,maxPure,buildP,resK,endV,yieldE,↓reduceIte,Nat.reduceEqDiff,reduceCtorEq,Nat.reduceAdd,Nat.reduceMul,Nat.reduceSub,Int.reduceLT,Int.reduceLE,Int.reduceToNat,Int.reduceAdd,Int.reduceSub,Int.reduceMul,ne_eq,decide_true,decide_false,tf3, he3, he6, he14, Int.toNat_natCast, add_zero'])
          refine ⟨⟨by omega, by omega⟩, y.s.cells, rfl, fun w' g' j u hu => hrd w' (gx.trans g') j u (y.head hu), ?_⟩
          repeat (first | rw [c_seq] | simp -dsimp only [↓RE,RU,RL,if_true,if_false,forall_const,implies_true,Nat.reduceLeDiff,Nat.reduceLT,pureOp,binPure,intBin,strBin,eqPure,isConstO,unPure,sliceLo,sliceHi,slicePure,slice3Pure,lenPure,capPure,minPure,maxPure,buildP,resK,endV,yieldE,↓reduceIte,Nat.reduceEqDiff,reduceCtorEq,Nat.reduceAdd,Nat.reduceMul,Nat.reduceSub,Int.reduceLT,Int.reduceLE,Int.reduceToNat,Int.reduceAdd,Int.reduceSub,Int.reduceMul,ne_eq,decide_true,decide_false,tf3, he3])
          refine ⟨ask.cells, rfl, fun w' g' j u hu => by rw [add_lit', Nat.zero_add, (hU4.ab.grow (gx.trans g')).cell]; exact hu, ?_⟩
          repeat (first | rw [c_seq] | simp -dsimp only [↓RE,RU,RL,if_true,if_false,forall_const,implies_true,Nat.reduceLeDiff,Nat.reduceLT,pureOp,binPure,intBin,strBin,eqPure,isConstO,unPure,sliceLo,sliceHi,slicePure,slice3Pure,lenPure,capPure,minPure,maxPure,buildP,resK,endV,yieldE,↓reduceIte,Nat.reduceEqDiff,reduceCtorEq,Nat.reduceAdd,Nat.reduceMul,Nat.reduceSub,Int.reduceLT,Int.reduceLE,Int.reduceToNat,Int.reduceAdd,Int.reduceSub,Int.reduceMul,ne_eq,decide_true,decide_false,tf3, he3])
          have gd := gx.trans (Grow.drew wx)
          refine same5_ok (hyo.1.grow gd) (ha.grow (hU4.gr.trans gd)) (fun w5 g5 => ?_)
          refine ⟨(Grow.drew wx).trans g5, ?_⟩
          have g6 := gd.trans g5
          by_cases hz : cmpSer y.s.s ask.s = 0
          · have hz' : decide (cmpSer y.s.s ask.s = 0) = true := decide_eq_true hz
            rw [if_pos hz] at hm1
            rw [hm1] at hrest
            have hSn : S[(mine ask.s ((D.take i).map WrV.wr)).length]? = some y.x := by rw [hrest]; simp
            have hln : (mine ask.s ((D.take i).map WrV.wr)).length < S.length := (List.getElem?_eq_some_iff.1 hSn).1
            have hm1l := congrArg List.length hm1
            rw [List.length_append] at hm1l
            generalize (mine ask.s ((D.take i).map WrV.wr)).length = nn at hSn hln he13 hm1l
            have d3 : decide ((S.length : Int) ≤ (nn : Int)) = false := decide_eq_false (by omega)
            have v3 : IntKind.i64.wrap ((nn : Int) + 1) = ((mine ask.s ((D.take (i + 1)).map WrV.wr)).length : Int) := by rw [wrap_i64_in (by omega) (by omega), hm1l]; simp
            obtain ⟨ah, rfl⟩ : ∃ ah, Ah = some ah := by
              obtain ⟨ah, e, _⟩ := hH.rd.2 (by omega)
              exact ⟨ah, e⟩
            have e7 : ∀ {K : VK} {tk : Tok K}, K (.agg #[.int .i64 y.x.1, .int .u8 y.x.2.1, .int .i64 y.x.2.2]) → aggK w5.drew (ah.add (nn * 3)) (some 3) K tk := fun hK => by
              obtain ⟨_, ad', hA, hcc⟩ := (hH.rd.grow (g6.trans (Grow.drew w5))).flat (size := 3) (fun _ _ => rfl) hSn (by omega)
              injection hA with hA
              subst hA
              exact ⟨scells y.x, rfl, hcc, hK⟩
            have e8 : ∀ {K : VK} {tk : Tok K}, K (.agg #[.int .i64 y.x.1, .int .u8 y.x.2.1, .int .i64 y.x.2.2]) → aggK w5.drew ((ad.add (i * 6)).add 3) (some 3) K tk := fun hK => ⟨scells y.x, rfl, fun j u hu => by
              rw [add_add']
              refine hrd _ (g6.trans (Grow.drew w5)) (3 + j) u ?_
              match j, hu with
              | 0, hu => exact hu
              | 1, hu => exact hu
              | 2, hu => exact hu
              | j + 3, hu => simp [scells] at hu, hK⟩
            repeat (first | rw [c_seq] | simp -dsimp only [↓RE,RU,RL,if_true,if_false,forall_const,implies_true,Nat.reduceLeDiff,Nat.reduceLT,pureOp,binPure,intBin,strBin,eqPure,isConstO,unPure,sliceLo,sliceHi,slicePure,slice3Pure,lenPure,capPure,minPure,maxPure,buildP,resK,endV,yieldE,↓reduceIte,Nat.reduceEqDiff,reduceCtorEq,Nat.reduceAdd,Nat.reduceMul,Nat.reduceSub,Int.reduceLT,Int.reduceLE,Int.reduceToNat,Int.reduceAdd,Int.reduceSub,Int.reduceMul,ne_eq,decide_true,decide_false,tf3, hz', Bool.not_true])
            refine wpDraw_still (by kernel_rfl) ?_
            repeat (first | rw [c_seq] | simp -dsimp only [↓RE,RU,RL,if_true,if_false,forall_const,implies_true,Nat.reduceLeDiff,Nat.reduceLT,pureOp,binPure,intBin,strBin,eqPure,isConstO,unPure,sliceLo,sliceHi,slicePure,slice3Pure,lenPure,capPure,minPure,maxPure,buildP,resK,endV,yieldE,↓reduceIte,Nat.reduceEqDiff,reduceCtorEq,Nat.reduceAdd,Nat.reduceMul,Nat.reduceSub,Int.reduceLT,Int.reduceLE,Int.reduceToNat,Int.reduceAdd,Int.reduceSub,Int.reduceMul,ne_eq,decide_true,decide_false,tf3, he6, he10, he13, he14, d3, Int.toNat_natCast])
            refine ⟨⟨by omega, by omega⟩, e7 ?_⟩
            repeat (first | rw [c_seq] | simp -dsimp only [↓RE,RU,RL,if_true,if_false,forall_const,implies_true,Nat.reduceLeDiff,Nat.reduceLT,pureOp,binPure,intBin,strBin,eqPure,isConstO,unPure,sliceLo,sliceHi,slicePure,slice3Pure,lenPure,capPure,minPure,maxPure,buildP,resK,endV,yieldE,↓reduceIte,Nat.reduceEqDiff,reduceCtorEq,Nat.reduceAdd,Nat.reduceMul,Nat.reduceSub,Int.reduceLT,Int.reduceLE,Int.reduceToNat,Int.reduceAdd,Int.reduceSub,Int.reduceMul,ne_eq,decide_true,decide_false,tf3, he6, he10, he13, he14, d3, Int.toNat_natCast])
            refine ⟨⟨by omega, by omega⟩, e8 ?_⟩
            repeat (first | rw [c_seq] | simp -dsimp only [↓RE,RU,RL,if_true,if_false,forall_const,implies_true,Nat.reduceLeDiff,Nat.reduceLT,pureOp,binPure,intBin,strBin,eqPure,isConstO,unPure,sliceLo,sliceHi,slicePure,slice3Pure,lenPure,capPure,minPure,maxPure,buildP,resK,endV,yieldE,↓reduceIte,Nat.reduceEqDiff,reduceCtorEq,Nat.reduceAdd,Nat.reduceMul,Nat.reduceSub,Int.reduceLT,Int.reduceLE,Int.reduceToNat,Int.reduceAdd,Int.reduceSub,Int.reduceMul,ne_eq,decide_true,decide_false,tf3, he13, he14, v1, v3, eq_self, and_self, decide_true, Bool.not_true, Option.map_some])
            refine hold_intro ⟨⟨g6.trans (Grow.drew w5), ⟨?_, ?_, ?_, ?_⟩, i + 1, hlt, ?_, ?_⟩, ?_⟩
            · simp -dsimp only [↓RE,RU,RL,if_true,if_false,↓reduceIte,Nat.reduceEqDiff,reduceCtorEq,decide_true,decide_false, he3]
            · simp -dsimp only [↓RE,RU,RL,if_true,if_false,↓reduceIte,Nat.reduceEqDiff,reduceCtorEq,decide_true,decide_false, he5]
            · simp -dsimp only [↓RE,RU,RL,if_true,if_false,↓reduceIte,Nat.reduceEqDiff,reduceCtorEq,decide_true,decide_false, he6]
            · simp -dsimp only [↓RE,RU,RL,if_true,if_false,↓reduceIte,Nat.reduceEqDiff,reduceCtorEq,decide_true,decide_false, he10]
            · simp -dsimp only [↓RE,RU,RL,if_true,if_false,↓reduceIte,Nat.reduceEqDiff,reduceCtorEq,decide_true,decide_false, he14, v1]
            · simp -dsimp only [↓RE,RU,RL,if_true,if_false,↓reduceIte,Nat.reduceEqDiff,reduceCtorEq,decide_true,decide_false, he13, v3]
            · rw [hmu]
              simp -dsimp only [↓RE,↓c_seq,RU,RL,if_true,if_false,forall_const,implies_true,Nat.reduceLeDiff,Nat.reduceLT,pureOp,binPure,intBin,strBin,eqPure,isConstO,unPure,sliceLo,sliceHi,slicePure,slice3Pure,lenPure,capPure,minPure,maxPure,buildP,resK,endV,yieldE,↓reduceIte,Nat.reduceEqDiff,reduceCtorEq,Nat.reduceAdd,Nat.reduceMul,Nat.reduceSub,Int.reduceLT,Int.reduceLE,Int.reduceToNat,Int.reduceAdd,Int.reduceSub,Int.reduceMul,ne_eq,decide_true,decide_false,tf3, he14, v1, envInt, Int.toNat_natCast]
              omega
          · have hz' : decide (cmpSer y.s.s ask.s = 0) = false := decide_eq_false hz
            rw [if_neg hz, List.append_nil] at hm1
            rw [← hm1] at he13
            repeat (first | rw [c_seq] | simp -dsimp only [↓RE,RU,RL,if_true,if_false,forall_const,implies_true,Nat.reduceLeDiff,Nat.reduceLT,pureOp,binPure,intBin,strBin,eqPure,isConstO,unPure,sliceLo,sliceHi,slicePure,slice3Pure,lenPure,capPure,minPure,maxPure,buildP,resK,endV,yieldE,↓reduceIte,Nat.reduceEqDiff,reduceCtorEq,Nat.reduceAdd,Nat.reduceMul,Nat.reduceSub,Int.reduceLT,Int.reduceLE,Int.reduceToNat,Int.reduceAdd,Int.reduceSub,Int.reduceMul,ne_eq,decide_true,decide_false,tf3, hz', Bool.not_false, he14, v1])
            refine hold_intro ⟨⟨g6, ⟨?_, ?_, ?_, ?_⟩, i + 1, hlt, ?_, ?_⟩, ?_⟩
            · simp -dsimp only [↓RE,RU,RL,if_true,if_false,↓reduceIte,Nat.reduceEqDiff,reduceCtorEq,decide_true,decide_false, he3]
            · simp -dsimp only [↓RE,RU,RL,if_true,if_false,↓reduceIte,Nat.reduceEqDiff,reduceCtorEq,decide_true,decide_false, he5]
            · simp -dsimp only [↓RE,RU,RL,if_true,if_false,↓reduceIte,Nat.reduceEqDiff,reduceCtorEq,decide_true,decide_false, he6]
            · simp -dsimp only [↓RE,RU,RL,if_true,if_false,↓reduceIte,Nat.reduceEqDiff,reduceCtorEq,decide_true,decide_false, he10]
            · simp -dsimp only [↓RE,RU,RL,if_true,if_false,↓reduceIte,Nat.reduceEqDiff,reduceCtorEq,decide_true,decide_false, he14, v1]
            · simp -dsimp only [↓RE,RU,RL,if_true,if_false,↓reduceIte,Nat.reduceEqDiff,reduceCtorEq,decide_true,decide_false, he13]
            · rw [hmu]
              simp -dsimp only [↓RE,↓c_seq,RU,RL,if_true,if_false,forall_const,implies_true,Nat.reduceLeDiff,Nat.reduceLT,pureOp,binPure,intBin,strBin,eqPure,isConstO,unPure,sliceLo,sliceHi,slicePure,slice3Pure,lenPure,capPure,minPure,maxPure,buildP,resK,endV,yieldE,↓reduceIte,Nat.reduceEqDiff,reduceCtorEq,Nat.reduceAdd,Nat.reduceMul,Nat.reduceSub,Int.reduceLT,Int.reduceLE,Int.reduceToNat,Int.reduceAdd,Int.reduceSub,Int.reduceMul,ne_eq,decide_true,decide_false,tf3, he14, v1, envInt, Int.toNat_natCast]
              omega
        · have hd : decide ((i : Int) < (D.length : Int)) = false := decide_eq_false (by omega)
          rw [List.take_of_length_le hge, hmd] at he13
          repeat (first | rw [c_seq] | simp -dsimp only [↓RE,RU,RL,if_true,if_false,forall_const,implies_true,Nat.reduceLeDiff,Nat.reduceLT,pureOp,binPure,intBin,strBin,eqPure,isConstO,unPure,sliceLo,sliceHi,slicePure,slice3Pure,lenPure,capPure,minPure,maxPure,buildP,resK,endV,yieldE,↓reduceIte,Nat.reduceEqDiff,reduceCtorEq,Nat.reduceAdd,Nat.reduceMul,Nat.reduceSub,Int.reduceLT,Int.reduceLE,Int.reduceToNat,Int.reduceAdd,Int.reduceSub,Int.reduceMul,ne_eq,decide_true,decide_false,tf3, he6, he14, hd])
          refine hold_intro ⟨gx, ?_, ?_, ?_⟩
          · simp -dsimp only [↓RE,RU,RL,if_true,if_false,↓reduceIte,Nat.reduceEqDiff,reduceCtorEq,decide_true,decide_false, he5]
          · simp -dsimp only [↓RE,RU,RL,if_true,if_false,↓reduceIte,Nat.reduceEqDiff,reduceCtorEq,decide_true,decide_false, he10]
          · simp -dsimp only [↓RE,RU,RL,if_true,if_false,↓reduceIte,Nat.reduceEqDiff,reduceCtorEq,decide_true,decide_false, he13]
      · clear he3 he5 he6 he10 e
        rintro e wx ⟨gx, he5, he10, he13⟩
        have hUx := (hS ▸ hU4.s : SerAt wy g v S).grow gx
        have gw := hU4.gr.trans gx
        ((repeat rw [c_seq]); try simp -dsimp only [↓RE,RU,RL,if_true,if_false,forall_const,implies_true,Nat.reduceLeDiff,Nat.reduceLT,pureOp,binPure,intBin,strBin,eqPure,isConstO,unPure,sliceLo,sliceHi,slicePure,slice3Pure,lenPure,capPure,minPure,maxPure,buildP,resK,endV,yieldE,↓reduceIte,Nat.reduceEqDiff,reduceCtorEq,Nat.reduceAdd,Nat.reduceMul,Nat.reduceSub,Int.reduceLT,Int.reduceLE,Int.reduceToNat,Int.reduceAdd,Int.reduceSub,Int.reduceMul,ne_eq,decide_true,decide_false,tf3, he5])
        refine snew_ok (fun w3 hT3 g3 => ?_)
        have hs3 := g3.size
        have hglx := hUx.b.lt
        ((repeat rw [c_seq]); try simp -dsimp only [↓RE,RU,RL,if_true,if_false,forall_const,implies_true,Nat.reduceLeDiff,Nat.reduceLT,pureOp,binPure,intBin,strBin,eqPure,isConstO,unPure,sliceLo,sliceHi,slicePure,slice3Pure,lenPure,capPure,minPure,maxPure,buildP,resK,endV,yieldE,↓reduceIte,Nat.reduceEqDiff,reduceCtorEq,Nat.reduceAdd,Nat.reduceMul,Nat.reduceSub,Int.reduceLT,Int.reduceLE,Int.reduceToNat,Int.reduceAdd,Int.reduceSub,Int.reduceMul,ne_eq,decide_true,decide_false,tf3, he5])
        ((repeat rw [c_seq]); try simp -dsimp only [↓RE,RU,RL,if_true,if_false,forall_const,implies_true,Nat.reduceLeDiff,Nat.reduceLT,pureOp,binPure,intBin,strBin,eqPure,isConstO,unPure,sliceLo,sliceHi,slicePure,slice3Pure,lenPure,capPure,minPure,maxPure,buildP,resK,endV,yieldE,↓reduceIte,Nat.reduceEqDiff,reduceCtorEq,Nat.reduceAdd,Nat.reduceMul,Nat.reduceSub,Int.reduceLT,Int.reduceLE,Int.reduceToNat,Int.reduceAdd,Int.reduceSub,Int.reduceMul,ne_eq,decide_true,decide_false,tf3, he5])
        refine sput_ok hT3 (by simp) (fun w4 v4 hT4 k4 f4 => ?_)
        have hUx4 : SerAt w4 g v S := (hUx.grow g3).keep k4 (fun e => by
          rcases e with e | e
          · omega
          · exact fpV_none _ e) (fun q hq e => by
          have := hUx.row.lt q hq
          rcases e with e | e
          · omega
          · exact fpV_none _ e)
        have g4 : Grow w w4 := (gw.trans g3).above k4 (fun q hq e => by
          have := gw.size
          rcases e with e | e
          · omega
          · exact fpV_none _ e)
        have e1 : sPut [] 3 (0, 4) = [(3, (0, 4))] := rfl
        rw [e1] at hT4
        ((repeat rw [c_seq]); try simp -dsimp only [↓RE,RU,RL,if_true,if_false,forall_const,implies_true,Nat.reduceLeDiff,Nat.reduceLT,pureOp,binPure,intBin,strBin,eqPure,isConstO,unPure,sliceLo,sliceHi,slicePure,slice3Pure,lenPure,capPure,minPure,maxPure,buildP,resK,endV,yieldE,↓reduceIte,Nat.reduceEqDiff,reduceCtorEq,Nat.reduceAdd,Nat.reduceMul,Nat.reduceSub,Int.reduceLT,Int.reduceLE,Int.reduceToNat,Int.reduceAdd,Int.reduceSub,Int.reduceMul,ne_eq,decide_true,decide_false,tf3, he5])
        ((repeat rw [c_seq]); try simp -dsimp only [↓RE,RU,RL,if_true,if_false,forall_const,implies_true,Nat.reduceLeDiff,Nat.reduceLT,pureOp,binPure,intBin,strBin,eqPure,isConstO,unPure,sliceLo,sliceHi,slicePure,slice3Pure,lenPure,capPure,minPure,maxPure,buildP,resK,endV,yieldE,↓reduceIte,Nat.reduceEqDiff,reduceCtorEq,Nat.reduceAdd,Nat.reduceMul,Nat.reduceSub,Int.reduceLT,Int.reduceLE,Int.reduceToNat,Int.reduceAdd,Int.reduceSub,Int.reduceMul,ne_eq,decide_true,decide_false,tf3, he5, he10, he13, eq_self, decide_true])
        refine slen_ok hUx4 ?_
        ((repeat rw [c_seq]); try simp -dsimp only [↓RE,RU,RL,if_true,if_false,forall_const,implies_true,Nat.reduceLeDiff,Nat.reduceLT,pureOp,binPure,intBin,strBin,eqPure,isConstO,unPure,sliceLo,sliceHi,slicePure,slice3Pure,lenPure,capPure,minPure,maxPure,buildP,resK,endV,yieldE,↓reduceIte,Nat.reduceEqDiff,reduceCtorEq,Nat.reduceAdd,Nat.reduceMul,Nat.reduceSub,Int.reduceLT,Int.reduceLE,Int.reduceToNat,Int.reduceAdd,Int.reduceSub,Int.reduceMul,ne_eq,decide_true,decide_false,tf3, he13, eq_self, decide_true])
        refine slen_ok hT4 ?_
        repeat (first | rw [c_seq] | simp -dsimp only [↓RE,RU,RL,if_true,if_false,forall_const,implies_true,Nat.reduceLeDiff,Nat.reduceLT,pureOp,binPure,intBin,strBin,eqPure,isConstO,unPure,sliceLo,sliceHi,slicePure,slice3Pure,lenPure,capPure,minPure,maxPure,buildP,resK,endV,yieldE,↓reduceIte,Nat.reduceEqDiff,reduceCtorEq,Nat.reduceAdd,Nat.reduceMul,Nat.reduceSub,Int.reduceLT,Int.reduceLE,Int.reduceToNat,Int.reduceAdd,Int.reduceSub,Int.reduceMul,ne_eq,decide_true,decide_false,tf3, he13, eq_self, decide_true, List.length_cons, List.length_nil])
        exact h w4 g4

end Go.Proofs.Ytifaobnemnbfhaa
