/- The law SeriesOwn, walked. -/
import Derived.Test.YtcnebgokbjpjnaaGreatSit8
set_option linter.unusedVariables false
set_option linter.unusedSimpArgs false
set_option maxRecDepth 100000
namespace Go.Proofs.YtcnebgokbjpjnaaGreat
open Go

theorem LRow.bare (w : World) (e : TypeId) (size : Nat) : LRow (w.alloc (.cells #[] e)) e size (.slice (some ⟨w.heap.size, 0, none⟩) 0 0) 0 [] := by
  have := LRow.of_own (own_new w e size 0 #[] (by simp) (Nat.zero_le _))
  simpa using this
abbrev nil28 : List Value := bkCells (.slice none 0 0) (.slice none 0 0) (.slice none 0 0)
theorem sit_new {w0 w : World} {g g' : Nat} (hP : Pr w g (.slice none 0 0) [] g' (.slice none 0 0) []) (hk : Grow w0 w) (hg : w0.heap.size ≤ g) (hg' : w0.heap.size ≤ g') {w1 : World} (hb : Blk w1 w.heap.size 58 nil28) (k : Grow w w1) :
    Sit w0 w1 w.heap.size g (.slice none 0 0) [] g' (.slice none 0 0) [] [] [] 0 := by
  have hks := hk.size
  refine ⟨hP.grow k, ⟨[], .slice none 0 0, .slice none 0 0, .slice none 0 0, fun _ => [], fun _ => [], fun _ => [], ⟨hb, LRow.nil _ _ _, LRow.nil _ _ _, LRow.nil _ _ _, Held.nil _ _ _ _ _, Held.nil _ _ _ _ _, Held.nil _ _ _ _ _, hks, fun k q => ?_, fun k q => ?_⟩, Nat.zero_le _⟩, Nat.le_refl _, Nat.le_refl _, fun k q => ?_, fun k q => ?_, hk.trans k⟩
  · rcases q with q | q | q <;> exact absurd q (fpV_none k)
  · rcases q with ⟨v, hv, _⟩ | ⟨v, hv, _⟩ | ⟨v, hv, _⟩ <;> cases hv
  · obtain ⟨v, hv, _⟩ := q; cases hv
  · rcases q with (q | q) | (q | q)
    · omega
    · exact absurd q (fpV_none k)
    · omega
    · exact absurd q (fpV_none k)
theorem own8_walk {w : World} {A : Option Addr} {n c : Nat} {ops : List StepV} (hR : Rd w A n 6 (ops.flatMap StepV.cells)) (ho : ∀ o ∈ ops, o.Ok w) (hn : stot ops ≤ 1048576) {R : VWK}
    (h : ∀ w', Grow w w' → R (.bool true) w') : CallsV Tryz.prog 3 [.slice A n c] w R := by
  have hl := hR.steps_len
  have hnl : n ≤ 1048576 := by have := len_stot ops; omega
  refine calls_of_wpC mixed Tryz.func3 rfl (by kernel_rfl) ?_
  intro e he
  have he0 := he 0
  simp only [List.getD_cons_zero, List.getD_cons_succ] at he0
  clear he
  rw [c_seq]
  simp -dsimp only [↓RE,RU,RL,if_true,if_false,forall_const,implies_true,Nat.reduceLeDiff,Nat.reduceLT,pureOp,binPure,intBin,strBin,eqPure,isConstO,unPure,sliceLo,sliceHi,slicePure,slice3Pure,lenPure,capPure,minPure,maxPure,buildP,resK,endV,yieldE,↓reduceIte,Nat.reduceEqDiff,reduceCtorEq,Nat.reduceAdd,Nat.reduceMul,Nat.reduceSub,Int.reduceLT,Int.reduceLE,Int.reduceToNat,Int.reduceAdd,Int.reduceSub,Int.reduceMul,ne_eq,decide_true,decide_false,tf3, he0]
  rw [c_seq, c_seq]
  simp -dsimp only [↓RE,RU,RL,if_true,if_false,forall_const,implies_true,Nat.reduceLeDiff,Nat.reduceLT,pureOp,binPure,intBin,strBin,eqPure,isConstO,unPure,sliceLo,sliceHi,slicePure,slice3Pure,lenPure,capPure,minPure,maxPure,buildP,resK,endV,yieldE,↓reduceIte,Nat.reduceEqDiff,reduceCtorEq,Nat.reduceAdd,Nat.reduceMul,Nat.reduceSub,Int.reduceLT,Int.reduceLE,Int.reduceToNat,Int.reduceAdd,Int.reduceSub,Int.reduceMul,ne_eq,decide_true,decide_false,tf3, he0]
  refine live_ok (fun w1 g1 => ?_)
  simp -dsimp only [↓RE,RU,RL,if_true,if_false,forall_const,implies_true,Nat.reduceLeDiff,Nat.reduceLT,pureOp,binPure,intBin,strBin,eqPure,isConstO,unPure,sliceLo,sliceHi,slicePure,slice3Pure,lenPure,capPure,minPure,maxPure,buildP,resK,endV,yieldE,↓reduceIte,Nat.reduceEqDiff,reduceCtorEq,Nat.reduceAdd,Nat.reduceMul,Nat.reduceSub,Int.reduceLT,Int.reduceLE,Int.reduceToNat,Int.reduceAdd,Int.reduceSub,Int.reduceMul,ne_eq,decide_true,decide_false,tf3, he0]
  rw [c_seq]
  simp -dsimp only [↓RE,RU,RL,if_true,if_false,forall_const,implies_true,Nat.reduceLeDiff,Nat.reduceLT,pureOp,binPure,intBin,strBin,eqPure,isConstO,unPure,sliceLo,sliceHi,slicePure,slice3Pure,lenPure,capPure,minPure,maxPure,buildP,resK,endV,yieldE,↓reduceIte,Nat.reduceEqDiff,reduceCtorEq,Nat.reduceAdd,Nat.reduceMul,Nat.reduceSub,Int.reduceLT,Int.reduceLE,Int.reduceToNat,Int.reduceAdd,Int.reduceSub,Int.reduceMul,ne_eq,decide_true,decide_false,tf3, he0]
  refine snew_ok (fun w2 hS2 g2 => ?_)
  simp -dsimp only [↓RE,RU,RL,if_true,if_false,forall_const,implies_true,Nat.reduceLeDiff,Nat.reduceLT,pureOp,binPure,intBin,strBin,eqPure,isConstO,unPure,sliceLo,sliceHi,slicePure,slice3Pure,lenPure,capPure,minPure,maxPure,buildP,resK,endV,yieldE,↓reduceIte,Nat.reduceEqDiff,reduceCtorEq,Nat.reduceAdd,Nat.reduceMul,Nat.reduceSub,Int.reduceLT,Int.reduceLE,Int.reduceToNat,Int.reduceAdd,Int.reduceSub,Int.reduceMul,ne_eq,decide_true,decide_false,tf3, he0]
  rw [c_seq]
  simp -dsimp only [↓RE,RU,RL,if_true,if_false,forall_const,implies_true,Nat.reduceLeDiff,Nat.reduceLT,pureOp,binPure,intBin,strBin,eqPure,isConstO,unPure,sliceLo,sliceHi,slicePure,slice3Pure,lenPure,capPure,minPure,maxPure,buildP,resK,endV,yieldE,↓reduceIte,Nat.reduceEqDiff,reduceCtorEq,Nat.reduceAdd,Nat.reduceMul,Nat.reduceSub,Int.reduceLT,Int.reduceLE,Int.reduceToNat,Int.reduceAdd,Int.reduceSub,Int.reduceMul,ne_eq,decide_true,decide_false,tf3, he0]
  refine rsnew_ok (fun w3 hS3 g3 => ?_)
  have hs1 := g1.size
  have hs2 := g2.size
  have hs3 := g3.size
  have hP3 : Pr w3 w1.heap.size (.slice none 0 0) [] w2.heap.size (.slice none 0 0) [] := ⟨hS2.grow g3, hS3, fun q hq => (fpV_none _ hq).elim⟩
  have hbb : Blk (w3.alloc (.cells nil28.toArray 58)) w3.heap.size 58 nil28 := Blk.new _ _ _
  have gB := Grow.alloc w3 (.cells nil28.toArray 58)
  generalize hwB : w3.alloc (.cells nil28.toArray 58) = wB at hbb gB
  have hS := sit_new hP3 (g2.trans g3) (Nat.le_refl _) hs2 hbb gB
  have hwB' : w3.alloc (.cells #[.slice none 0 0, .slice none 0 0, .slice none 0 0, .slice none 0 0, .slice none 0 0, .slice none 0 0, .slice none 0 0, .slice none 0 0, .slice none 0 0, .slice none 0 0, .slice none 0 0, .slice none 0 0, .slice none 0 0, .slice none 0 0, .slice none 0 0, .slice none 0 0, .slice none 0 0, .slice none 0 0, .slice none 0 0, .slice none 0 0, .slice none 0 0, .slice none 0 0, .slice none 0 0, .slice none 0 0, .slice none 0 0, .slice none 0 0, .slice none 0 0, .slice none 0 0] 58) = wB := hwB
  generalize hpe : w3.heap.size = p at *
  generalize hge : w1.heap.size = g at *
  generalize hge' : w2.heap.size = g' at *
  simp -dsimp only [↓RE,RU,RL,if_true,if_false,forall_const,implies_true,Nat.reduceLeDiff,Nat.reduceLT,pureOp,binPure,intBin,strBin,eqPure,isConstO,unPure,sliceLo,sliceHi,slicePure,slice3Pure,lenPure,capPure,minPure,maxPure,buildP,resK,endV,yieldE,↓reduceIte,Nat.reduceEqDiff,reduceCtorEq,Nat.reduceAdd,Nat.reduceMul,Nat.reduceSub,Int.reduceLT,Int.reduceLE,Int.reduceToNat,Int.reduceAdd,Int.reduceSub,Int.reduceMul,ne_eq,decide_true,decide_false,tf3, he0]
  rw [c_seq]
  simp -dsimp only [↓RE,RU,RL,if_true,if_false,forall_const,implies_true,Nat.reduceLeDiff,Nat.reduceLT,pureOp,binPure,intBin,strBin,eqPure,isConstO,unPure,sliceLo,sliceHi,slicePure,slice3Pure,lenPure,capPure,minPure,maxPure,buildP,resK,endV,yieldE,↓reduceIte,Nat.reduceEqDiff,reduceCtorEq,Nat.reduceAdd,Nat.reduceMul,Nat.reduceSub,Int.reduceLT,Int.reduceLE,Int.reduceToNat,Int.reduceAdd,Int.reduceSub,Int.reduceMul,ne_eq,decide_true,decide_false,tf3, he0, hwB', hpe]
  refine c_seq_cut (fun e' w' => (e' 0 = .slice A n c ∧ e' 3 = .pointer (some ⟨g, 0, none⟩) ∧ e' 4 = .pointer (some ⟨g', 0, none⟩) ∧ e' 5 = .pointer (some ⟨p, 0, none⟩)) ∧ ∃ (v v' : Value) (v7 v19 : List Value), Sit w1 w' p g v (tRun ops) g' v' (tRun ops) v7 v19 (4 * stot ops) ∧ (tRun ops).length ≤ stot ops) ?_ ?_
  · rw [c_seq]
    simp -dsimp only [↓RE,RU,RL,if_true,if_false,forall_const,implies_true,Nat.reduceLeDiff,Nat.reduceLT,pureOp,binPure,intBin,strBin,eqPure,isConstO,unPure,sliceLo,sliceHi,slicePure,slice3Pure,lenPure,capPure,minPure,maxPure,buildP,resK,endV,yieldE,↓reduceIte,Nat.reduceEqDiff,reduceCtorEq,Nat.reduceAdd,Nat.reduceMul,Nat.reduceSub,Int.reduceLT,Int.reduceLE,Int.reduceToNat,Int.reduceAdd,Int.reduceSub,Int.reduceMul,ne_eq,decide_true,decide_false,tf3, he0, hwB', hpe]
    refine wpLoop_intro (fun e' w' => (e' 0 = .slice A n c ∧ e' 3 = .pointer (some ⟨g, 0, none⟩) ∧ e' 4 = .pointer (some ⟨g', 0, none⟩) ∧ e' 5 = .pointer (some ⟨p, 0, none⟩)) ∧ ∃ (i : Nat) (v v' : Value) (v7 v19 : List Value), i ≤ n ∧ e' 6 = .int .i64 i ∧ Sit w1 w' p g v (tRun (ops.take i)) g' v' (tRun (ops.take i)) v7 v19 (4 * stot (ops.take i)) ∧ (tRun (ops.take i)).length ≤ stot (ops.take i))
      (fun e' _ => n - (envInt (e' 6)).toNat) ⟨⟨by simp -dsimp only [↓RE,RU,RL,if_true,if_false,↓reduceIte,Nat.reduceEqDiff,reduceCtorEq,decide_true,decide_false, he0], by simp -dsimp only [↓RE,RU,RL,if_true,if_false,↓reduceIte,Nat.reduceEqDiff,reduceCtorEq,decide_true,decide_false, he0], by simp -dsimp only [↓RE,RU,RL,if_true,if_false,↓reduceIte,Nat.reduceEqDiff,reduceCtorEq,decide_true,decide_false, he0], by simp -dsimp only [↓RE,RU,RL,if_true,if_false,↓reduceIte,Nat.reduceEqDiff,reduceCtorEq,decide_true,decide_false, he0]⟩, 0, _, _, _, _, Nat.zero_le _, by simp -dsimp only [↓RE,RU,RL,if_true,if_false,↓reduceIte,Nat.reduceEqDiff,reduceCtorEq,decide_true,decide_false, he0, Int.cast_ofNat_Int], hS, Nat.le_refl _⟩ ?_
    clear he0
    rintro e' w' ⟨⟨he0, he3, he4, he5⟩, i, v, v', v7, v19, hi, hei, hS, hPl⟩
    rw [c_seq, c_seq]
    simp -dsimp only [↓RE,RU,RL,if_true,if_false,forall_const,implies_true,Nat.reduceLeDiff,Nat.reduceLT,pureOp,binPure,intBin,strBin,eqPure,isConstO,unPure,sliceLo,sliceHi,slicePure,slice3Pure,lenPure,capPure,minPure,maxPure,buildP,resK,endV,yieldE,↓reduceIte,Nat.reduceEqDiff,reduceCtorEq,Nat.reduceAdd,Nat.reduceMul,Nat.reduceSub,Int.reduceLT,Int.reduceLE,Int.reduceToNat,Int.reduceAdd,Int.reduceSub,Int.reduceMul,ne_eq,decide_true,decide_false,tf3, he0, hei]
    refine ⟨fun hlt => ?_, fun hge => ?_⟩
    · have hin : i < n := by omega
      obtain ⟨ad, rfl⟩ := hR.some (by omega)
      have hoi : (ops.getD i step0).Ok w := by rw [stepD_lt (by omega)]; exact ho _ (List.getElem_mem _)
      have hst := stot_take (ops := ops) (i := i) (by omega)
      have hst2 := stot_le ops (i + 1)
      have hw1 : IntKind.i64.wrap ((i : Int) + 1) = ((i + 1 : Nat) : Int) := by rw [wrap_i64_in (by omega) (by omega)]; omega
      have htr : tRun (ops.take (i + 1)) = tStep (tRun (ops.take i)) (ops.getD i step0) := by rw [take_snoc step0 (by omega), tRun, List.foldl_append]; rfl
      have hcell := fun w2 (k2 : Grow w w2) => (hR.grow k2).stp' hin
      have hsl := tstep_len hS.pr.s.rise (ops.getD i step0) hoi.rd.flat3
      rw [← htr] at hsl
      generalize ops.getD i step0 = o at hoi hst hsl htr hcell
      generalize tRun (ops.take i) = l at hS hPl htr hsl
      have gw := g1.trans hS.gw
      have hgs := gw.size
      have hX := hoi.rd.grow gw
      have hap : 0 < o.m → ∀ q, fpA o.A q → ¬ Fp g v g' v' q := fun h0 q hq e => by
        have := hoi.rd.lt h0 (by omega) q hq
        have := hS.lo q e
        omega
      have hc := hcell w' gw
      have hr0 : ∀ a b, (sRange l a b).length ≤ l.length := fun a b => List.length_filter_le _ _
      have hom := hoi.rd.flat3
      rw [c_seq]
      simp -dsimp only [↓RE,RU,RL,if_true,if_false,forall_const,implies_true,Nat.reduceLeDiff,Nat.reduceLT,pureOp,binPure,intBin,strBin,eqPure,isConstO,unPure,sliceLo,sliceHi,slicePure,slice3Pure,lenPure,capPure,minPure,maxPure,buildP,resK,endV,yieldE,↓reduceIte,Nat.reduceEqDiff,reduceCtorEq,Nat.reduceAdd,Nat.reduceMul,Nat.reduceSub,Int.reduceLT,Int.reduceLE,Int.reduceToNat,Int.reduceAdd,Int.reduceSub,Int.reduceMul,ne_eq,decide_true,decide_false,tf3, he0]
      refine c_seq_cut (fun e' w' => (e' 0 = .slice (some ad) n c ∧ e' 3 = .pointer (some ⟨g, 0, none⟩) ∧ e' 4 = .pointer (some ⟨g', 0, none⟩) ∧ e' 5 = .pointer (some ⟨p, 0, none⟩) ∧ e' 6 = .int .i64 i) ∧ ∃ (v v' : Value) (v7 v19 : List Value), Sit w1 w' p g v (tStep l o) g' v' (tStep l o) v7 v19 (4 * stot (ops.take i) + 1 + o.m)) ?_ ?_
      · rw [c_seq]
        have hc0 : w'.cell? ((ad.add (i * 6)).add 0) = some (.int .i64 o.k) := hc.1
        have hc1 : w'.cell? ((ad.add (i * 6)).add 1) = some (.int .i64 o.t) := hc.2.1
        have hc2 : w'.cell? ((ad.add (i * 6)).add 2) = some (.int .i64 o.u) := hc.2.2.1
        have hc4 : w'.cell? ((ad.add (i * 6)).add 5) = some (.slice o.A o.m o.c) := hc.2.2.2.1
        simp -dsimp only [↓RE,RU,RL,if_true,if_false,forall_const,implies_true,Nat.reduceLeDiff,Nat.reduceLT,pureOp,binPure,intBin,strBin,eqPure,isConstO,unPure,sliceLo,sliceHi,slicePure,slice3Pure,lenPure,capPure,minPure,maxPure,buildP,resK,endV,yieldE,↓reduceIte,Nat.reduceEqDiff,reduceCtorEq,Nat.reduceAdd,Nat.reduceMul,Nat.reduceSub,Int.reduceLT,Int.reduceLE,Int.reduceToNat,Int.reduceAdd,Int.reduceSub,Int.reduceMul,ne_eq,decide_true,decide_false,tf3, he0, hei, hc0]
        refine ⟨by omega, ?_⟩
        rw [c_seq]
        cases hk2 : decide (o.k = 2) with
        | true =>
          have h2 := of_decide_eq_true hk2
          have hts : tStep l o = sDel l o.t o.u := by rw [tStep, if_neg (by omega), if_neg (by omega), if_pos h2]
          simp -dsimp only [↓RE,RU,RL,if_true,if_false,forall_const,implies_true,Nat.reduceLeDiff,Nat.reduceLT,pureOp,binPure,intBin,strBin,eqPure,isConstO,unPure,sliceLo,sliceHi,slicePure,slice3Pure,lenPure,capPure,minPure,maxPure,buildP,resK,endV,yieldE,↓reduceIte,Nat.reduceEqDiff,reduceCtorEq,Nat.reduceAdd,Nat.reduceMul,Nat.reduceSub,Int.reduceLT,Int.reduceLE,Int.reduceToNat,Int.reduceAdd,Int.reduceSub,Int.reduceMul,ne_eq,decide_true,decide_false,tf3, he0, hk2]
          rw [c_seq]
          simp -dsimp only [↓RE,RU,RL,if_true,if_false,forall_const,implies_true,Nat.reduceLeDiff,Nat.reduceLT,pureOp,binPure,intBin,strBin,eqPure,isConstO,unPure,sliceLo,sliceHi,slicePure,slice3Pure,lenPure,capPure,minPure,maxPure,buildP,resK,endV,yieldE,↓reduceIte,Nat.reduceEqDiff,reduceCtorEq,Nat.reduceAdd,Nat.reduceMul,Nat.reduceSub,Int.reduceLT,Int.reduceLE,Int.reduceToNat,Int.reduceAdd,Int.reduceSub,Int.reduceMul,ne_eq,decide_true,decide_false,tf3, he0]
          refine wpDraw_by (Grow w ·) [(0, true), (1, true), (2, true), (3, true), (4, true), (5, true), (6, true), (7, true), (8, true), (9, true), (10, true), (11, true), (12, false), (13, false)] (by kernel_rfl) (gw.trans (Grow.drew w')) ?_
          simp only [planL, List.getElem?_toArray, List.getElem?_cons_zero, List.getElem?_cons_succ, Option.toList_some, List.map_cons, List.map_nil, List.cons_append, List.nil_append]
          simp -dsimp only [↓RE,RU,RL,if_true,if_false,forall_const,implies_true,Nat.reduceLeDiff,Nat.reduceLT,pureOp,binPure,intBin,strBin,eqPure,isConstO,unPure,sliceLo,sliceHi,slicePure,slice3Pure,lenPure,capPure,minPure,maxPure,buildP,resK,endV,yieldE,↓reduceIte,Nat.reduceEqDiff,reduceCtorEq,Nat.reduceAdd,Nat.reduceMul,Nat.reduceSub,Int.reduceLT,Int.reduceLE,Int.reduceToNat,Int.reduceAdd,Int.reduceSub,Int.reduceMul,ne_eq,decide_true,decide_false,tf3, he0, he3, he4, he5, hei]
          refine ⟨by omega, _, fun w2 k2 => (hcell w2 k2).2.1, ?_⟩
          simp -dsimp only [↓RE,RU,RL,if_true,if_false,forall_const,implies_true,Nat.reduceLeDiff,Nat.reduceLT,pureOp,binPure,intBin,strBin,eqPure,isConstO,unPure,sliceLo,sliceHi,slicePure,slice3Pure,lenPure,capPure,minPure,maxPure,buildP,resK,endV,yieldE,↓reduceIte,Nat.reduceEqDiff,reduceCtorEq,Nat.reduceAdd,Nat.reduceMul,Nat.reduceSub,Int.reduceLT,Int.reduceLE,Int.reduceToNat,Int.reduceAdd,Int.reduceSub,Int.reduceMul,ne_eq,decide_true,decide_false,tf3, he0, he3, he4, he5, hei]
          refine ⟨by omega, _, fun w2 k2 => (hcell w2 k2).2.2.1, ?_⟩
          simp -dsimp only [↓RE,RU,RL,if_true,if_false,forall_const,implies_true,Nat.reduceLeDiff,Nat.reduceLT,pureOp,binPure,intBin,strBin,eqPure,isConstO,unPure,sliceLo,sliceHi,slicePure,slice3Pure,lenPure,capPure,minPure,maxPure,buildP,resK,endV,yieldE,↓reduceIte,Nat.reduceEqDiff,reduceCtorEq,Nat.reduceAdd,Nat.reduceMul,Nat.reduceSub,Int.reduceLT,Int.reduceLE,Int.reduceToNat,Int.reduceAdd,Int.reduceSub,Int.reduceMul,ne_eq,decide_true,decide_false,tf3, he0, he3, he4, he5, hei]
          have hSd := hS.grow (Grow.drew w')
          have hq := hr0 o.t o.u
          refine del_ok hSd.pr.s (by omega) (fun w2 v2 A2 a2 hS2 k2 f2 hL2 hF2 => ?_)
          have hT2 := hSd.sStep hS2 k2 f2
          refine ⟨g1.trans hT2.gw, ?_⟩
          simp -dsimp only [↓RE,RU,RL,if_true,if_false,forall_const,implies_true,Nat.reduceLeDiff,Nat.reduceLT,pureOp,binPure,intBin,strBin,eqPure,isConstO,unPure,sliceLo,sliceHi,slicePure,slice3Pure,lenPure,capPure,minPure,maxPure,buildP,resK,endV,yieldE,↓reduceIte,Nat.reduceEqDiff,reduceCtorEq,Nat.reduceAdd,Nat.reduceMul,Nat.reduceSub,Int.reduceLT,Int.reduceLE,Int.reduceToNat,Int.reduceAdd,Int.reduceSub,Int.reduceMul,ne_eq,decide_true,decide_false,tf3, he0, he3, he4, he5, hei]
          refine sit_samples hT2 hL2 (fun k hk => ⟨lo_of hSd.gw (hF2 k hk).1, fun e => by have := hSd.lt7 k e; have := (hF2 k hk).1; omega, ?_⟩) (by omega) (by omega) (fun w3 hT3 => ?_)
          · rintro ((e | e) | (e | e))
            · have := hSd.pr.s.b.lt; have := (hF2 k hk).1; omega
            · exact (hF2 k hk).2 e
            · have := hSd.pr.r.b.lt; have := (hF2 k hk).1; omega
            · have := hSd.pr.r.row.lt k e; have := (hF2 k hk).1; omega
          refine ⟨g1.trans hT3.gw, ?_⟩
          simp -dsimp only [↓RE,RU,RL,if_true,if_false,forall_const,implies_true,Nat.reduceLeDiff,Nat.reduceLT,pureOp,binPure,intBin,strBin,eqPure,isConstO,unPure,sliceLo,sliceHi,slicePure,slice3Pure,lenPure,capPure,minPure,maxPure,buildP,resK,endV,yieldE,↓reduceIte,Nat.reduceEqDiff,reduceCtorEq,Nat.reduceAdd,Nat.reduceMul,Nat.reduceSub,Int.reduceLT,Int.reduceLE,Int.reduceToNat,Int.reduceAdd,Int.reduceSub,Int.reduceMul,ne_eq,decide_true,decide_false,tf3, he0, he3, he4, he5, hei]
          refine wpDraw_by (Grow w ·) [(0, true), (1, true), (2, true), (3, true), (4, true), (5, true), (6, true), (7, true), (8, true), (9, true), (10, true), (11, false)] (by kernel_rfl) ((g1.trans hT3.gw).trans (Grow.drew w3)) ?_
          simp only [planL, List.getElem?_toArray, List.getElem?_cons_zero, List.getElem?_cons_succ, Option.toList_some, List.map_cons, List.map_nil, List.cons_append, List.nil_append]
          simp -dsimp only [↓RE,RU,RL,if_true,if_false,forall_const,implies_true,Nat.reduceLeDiff,Nat.reduceLT,pureOp,binPure,intBin,strBin,eqPure,isConstO,unPure,sliceLo,sliceHi,slicePure,slice3Pure,lenPure,capPure,minPure,maxPure,buildP,resK,endV,yieldE,↓reduceIte,Nat.reduceEqDiff,reduceCtorEq,Nat.reduceAdd,Nat.reduceMul,Nat.reduceSub,Int.reduceLT,Int.reduceLE,Int.reduceToNat,Int.reduceAdd,Int.reduceSub,Int.reduceMul,ne_eq,decide_true,decide_false,tf3, he0, he3, he4, he5, hei]
          refine ⟨by omega, _, fun w2 k2 => (hcell w2 k2).2.1, ?_⟩
          simp -dsimp only [↓RE,RU,RL,if_true,if_false,forall_const,implies_true,Nat.reduceLeDiff,Nat.reduceLT,pureOp,binPure,intBin,strBin,eqPure,isConstO,unPure,sliceLo,sliceHi,slicePure,slice3Pure,lenPure,capPure,minPure,maxPure,buildP,resK,endV,yieldE,↓reduceIte,Nat.reduceEqDiff,reduceCtorEq,Nat.reduceAdd,Nat.reduceMul,Nat.reduceSub,Int.reduceLT,Int.reduceLE,Int.reduceToNat,Int.reduceAdd,Int.reduceSub,Int.reduceMul,ne_eq,decide_true,decide_false,tf3, he0, he3, he4, he5, hei]
          refine ⟨by omega, _, fun w2 k2 => (hcell w2 k2).2.2.1, ?_⟩
          simp -dsimp only [↓RE,RU,RL,if_true,if_false,forall_const,implies_true,Nat.reduceLeDiff,Nat.reduceLT,pureOp,binPure,intBin,strBin,eqPure,isConstO,unPure,sliceLo,sliceHi,slicePure,slice3Pure,lenPure,capPure,minPure,maxPure,buildP,resK,endV,yieldE,↓reduceIte,Nat.reduceEqDiff,reduceCtorEq,Nat.reduceAdd,Nat.reduceMul,Nat.reduceSub,Int.reduceLT,Int.reduceLE,Int.reduceToNat,Int.reduceAdd,Int.reduceSub,Int.reduceMul,ne_eq,decide_true,decide_false,tf3, he0, he3, he4, he5, hei]
          have hT4 := hT3.grow (Grow.drew w3)
          refine rdel_ok hT4.pr.r (by omega) (fun w5 v5 A5 a5 hS5 k5 f5 hL5 hF5 => ?_)
          have hT5 := (hT4.rStep hS5 k5 f5).more (M := 4 * stot (ops.take i) + 1 + o.m) (by omega)
          rw [← hts] at hT5
          refine ⟨g1.trans hT5.gw, ?_⟩
          simp -dsimp only [↓RE,RU,RL,if_true,if_false,forall_const,implies_true,Nat.reduceLeDiff,Nat.reduceLT,pureOp,binPure,intBin,strBin,eqPure,isConstO,unPure,sliceLo,sliceHi,slicePure,slice3Pure,lenPure,capPure,minPure,maxPure,buildP,resK,endV,yieldE,↓reduceIte,Nat.reduceEqDiff,reduceCtorEq,Nat.reduceAdd,Nat.reduceMul,Nat.reduceSub,Int.reduceLT,Int.reduceLE,Int.reduceToNat,Int.reduceAdd,Int.reduceSub,Int.reduceMul,ne_eq,decide_true,decide_false,tf3, hei]
          exact hold_intro ⟨⟨by simp -dsimp only [↓RE,RU,RL,if_true,if_false,↓reduceIte,Nat.reduceEqDiff,reduceCtorEq,decide_true,decide_false, he0], by simp -dsimp only [↓RE,RU,RL,if_true,if_false,↓reduceIte,Nat.reduceEqDiff,reduceCtorEq,decide_true,decide_false, he3], by simp -dsimp only [↓RE,RU,RL,if_true,if_false,↓reduceIte,Nat.reduceEqDiff,reduceCtorEq,decide_true,decide_false, he4], by simp -dsimp only [↓RE,RU,RL,if_true,if_false,↓reduceIte,Nat.reduceEqDiff,reduceCtorEq,decide_true,decide_false, he5], by simp -dsimp only [↓RE,RU,RL,if_true,if_false,↓reduceIte,Nat.reduceEqDiff,reduceCtorEq,decide_true,decide_false, hei]⟩, _, _, _, _, hT5⟩
        | false =>
          have h2 := of_decide_eq_false hk2
          simp -dsimp only [↓RE,RU,RL,if_true,if_false,forall_const,implies_true,Nat.reduceLeDiff,Nat.reduceLT,pureOp,binPure,intBin,strBin,eqPure,isConstO,unPure,sliceLo,sliceHi,slicePure,slice3Pure,lenPure,capPure,minPure,maxPure,buildP,resK,endV,yieldE,↓reduceIte,Nat.reduceEqDiff,reduceCtorEq,Nat.reduceAdd,Nat.reduceMul,Nat.reduceSub,Int.reduceLT,Int.reduceLE,Int.reduceToNat,Int.reduceAdd,Int.reduceSub,Int.reduceMul,ne_eq,decide_true,decide_false,tf3, hk2]
          rw [c_seq]
          cases hk3 : decide (o.k = 3) with
          | true =>
            have h3 := of_decide_eq_true hk3
            have hts : tStep l o = sLoad l o.l := by rw [tStep, if_neg (by omega), if_neg (by omega), if_neg h2, if_pos h3]
            simp -dsimp only [↓RE,RU,RL,if_true,if_false,forall_const,implies_true,Nat.reduceLeDiff,Nat.reduceLT,pureOp,binPure,intBin,strBin,eqPure,isConstO,unPure,sliceLo,sliceHi,slicePure,slice3Pure,lenPure,capPure,minPure,maxPure,buildP,resK,endV,yieldE,↓reduceIte,Nat.reduceEqDiff,reduceCtorEq,Nat.reduceAdd,Nat.reduceMul,Nat.reduceSub,Int.reduceLT,Int.reduceLE,Int.reduceToNat,Int.reduceAdd,Int.reduceSub,Int.reduceMul,ne_eq,decide_true,decide_false,tf3, hk3]
            rw [c_seq]
            simp -dsimp only [↓RE,RU,RL,if_true,if_false,forall_const,implies_true,Nat.reduceLeDiff,Nat.reduceLT,pureOp,binPure,intBin,strBin,eqPure,isConstO,unPure,sliceLo,sliceHi,slicePure,slice3Pure,lenPure,capPure,minPure,maxPure,buildP,resK,endV,yieldE,↓reduceIte,Nat.reduceEqDiff,reduceCtorEq,Nat.reduceAdd,Nat.reduceMul,Nat.reduceSub,Int.reduceLT,Int.reduceLE,Int.reduceToNat,Int.reduceAdd,Int.reduceSub,Int.reduceMul,ne_eq,decide_true,decide_false,tf3, he0, he3, he4, he5, hei]
            have gE := Grow.alloc w' (.cells #[] 89)
            have hE := LRow.bare w' 89 3
            have hcE := (hcell _ (gw.trans gE)).2.2.2.1
            generalize hwE : w'.alloc (.cells #[] 89) = wE at gE hE hcE
            have hEs := gE.size
            refine ⟨by omega, ?_⟩
            simp -dsimp only [↓RE,RU,RL,if_true,if_false,forall_const,implies_true,Nat.reduceLeDiff,Nat.reduceLT,pureOp,binPure,intBin,strBin,eqPure,isConstO,unPure,sliceLo,sliceHi,slicePure,slice3Pure,lenPure,capPure,minPure,maxPure,buildP,resK,endV,yieldE,↓reduceIte,Nat.reduceEqDiff,reduceCtorEq,Nat.reduceAdd,Nat.reduceMul,Nat.reduceSub,Int.reduceLT,Int.reduceLE,Int.reduceToNat,Int.reduceAdd,Int.reduceSub,Int.reduceMul,ne_eq,decide_true,decide_false,tf3, hcE]
            refine appK_l3 (n := 0) (bytes := 24) (by kernel_rfl) hE (hX.grow gE) (fun u hu => scells_one _ u hu) (by simp only [maxLen]; omega) (by omega) (fun A3 c3 w3 hL3 k3 f3 => ?_)
            simp only [List.nil_append, Nat.zero_add] at hL3 f3
            have kg : Grow w' w3 := gE.above k3 (fun q hq e => by rw [fpV_some] at e; have e : q = w'.heap.size := e; omega)
            have hT3 := hS.grow kg
            have f3' : ∀ q, fpA A3 q → w'.heap.size ≤ q := fun q hq => by
              rcases f3 q ((fpV_fpA _ _ _ _).2 hq) with e | e
              · rw [fpV_some] at e; have e : q = w'.heap.size := e; omega
              · omega
            simp -dsimp only [↓RE,RU,RL,if_true,if_false,forall_const,implies_true,Nat.reduceLeDiff,Nat.reduceLT,pureOp,binPure,intBin,strBin,eqPure,isConstO,unPure,sliceLo,sliceHi,slicePure,slice3Pure,lenPure,capPure,minPure,maxPure,buildP,resK,endV,yieldE,↓reduceIte,Nat.reduceEqDiff,reduceCtorEq,Nat.reduceAdd,Nat.reduceMul,Nat.reduceSub,Int.reduceLT,Int.reduceLE,Int.reduceToNat,Int.reduceAdd,Int.reduceSub,Int.reduceMul,ne_eq,decide_true,decide_false,tf3, he0, he3, he4, he5, hei]
            refine sld_ok hT3.pr.s hL3.rd (fun _ q hq => ⟨fun e => by have := f3' q hq; have := hS.pr.s.b.lt; omega, fun e => by have := f3' q hq; have := hS.pr.s.row.lt q e; omega⟩) (by omega) (fun w4 v4 A4 c4 hS4 k4 f4 hD4 hF4 => ?_)
            have hT4 := hT3.sStep hS4 k4 f4
            simp -dsimp only [↓RE,RU,RL,if_true,if_false,forall_const,implies_true,Nat.reduceLeDiff,Nat.reduceLT,pureOp,binPure,intBin,strBin,eqPure,isConstO,unPure,sliceLo,sliceHi,slicePure,slice3Pure,lenPure,capPure,minPure,maxPure,buildP,resK,endV,yieldE,↓reduceIte,Nat.reduceEqDiff,reduceCtorEq,Nat.reduceAdd,Nat.reduceMul,Nat.reduceSub,Int.reduceLT,Int.reduceLE,Int.reduceToNat,Int.reduceAdd,Int.reduceSub,Int.reduceMul,ne_eq,decide_true,decide_false,tf3, he0, he3, he4, he5, hei]
            have hdl := loadD_len l o.l (Nat.le_of_eq hom)
            refine sit_deltas hT4 hD4 (fun k hk => ⟨lo_of hT3.gw (hF4 k hk), fun e => by have := hT3.lt19 k e; have := hF4 k hk; omega⟩) (by omega) (by omega) (fun w5 hT5 => ?_)
            have hcF := (hcell _ (g1.trans hT5.gw)).2.2.2.1
            simp -dsimp only [↓RE,RU,RL,if_true,if_false,forall_const,implies_true,Nat.reduceLeDiff,Nat.reduceLT,pureOp,binPure,intBin,strBin,eqPure,isConstO,unPure,sliceLo,sliceHi,slicePure,slice3Pure,lenPure,capPure,minPure,maxPure,buildP,resK,endV,yieldE,↓reduceIte,Nat.reduceEqDiff,reduceCtorEq,Nat.reduceAdd,Nat.reduceMul,Nat.reduceSub,Int.reduceLT,Int.reduceLE,Int.reduceToNat,Int.reduceAdd,Int.reduceSub,Int.reduceMul,ne_eq,decide_true,decide_false,tf3, he0, he3, he4, he5, hei, hcF]
            refine ⟨by omega, ?_⟩
            refine rload_ok hT5.pr.r (hoi.rd.grow (g1.trans hT5.gw)) (fun h0 q hq => ⟨fun e => ?_, fun e => ?_⟩) (by omega) (fun w6 v6 A6 c6 hS6 k6 f6 hD6 hF6 => ?_)
            · have := hoi.rd.lt h0 (by omega) q hq; have := hT5.lo q (.inr (.inl e)); omega
            · have := hoi.rd.lt h0 (by omega) q hq; have := hT5.lo q (.inr (.inr e)); omega
            have hT6 := (hT5.rStep hS6 k6 f6).more (M := 4 * stot (ops.take i) + 1 + o.m) (by omega)
            rw [← hts] at hT6
            simp -dsimp only [↓RE,RU,RL,if_true,if_false,forall_const,implies_true,Nat.reduceLeDiff,Nat.reduceLT,pureOp,binPure,intBin,strBin,eqPure,isConstO,unPure,sliceLo,sliceHi,slicePure,slice3Pure,lenPure,capPure,minPure,maxPure,buildP,resK,endV,yieldE,↓reduceIte,Nat.reduceEqDiff,reduceCtorEq,Nat.reduceAdd,Nat.reduceMul,Nat.reduceSub,Int.reduceLT,Int.reduceLE,Int.reduceToNat,Int.reduceAdd,Int.reduceSub,Int.reduceMul,ne_eq,decide_true,decide_false,tf3, hei]
            exact hold_intro ⟨⟨by simp -dsimp only [↓RE,RU,RL,if_true,if_false,↓reduceIte,Nat.reduceEqDiff,reduceCtorEq,decide_true,decide_false, he0], by simp -dsimp only [↓RE,RU,RL,if_true,if_false,↓reduceIte,Nat.reduceEqDiff,reduceCtorEq,decide_true,decide_false, he3], by simp -dsimp only [↓RE,RU,RL,if_true,if_false,↓reduceIte,Nat.reduceEqDiff,reduceCtorEq,decide_true,decide_false, he4], by simp -dsimp only [↓RE,RU,RL,if_true,if_false,↓reduceIte,Nat.reduceEqDiff,reduceCtorEq,decide_true,decide_false, he5], by simp -dsimp only [↓RE,RU,RL,if_true,if_false,↓reduceIte,Nat.reduceEqDiff,reduceCtorEq,decide_true,decide_false, hei]⟩, _, _, _, _, hT6⟩
          | false =>
            simp -dsimp only [↓RE,RU,RL,if_true,if_false,forall_const,implies_true,Nat.reduceLeDiff,Nat.reduceLT,pureOp,binPure,intBin,strBin,eqPure,isConstO,unPure,sliceLo,sliceHi,slicePure,slice3Pure,lenPure,capPure,minPure,maxPure,buildP,resK,endV,yieldE,↓reduceIte,Nat.reduceEqDiff,reduceCtorEq,Nat.reduceAdd,Nat.reduceMul,Nat.reduceSub,Int.reduceLT,Int.reduceLE,Int.reduceToNat,Int.reduceAdd,Int.reduceSub,Int.reduceMul,ne_eq,decide_true,decide_false,tf3, hk3]
            rw [c_seq]
            simp -dsimp only [↓RE,RU,RL,if_true,if_false,forall_const,implies_true,Nat.reduceLeDiff,Nat.reduceLT,pureOp,binPure,intBin,strBin,eqPure,isConstO,unPure,sliceLo,sliceHi,slicePure,slice3Pure,lenPure,capPure,minPure,maxPure,buildP,resK,endV,yieldE,↓reduceIte,Nat.reduceEqDiff,reduceCtorEq,Nat.reduceAdd,Nat.reduceMul,Nat.reduceSub,Int.reduceLT,Int.reduceLE,Int.reduceToNat,Int.reduceAdd,Int.reduceSub,Int.reduceMul,ne_eq,decide_true,decide_false,tf3, he0, he3, he4, hei]
            refine ⟨by omega, hc.2.2.2.2.2 ?_⟩
            simp -dsimp only [↓RE,RU,RL,if_true,if_false,forall_const,implies_true,Nat.reduceLeDiff,Nat.reduceLT,pureOp,binPure,intBin,strBin,eqPure,isConstO,unPure,sliceLo,sliceHi,slicePure,slice3Pure,lenPure,capPure,minPure,maxPure,buildP,resK,endV,yieldE,↓reduceIte,Nat.reduceEqDiff,reduceCtorEq,Nat.reduceAdd,Nat.reduceMul,Nat.reduceSub,Int.reduceLT,Int.reduceLE,Int.reduceToNat,Int.reduceAdd,Int.reduceSub,Int.reduceMul,ne_eq,decide_true,decide_false,tf3, he0, he3, he4]
            refine step_ok hS.pr hX hap (by omega) (fun w5 v5 v6 hP5 k5 f5 f6 => ?_)
            have hS5 := (hS.move hP5 k5 f5 f6).more (M := 4 * stot (ops.take i) + 1 + o.m) (by omega)
            simp -dsimp only [↓RE,RU,RL,if_true,if_false,forall_const,implies_true,Nat.reduceLeDiff,Nat.reduceLT,pureOp,binPure,intBin,strBin,eqPure,isConstO,unPure,sliceLo,sliceHi,slicePure,slice3Pure,lenPure,capPure,minPure,maxPure,buildP,resK,endV,yieldE,↓reduceIte,Nat.reduceEqDiff,reduceCtorEq,Nat.reduceAdd,Nat.reduceMul,Nat.reduceSub,Int.reduceLT,Int.reduceLE,Int.reduceToNat,Int.reduceAdd,Int.reduceSub,Int.reduceMul,ne_eq,decide_true,decide_false,tf3, hei]
            exact hold_intro ⟨⟨by simp -dsimp only [↓RE,RU,RL,if_true,if_false,↓reduceIte,Nat.reduceEqDiff,reduceCtorEq,decide_true,decide_false, he0], by simp -dsimp only [↓RE,RU,RL,if_true,if_false,↓reduceIte,Nat.reduceEqDiff,reduceCtorEq,decide_true,decide_false, he3], by simp -dsimp only [↓RE,RU,RL,if_true,if_false,↓reduceIte,Nat.reduceEqDiff,reduceCtorEq,decide_true,decide_false, he4], by simp -dsimp only [↓RE,RU,RL,if_true,if_false,↓reduceIte,Nat.reduceEqDiff,reduceCtorEq,decide_true,decide_false, he5], by simp -dsimp only [↓RE,RU,RL,if_true,if_false,↓reduceIte,Nat.reduceEqDiff,reduceCtorEq,decide_true,decide_false, hei]⟩, _, _, _, _, hS5⟩
      · have hei0 := hei
        clear he0 he3 he4 he5 hei hS hc hX hap hgs gw
        rintro e w2 ⟨⟨he0, he3, he4, he5, hei⟩, v, v', v7, v19, hS⟩
        rw [← htr] at hS
        generalize hle : tRun (ops.take (i + 1)) = l' at hS hsl
        have hr1 : ∀ a b, (sRange l' a b).length ≤ l'.length := fun a b => List.length_filter_le _ _
        rw [c_seq]
        simp -dsimp only [↓RE,RU,RL,if_true,if_false,forall_const,implies_true,Nat.reduceLeDiff,Nat.reduceLT,pureOp,binPure,intBin,strBin,eqPure,isConstO,unPure,sliceLo,sliceHi,slicePure,slice3Pure,lenPure,capPure,minPure,maxPure,buildP,resK,endV,yieldE,↓reduceIte,Nat.reduceEqDiff,reduceCtorEq,Nat.reduceAdd,Nat.reduceMul,Nat.reduceSub,Int.reduceLT,Int.reduceLE,Int.reduceToNat,Int.reduceAdd,Int.reduceSub,Int.reduceMul,ne_eq,decide_true,decide_false,tf3, he3, he5]
        refine range_ok hS.pr.s (by omega) (fun w3 A3 a3 g3 hL3 hF3 => ?_)
        have hS3 := hS.grow g3
        have hq3 := hr1 (-9223372036854775808) 9223372036854775807
        simp -dsimp only [↓RE,RU,RL,if_true,if_false,forall_const,implies_true,Nat.reduceLeDiff,Nat.reduceLT,pureOp,binPure,intBin,strBin,eqPure,isConstO,unPure,sliceLo,sliceHi,slicePure,slice3Pure,lenPure,capPure,minPure,maxPure,buildP,resK,endV,yieldE,↓reduceIte,Nat.reduceEqDiff,reduceCtorEq,Nat.reduceAdd,Nat.reduceMul,Nat.reduceSub,Int.reduceLT,Int.reduceLE,Int.reduceToNat,Int.reduceAdd,Int.reduceSub,Int.reduceMul,ne_eq,decide_true,decide_false,tf3, he5]
        refine sit_samples hS3 hL3 (fun k hk => ⟨lo_of hS.gw (hF3 k hk), fun e => by have := hS.lt7 k e; have := hF3 k hk; omega, fun e => by have := hS.pr.lt k e; have := hF3 k hk; omega⟩) (by omega) (by omega) (fun w4 hS4 => ?_)
        have hc1 : w4.cell? ((ad.add (i * 6)).add 1) = some (.int .i64 o.t) := (hcell w4 (g1.trans hS4.gw)).2.1
        simp -dsimp only [↓RE,RU,RL,if_true,if_false,forall_const,implies_true,Nat.reduceLeDiff,Nat.reduceLT,pureOp,binPure,intBin,strBin,eqPure,isConstO,unPure,sliceLo,sliceHi,slicePure,slice3Pure,lenPure,capPure,minPure,maxPure,buildP,resK,endV,yieldE,↓reduceIte,Nat.reduceEqDiff,reduceCtorEq,Nat.reduceAdd,Nat.reduceMul,Nat.reduceSub,Int.reduceLT,Int.reduceLE,Int.reduceToNat,Int.reduceAdd,Int.reduceSub,Int.reduceMul,ne_eq,decide_true,decide_false,tf3, hei]
        rw [c_seq]
        simp -dsimp only [↓RE,RU,RL,if_true,if_false,forall_const,implies_true,Nat.reduceLeDiff,Nat.reduceLT,pureOp,binPure,intBin,strBin,eqPure,isConstO,unPure,sliceLo,sliceHi,slicePure,slice3Pure,lenPure,capPure,minPure,maxPure,buildP,resK,endV,yieldE,↓reduceIte,Nat.reduceEqDiff,reduceCtorEq,Nat.reduceAdd,Nat.reduceMul,Nat.reduceSub,Int.reduceLT,Int.reduceLE,Int.reduceToNat,Int.reduceAdd,Int.reduceSub,Int.reduceMul,ne_eq,decide_true,decide_false,tf3, he0, he3, he5, hei, hc1]
        refine ⟨by omega, ?_⟩
        refine range_ok hS4.pr.s (by omega) (fun w5 A5 a5 g5 hL5 hF5 => ?_)
        have hS5 := hS4.grow g5
        have hq5 := hr1 (-9223372036854775808) o.t
        simp -dsimp only [↓RE,RU,RL,if_true,if_false,forall_const,implies_true,Nat.reduceLeDiff,Nat.reduceLT,pureOp,binPure,intBin,strBin,eqPure,isConstO,unPure,sliceLo,sliceHi,slicePure,slice3Pure,lenPure,capPure,minPure,maxPure,buildP,resK,endV,yieldE,↓reduceIte,Nat.reduceEqDiff,reduceCtorEq,Nat.reduceAdd,Nat.reduceMul,Nat.reduceSub,Int.reduceLT,Int.reduceLE,Int.reduceToNat,Int.reduceAdd,Int.reduceSub,Int.reduceMul,ne_eq,decide_true,decide_false,tf3, he5]
        refine sit_samples hS5 hL5 (fun k hk => ⟨lo_of hS4.gw (hF5 k hk), fun e => by have := hS4.lt7 k e; have := hF5 k hk; omega, fun e => by have := hS4.pr.lt k e; have := hF5 k hk; omega⟩) (by omega) (by omega) (fun w6 hS6 => ?_)
        have hc1 : w6.cell? ((ad.add (i * 6)).add 1) = some (.int .i64 o.t) := (hcell w6 (g1.trans hS6.gw)).2.1
        simp -dsimp only [↓RE,RU,RL,if_true,if_false,forall_const,implies_true,Nat.reduceLeDiff,Nat.reduceLT,pureOp,binPure,intBin,strBin,eqPure,isConstO,unPure,sliceLo,sliceHi,slicePure,slice3Pure,lenPure,capPure,minPure,maxPure,buildP,resK,endV,yieldE,↓reduceIte,Nat.reduceEqDiff,reduceCtorEq,Nat.reduceAdd,Nat.reduceMul,Nat.reduceSub,Int.reduceLT,Int.reduceLE,Int.reduceToNat,Int.reduceAdd,Int.reduceSub,Int.reduceMul,ne_eq,decide_true,decide_false,tf3, he0, he3, he5, hei, hc1]
        refine ⟨by omega, ?_⟩
        refine range_ok hS6.pr.s (by omega) (fun w7 A7 a7 g7 hL7 hF7 => ?_)
        have hS7 := hS6.grow g7
        have hq7 := hr1 o.t 9223372036854775807
        simp -dsimp only [↓RE,RU,RL,if_true,if_false,forall_const,implies_true,Nat.reduceLeDiff,Nat.reduceLT,pureOp,binPure,intBin,strBin,eqPure,isConstO,unPure,sliceLo,sliceHi,slicePure,slice3Pure,lenPure,capPure,minPure,maxPure,buildP,resK,endV,yieldE,↓reduceIte,Nat.reduceEqDiff,reduceCtorEq,Nat.reduceAdd,Nat.reduceMul,Nat.reduceSub,Int.reduceLT,Int.reduceLE,Int.reduceToNat,Int.reduceAdd,Int.reduceSub,Int.reduceMul,ne_eq,decide_true,decide_false,tf3, he5]
        refine sit_samples hS7 hL7 (fun k hk => ⟨lo_of hS6.gw (hF7 k hk), fun e => by have := hS6.lt7 k e; have := hF7 k hk; omega, fun e => by have := hS6.pr.lt k e; have := hF7 k hk; omega⟩) (by omega) (by omega) (fun w8 hS8 => ?_)
        simp -dsimp only [↓RE,RU,RL,if_true,if_false,forall_const,implies_true,Nat.reduceLeDiff,Nat.reduceLT,pureOp,binPure,intBin,strBin,eqPure,isConstO,unPure,sliceLo,sliceHi,slicePure,slice3Pure,lenPure,capPure,minPure,maxPure,buildP,resK,endV,yieldE,↓reduceIte,Nat.reduceEqDiff,reduceCtorEq,Nat.reduceAdd,Nat.reduceMul,Nat.reduceSub,Int.reduceLT,Int.reduceLE,Int.reduceToNat,Int.reduceAdd,Int.reduceSub,Int.reduceMul,ne_eq,decide_true,decide_false,tf3, hei, hw1]
        have hS8 := hS8.more (M := 4 * stot (ops.take (i + 1))) (by omega)
        rw [← hle] at hS8 hsl
        refine hold_intro ⟨⟨⟨by simp -dsimp only [↓RE,RU,RL,if_true,if_false,↓reduceIte,Nat.reduceEqDiff,reduceCtorEq,decide_true,decide_false, he0], by simp -dsimp only [↓RE,RU,RL,if_true,if_false,↓reduceIte,Nat.reduceEqDiff,reduceCtorEq,decide_true,decide_false, he3], by simp -dsimp only [↓RE,RU,RL,if_true,if_false,↓reduceIte,Nat.reduceEqDiff,reduceCtorEq,decide_true,decide_false, he4], by simp -dsimp only [↓RE,RU,RL,if_true,if_false,↓reduceIte,Nat.reduceEqDiff,reduceCtorEq,decide_true,decide_false, he5]⟩, i + 1, v, v', _, _, by omega, by simp -dsimp only [↓RE,RU,RL,if_true,if_false,↓reduceIte,Nat.reduceEqDiff,reduceCtorEq,decide_true,decide_false, hei, hw1], hS8, by omega⟩, ?_⟩
        simp -dsimp only [↓RE,↓c_seq,RU,RL,if_true,if_false,forall_const,implies_true,Nat.reduceLeDiff,Nat.reduceLT,pureOp,binPure,intBin,strBin,eqPure,isConstO,unPure,sliceLo,sliceHi,slicePure,slice3Pure,lenPure,capPure,minPure,maxPure,buildP,resK,endV,yieldE,↓reduceIte,Nat.reduceEqDiff,reduceCtorEq,Nat.reduceAdd,Nat.reduceMul,Nat.reduceSub,Int.reduceLT,Int.reduceLE,Int.reduceToNat,Int.reduceAdd,Int.reduceSub,Int.reduceMul,ne_eq,decide_true,decide_false,tf3, hei, hw1, hei0]
        simp only [envInt_int]; omega
    · obtain rfl : i = n := by omega
      rw [← hl, List.take_length] at hS hPl
      exact hold_intro ⟨⟨by simp -dsimp only [↓RE,RU,RL,if_true,if_false,↓reduceIte,Nat.reduceEqDiff,reduceCtorEq,decide_true,decide_false, he0], by simp -dsimp only [↓RE,RU,RL,if_true,if_false,↓reduceIte,Nat.reduceEqDiff,reduceCtorEq,decide_true,decide_false, he3], by simp -dsimp only [↓RE,RU,RL,if_true,if_false,↓reduceIte,Nat.reduceEqDiff,reduceCtorEq,decide_true,decide_false, he4], by simp -dsimp only [↓RE,RU,RL,if_true,if_false,↓reduceIte,Nat.reduceEqDiff,reduceCtorEq,decide_true,decide_false, he5]⟩, v, v', v7, v19, hS, hPl⟩
  · clear he0
    rintro e w' ⟨⟨he0, he3, he4, he5⟩, v, v', v7, v19, hS, hPl⟩
    obtain ⟨v5, s5, s7, s19, c5, c7, c19, hk, hn5⟩ := hS.bk
    rw [c_seq]
    simp -dsimp only [↓RE,RU,RL,if_true,if_false,forall_const,implies_true,Nat.reduceLeDiff,Nat.reduceLT,pureOp,binPure,intBin,strBin,eqPure,isConstO,unPure,sliceLo,sliceHi,slicePure,slice3Pure,lenPure,capPure,minPure,maxPure,buildP,resK,endV,yieldE,↓reduceIte,Nat.reduceEqDiff,reduceCtorEq,Nat.reduceAdd,Nat.reduceMul,Nat.reduceSub,Int.reduceLT,Int.reduceLE,Int.reduceToNat,Int.reduceAdd,Int.reduceSub,Int.reduceMul,ne_eq,decide_true,decide_false,tf3, he5]
    have hn7 := hS.n7
    have hn19 := hS.n19
    refine alone_ok hk (by omega) (by omega) (by omega) (fun w6 k6 => ?_)
    have hP6 := hS.pr.keep k6 (fun q hq e => by
      rcases e with e | e | e | e
      · exact hS.pr.no hk.b (by decide) (by decide) (by decide) (e ▸ hq)
      · exact hS.pr.no_held hk.h5 (by decide) (by decide) (by decide) q e hq
      · exact hS.ap q e hq
      · exact hS.pr.no_held hk.h19 (by decide) (by decide) (by decide) q e hq)
    have g6 : Grow w1 w6 := hS.gw.above k6 (fun q hq e => by
      have hfp := hk.fp
      rcases e with e | e
      · omega
      · have := hk.fl q e; omega)
    have g06 := g1.trans g6
    simp -dsimp only [↓RE,RU,RL,if_true,if_false,forall_const,implies_true,Nat.reduceLeDiff,Nat.reduceLT,pureOp,binPure,intBin,strBin,eqPure,isConstO,unPure,sliceLo,sliceHi,slicePure,slice3Pure,lenPure,capPure,minPure,maxPure,buildP,resK,endV,yieldE,↓reduceIte,Nat.reduceEqDiff,reduceCtorEq,Nat.reduceAdd,Nat.reduceMul,Nat.reduceSub,Int.reduceLT,Int.reduceLE,Int.reduceToNat,Int.reduceAdd,Int.reduceSub,Int.reduceMul,ne_eq,decide_true,decide_false,tf3, he0, he3, he4]
    refine named_ok (hR.grow g06) (fun o h => (ho o h).grow g06) (by omega) (fun w7 At ct ts hT hTl g7 hTf => ?_)
    simp -dsimp only [↓RE,RU,RL,if_true,if_false,forall_const,implies_true,Nat.reduceLeDiff,Nat.reduceLT,pureOp,binPure,intBin,strBin,eqPure,isConstO,unPure,sliceLo,sliceHi,slicePure,slice3Pure,lenPure,capPure,minPure,maxPure,buildP,resK,endV,yieldE,↓reduceIte,Nat.reduceEqDiff,reduceCtorEq,Nat.reduceAdd,Nat.reduceMul,Nat.reduceSub,Int.reduceLT,Int.reduceLE,Int.reduceToNat,Int.reduceAdd,Int.reduceSub,Int.reduceMul,ne_eq,decide_true,decide_false,tf3, he3, he4]
    refine alike_ok (hP6.grow g7) hT.rd (by omega) (by omega) (fun w8 g8 => ?_)
    try simp -dsimp only [↓RE,↓c_seq,RU,RL,if_true,if_false,forall_const,implies_true,Nat.reduceLeDiff,Nat.reduceLT,pureOp,binPure,intBin,strBin,eqPure,isConstO,unPure,sliceLo,sliceHi,slicePure,slice3Pure,lenPure,capPure,minPure,maxPure,buildP,resK,endV,yieldE,↓reduceIte,Nat.reduceEqDiff,reduceCtorEq,Nat.reduceAdd,Nat.reduceMul,Nat.reduceSub,Int.reduceLT,Int.reduceLE,Int.reduceToNat,Int.reduceAdd,Int.reduceSub,Int.reduceMul,ne_eq,decide_true,decide_false,tf3, eq_self]
    exact h w8 ((g06.trans g7).trans g8)
end Go.Proofs.YtcnebgokbjpjnaaGreat
