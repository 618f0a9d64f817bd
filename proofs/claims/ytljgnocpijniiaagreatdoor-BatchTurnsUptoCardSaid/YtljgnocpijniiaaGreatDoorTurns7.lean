/- The law BatchTurns, walked. -/
import Derived.Test.YtljgnocpijniiaaGreatDoorLives
import Derived.Test.YtljgnocpijniiaaGreatDoorPtRow
import Derived.Test.YtljgnocpijniiaaGreatDoorMerge7
import Derived.Test.YtljgnocpijniiaaGreatDoorPureS
import Derived.Test.YtljgnocpijniiaaGreatDoorDraws
import Derived.Test.YtljgnocpijniiaaGreatDoorRowSet
set_option linter.unusedVariables false
set_option linter.unusedSimpArgs false
set_option maxRecDepth 100000
namespace Go.Proofs.YtljgnocpijniiaaGreatDoor
open Go

theorem swap_perm {α : Type} : ∀ (l : List α) (k : Nat) (d : α), k < l.length → ((l.set 0 (l.getD k d)).set k (l.getD 0 d)).Perm l
  | [], k, d, h => by simp at h
  | a :: r, 0, d, _ => by simp
  | a :: r, k + 1, d, h => by
    have hk : k < r.length := by simpa using h
    have e1 : (a :: r).getD (k + 1) d = r[k] := by simp [List.getD_eq_getElem?_getD, hk]
    have e0 : (a :: r).getD 0 d = a := rfl
    rw [e1, e0, List.set_cons_zero, List.set_cons_succ]
    have e2 : r.set k a = r.take k ++ a :: r.drop (k + 1) := by rw [List.set_eq_take_append_cons_drop, if_pos hk]
    have e3 : r = r.take k ++ r[k] :: r.drop (k + 1) := by rw [← List.drop_eq_getElem_cons hk, List.take_append_drop]
    rw [e2]
    refine (List.Perm.cons _ List.perm_middle).trans ((List.Perm.swap _ _ _).trans (List.Perm.cons _ ?_))
    refine List.Perm.trans ?_ (List.Perm.of_eq e3.symm)
    exact List.perm_middle.symm
def sumK (l : List PtV) : Nat := (l.map PtV.k).sum
theorem sumK_snoc (l : List PtV) (x : PtV) : sumK (l ++ [x]) = sumK l + x.k := by simp [sumK]
theorem sumK_le : ∀ (l : List PtV), (∀ x ∈ l, x.k ≤ 1048576) → sumK l ≤ l.length * 1048576
  | [], _ => by simp [sumK]
  | x :: l, h => by
    have h1 := h x List.mem_cons_self
    have h2 := sumK_le l (fun y hy => h y (List.mem_cons_of_mem _ hy))
    simp only [sumK, List.map_cons, List.sum_cons, List.length_cons] at h2 ⊢
    omega
theorem flat_sum {w : World} : ∀ (l : List PtV), (∀ x ∈ l, x.Ok w) → (flatW (l.map PtV.p)).length = sumK l
  | [], _ => rfl
  | x :: l, h => by
    have h1 := (h x List.mem_cons_self).fields.flen
    have h2 := flat_sum l (fun y hy => h y (List.mem_cons_of_mem _ hy))
    simp only [flatW, sumK, List.map_cons, List.sum_cons, List.flatMap_cons, List.length_append, ptW, List.length_map] at h2 ⊢
    omega
theorem flatW_perm {l m : List Pt} (h : l.Perm m) : (flatW l).Perm (flatW m) := h.flatMap_right _
theorem checkE_perm {l m : List Pt} (h : l.Perm m) (h1 : checkE l = none) : checkE m = none := by
  obtain ⟨hl, a⟩ := check_few h1
  unfold checkE
  rw [if_neg (by rw [← h.length_eq]; omega)]
  exact firstE_none (fun q hq => a q (h.mem_iff.2 hq))
theorem flatL_none' {l : List Pt} (h : checkE l = none) : flatL l = wOrd (flatW l) := by unfold flatL; rw [h]; rfl
theorem turn_eq {l m : List Pt} (h1 : checkE l = none) (hl : (flatL l).length = (flatW l).length) (p : m.Perm l) : checkE m = none ∧ flatL m = flatL l := by
  have h2 := checkE_perm p.symm h1
  refine ⟨h2, ?_⟩
  rw [flatL_none' h1] at hl ⊢
  rw [flatL_none' h2]
  have hu : Uniq cmpW (flatW l) := (load_full cmpW_cmp _).1 hl
  exact (load_turn cmpW_cmp hu (flatW_perm p.symm)).symm
set_option maxHeartbeats 8000000 in
theorem turns_walk {w : World} {A B : Option Addr} {n c m d : Nat} {X : List PtV} {T : List Int} (hX : RdP w A n X) (hoX : ∀ x ∈ X, x.Ok w ∧ x.n ≤ 1048576 ∧ x.k ≤ 1048576) (hn : n ≤ 1048576) (hB : Rd w B m 1 (T.map (Value.int .i64))) (hT0 : ∀ z ∈ T, -9223372036854775808 ≤ z ∧ z < 9223372036854775808) (hm : m ≤ 1048576) (hL : Lay w) (hT : Tabs w) {R : VWK}
    (h : ∀ w', Grow w w' → R (.bool true) w') : CallsV Tryz.prog 6 [.slice A n c, .slice B m d] w R := by
  have hXl := hX.plen
  have hTl := hB.len1
  have hoX0 : ∀ x ∈ X, x.Ok w := fun x hx => (hoX x hx).1
  have hsum := fun k => sumK_le (X.take k) (fun x hx => (hoX x (List.mem_of_mem_take hx)).2.2)
  have hfs := flat_sum X hoX0
  refine calls_of_wpC mixed Tryz.func6 rfl (by kernel_rfl) ?_
  intro e he
  have he0 := he 0
  have he1 := he 1
  simp only [List.getD_cons_zero, List.getD_cons_succ] at he0 he1
  clear he
  repeat (first | rw [c_seq] | simp -dsimp only [↓RE,RU,RL,if_true,if_false,forall_const,implies_true,Nat.reduceLeDiff,Nat.reduceLT,pureOp,binPure,intBin,strBin,eqPure,isConstO,unPure,sliceLo,sliceHi,slicePure,slice3Pure,lenPure,capPure,minPure,maxPure,buildP,resK,endV,yieldE,↓reduceIte,Nat.reduceEqDiff,reduceCtorEq,Nat.reduceAdd,Nat.reduceMul,Nat.reduceSub,Int.reduceLT,Int.reduceLE,Int.reduceToNat,Int.reduceAdd,Int.reduceSub,Int.reduceMul,ne_eq,decide_true,decide_false,tf6, he0, he1])
  refine bflat_ok hX hoX0 (by omega) hT (fun w1 v1 D1 hD1 g1 => ?_)
  obtain ⟨A1, c1, rfl, _, _⟩ := hD1.row.form
  repeat (first | rw [c_seq] | simp -dsimp only [↓RE,RU,RL,if_true,if_false,forall_const,implies_true,Nat.reduceLeDiff,Nat.reduceLT,pureOp,binPure,intBin,strBin,eqPure,isConstO,unPure,sliceLo,sliceHi,slicePure,slice3Pure,lenPure,capPure,minPure,maxPure,buildP,resK,endV,yieldE,↓reduceIte,Nat.reduceEqDiff,reduceCtorEq,Nat.reduceAdd,Nat.reduceMul,Nat.reduceSub,Int.reduceLT,Int.reduceLE,Int.reduceToNat,Int.reduceAdd,Int.reduceSub,Int.reduceMul,ne_eq,decide_true,decide_false,tf6, he0, he1])
  refine wpLoop_intro (fun e' w' => w' = w1 ∧ (e' 0 = .slice A n c ∧ e' 1 = .slice B m d ∧ e' 5 = .slice A1 D1.length c1 ∧ e' 6 = errOf (checkE (X.map PtV.p))) ∧ ∃ k : Nat, k ≤ n ∧ e' 8 = .int .i64 (k : Int) ∧ e' 7 = .int .i64 ((sumK (X.take k) : Nat) : Int))
    (fun e' _ => n - (envInt (e' 8)).toNat) ⟨rfl, ⟨?_, ?_, ?_, ?_⟩, 0, Nat.zero_le _, ?_, ?_⟩ ?_
  · simp -dsimp only [↓RE,RU,RL,if_true,if_false,↓reduceIte,Nat.reduceEqDiff,reduceCtorEq,decide_true,decide_false, he0]
  · simp -dsimp only [↓RE,RU,RL,if_true,if_false,↓reduceIte,Nat.reduceEqDiff,reduceCtorEq,decide_true,decide_false, he1]
  · simp -dsimp only [↓RE,RU,RL,if_true,if_false,↓reduceIte,Nat.reduceEqDiff,reduceCtorEq,decide_true,decide_false, he0]
  · simp -dsimp only [↓RE,RU,RL,if_true,if_false,↓reduceIte,Nat.reduceEqDiff,reduceCtorEq,decide_true,decide_false, he0]
  · simp -dsimp only [↓RE,RU,RL,if_true,if_false,↓reduceIte,Nat.reduceEqDiff,reduceCtorEq,decide_true,decide_false, he0]
    rfl
  · simp -dsimp only [↓RE,RU,RL,if_true,if_false,↓reduceIte,Nat.reduceEqDiff,reduceCtorEq,decide_true,decide_false, he0]
    rfl
  clear he0 he1 e
  rintro e w1' ⟨rfl, ⟨he0, he1, he5, he6⟩, k, hk, he8, he7⟩
  have hsk := hsum k
  rw [List.length_take] at hsk
  rcases Nat.lt_or_ge k n with hlt | hge
  · have hdk : decide ((k : Int) < (n : Int)) = true := decide_eq_true (by omega)
    have hw1 : IntKind.i64.wrap ((k : Int) + 1) = ((k + 1 : Nat) : Int) := by rw [wrap_i64_in (by omega) (by omega)]; omega
    have hmu : (envInt (e 8)).toNat = k := by rw [he8]; exact Int.toNat_natCast k
    obtain ⟨ad, rfl⟩ : ∃ ad, A = some ad := by
      obtain ⟨ad, e, _⟩ := hX.2 (by omega)
      exact ⟨ad, e⟩
    have hcs := (Rd.grow hX g1).pt hlt
    have hxk := (hoX _ (getP_mem (l := X) (k := k) (by omega))).2.2
    have hsn := ptk_snoc (l := X) (k := k) (by omega)
    generalize X.getD k p00 = x at hcs hxk hsn
    have c2 : w1'.cell? ((ad.add (k * 4)).add 2) = some (.slice x.B x.k x.d) := hcs 2 _ rfl
    have hws : IntKind.i64.wrap ((sumK (X.take k) : Nat) + (x.k : Int)) = ((sumK (X.take (k + 1)) : Nat) : Int) := by
      have hb : sumK (X.take k) ≤ 1048576 * 1048576 := Nat.le_trans hsk (Nat.mul_le_mul_right _ (by omega))
      rw [hsn, sumK_snoc, wrap_i64_in (by omega) (by omega)]; omega
    repeat (first | rw [c_seq] | simp -dsimp only [↓RE,RU,RL,if_true,if_false,forall_const,implies_true,Nat.reduceLeDiff,Nat.reduceLT,pureOp,binPure,intBin,strBin,eqPure,isConstO,unPure,sliceLo,sliceHi,slicePure,slice3Pure,lenPure,capPure,minPure,maxPure,buildP,resK,endV,yieldE,↓reduceIte,Nat.reduceEqDiff,reduceCtorEq,Nat.reduceAdd,Nat.reduceMul,Nat.reduceSub,Int.reduceLT,Int.reduceLE,Int.reduceToNat,Int.reduceAdd,Int.reduceSub,Int.reduceMul,ne_eq,decide_true,decide_false,tf6, he0, he7, he8, hdk, Int.toNat_natCast, c2, hws, hw1])
    refine ⟨⟨by omega, by omega⟩, ?_⟩
    repeat (first | rw [c_seq] | simp -dsimp only [↓RE,RU,RL,if_true,if_false,forall_const,implies_true,Nat.reduceLeDiff,Nat.reduceLT,pureOp,binPure,intBin,strBin,eqPure,isConstO,unPure,sliceLo,sliceHi,slicePure,slice3Pure,lenPure,capPure,minPure,maxPure,buildP,resK,endV,yieldE,↓reduceIte,Nat.reduceEqDiff,reduceCtorEq,Nat.reduceAdd,Nat.reduceMul,Nat.reduceSub,Int.reduceLT,Int.reduceLE,Int.reduceToNat,Int.reduceAdd,Int.reduceSub,Int.reduceMul,ne_eq,decide_true,decide_false,tf6, he0, he7, he8, hdk, Int.toNat_natCast, c2, hws, hw1])
    refine hold_intro ⟨⟨rfl, ⟨?_, ?_, ?_, ?_⟩, k + 1, hlt, ?_, ?_⟩, ?_⟩
    · simp -dsimp only [↓RE,RU,RL,if_true,if_false,↓reduceIte,Nat.reduceEqDiff,reduceCtorEq,decide_true,decide_false, he0]
    · simp -dsimp only [↓RE,RU,RL,if_true,if_false,↓reduceIte,Nat.reduceEqDiff,reduceCtorEq,decide_true,decide_false, he1]
    · simp -dsimp only [↓RE,RU,RL,if_true,if_false,↓reduceIte,Nat.reduceEqDiff,reduceCtorEq,decide_true,decide_false, he5]
    · simp -dsimp only [↓RE,RU,RL,if_true,if_false,↓reduceIte,Nat.reduceEqDiff,reduceCtorEq,decide_true,decide_false, he6]
    · simp -dsimp only [↓RE,RU,RL,if_true,if_false,↓reduceIte,Nat.reduceEqDiff,reduceCtorEq,decide_true,decide_false, hw1]
    · simp -dsimp only [↓RE,RU,RL,if_true,if_false,↓reduceIte,Nat.reduceEqDiff,reduceCtorEq,decide_true,decide_false, hws]
    · rw [hmu]
      simp -dsimp only [↓RE,↓c_seq,RU,RL,if_true,if_false,forall_const,implies_true,Nat.reduceLeDiff,Nat.reduceLT,pureOp,binPure,intBin,strBin,eqPure,isConstO,unPure,sliceLo,sliceHi,slicePure,slice3Pure,lenPure,capPure,minPure,maxPure,buildP,resK,endV,yieldE,↓reduceIte,Nat.reduceEqDiff,reduceCtorEq,Nat.reduceAdd,Nat.reduceMul,Nat.reduceSub,Int.reduceLT,Int.reduceLE,Int.reduceToNat,Int.reduceAdd,Int.reduceSub,Int.reduceMul,ne_eq,decide_true,decide_false,tf6, hw1]
      simp only [envInt_int]; omega
  · have hdk : decide ((k : Int) < (n : Int)) = false := decide_eq_false (by omega)
    rw [List.take_of_length_le (by omega)] at he7
    have hL1 := hL.grow g1
    have hT1 := hT.grow g1
    repeat (first | rw [c_seq] | simp -dsimp only [↓RE,RU,RL,if_true,if_false,forall_const,implies_true,Nat.reduceLeDiff,Nat.reduceLT,pureOp,binPure,intBin,strBin,eqPure,isConstO,unPure,sliceLo,sliceHi,slicePure,slice3Pure,lenPure,capPure,minPure,maxPure,buildP,resK,endV,yieldE,↓reduceIte,Nat.reduceEqDiff,reduceCtorEq,Nat.reduceAdd,Nat.reduceMul,Nat.reduceSub,Int.reduceLT,Int.reduceLE,Int.reduceToNat,Int.reduceAdd,Int.reduceSub,Int.reduceMul,ne_eq,decide_true,decide_false,tf6, he0, he8, hdk])
    cases hck : checkE (X.map PtV.p) with
    | some y =>
      rw [hck] at he6
      have hd : decide (y.code = 0) = false := decide_eq_false (checkE_code hck)
      repeat (first | rw [c_seq] | simp -dsimp only [↓RE,RU,RL,if_true,if_false,forall_const,implies_true,Nat.reduceLeDiff,Nat.reduceLT,pureOp,binPure,intBin,strBin,eqPure,isConstO,unPure,sliceLo,sliceHi,slicePure,slice3Pure,lenPure,capPure,minPure,maxPure,buildP,resK,endV,yieldE,↓reduceIte,Nat.reduceEqDiff,reduceCtorEq,Nat.reduceAdd,Nat.reduceMul,Nat.reduceSub,Int.reduceLT,Int.reduceLE,Int.reduceToNat,Int.reduceAdd,Int.reduceSub,Int.reduceMul,ne_eq,decide_true,decide_false,tf6, he5, he6, he7, errOf, Er.v, Bool.not_false, Bool.not_true])
      refine wpDraw_by (Grow w1' ·) [(0, false), (1, true), (2, true), (3, true), (4, true), (5, false), (6, true), (7, true), (8, true), (9, true), (10, true)] (by kernel_rfl) (Grow.drew w1') ?_
      simp only [planL, List.getElem?_toArray, List.getElem?_cons_zero, List.getElem?_cons_succ, Option.toList_some, List.map_cons, List.map_nil, List.cons_append, List.nil_append]
      repeat (first | rw [c_seq] | simp -dsimp only [↓RE,RU,RL,if_true,if_false,forall_const,implies_true,Nat.reduceLeDiff,Nat.reduceLT,pureOp,binPure,intBin,strBin,eqPure,isConstO,unPure,sliceLo,sliceHi,slicePure,slice3Pure,lenPure,capPure,minPure,maxPure,buildP,resK,endV,yieldE,↓reduceIte,Nat.reduceEqDiff,reduceCtorEq,Nat.reduceAdd,Nat.reduceMul,Nat.reduceSub,Int.reduceLT,Int.reduceLE,Int.reduceToNat,Int.reduceAdd,Int.reduceSub,Int.reduceMul,ne_eq,decide_true,decide_false,tf6, he0, he6])
      refine live7_ok (hL1.grow (Grow.drew w1')) (hT1.grow (Grow.drew w1')) (fun w2 g2 => ?_)
      have g12 := (Grow.drew w1').trans g2
      have g02 := g1.trans g12
      refine ⟨g12, ?_⟩
      repeat (first | rw [c_seq] | simp -dsimp only [↓RE,RU,RL,if_true,if_false,forall_const,implies_true,Nat.reduceLeDiff,Nat.reduceLT,pureOp,binPure,intBin,strBin,eqPure,isConstO,unPure,sliceLo,sliceHi,slicePure,slice3Pure,lenPure,capPure,minPure,maxPure,buildP,resK,endV,yieldE,↓reduceIte,Nat.reduceEqDiff,reduceCtorEq,Nat.reduceAdd,Nat.reduceMul,Nat.reduceSub,Int.reduceLT,Int.reduceLE,Int.reduceToNat,Int.reduceAdd,Int.reduceSub,Int.reduceMul,ne_eq,decide_true,decide_false,tf6, he0, he6, errOf, Er.v])
      refine qcheck_ok (hX.grow g02) (all_grow hoX0 g02) (by omega) (fun w3 g3 => ?_)
      rw [hck]
      refine ⟨g12.trans g3, ?_⟩
      repeat (first | rw [c_seq] | simp -dsimp only [↓RE,RU,RL,if_true,if_false,forall_const,implies_true,Nat.reduceLeDiff,Nat.reduceLT,pureOp,binPure,intBin,strBin,eqPure,isConstO,unPure,sliceLo,sliceHi,slicePure,slice3Pure,lenPure,capPure,minPure,maxPure,buildP,resK,endV,yieldE,↓reduceIte,Nat.reduceEqDiff,reduceCtorEq,Nat.reduceAdd,Nat.reduceMul,Nat.reduceSub,Int.reduceLT,Int.reduceLE,Int.reduceToNat,Int.reduceAdd,Int.reduceSub,Int.reduceMul,ne_eq,decide_true,decide_false,tf6, he6, badOf, BadV.v, BadV.cells, Er.bad, hd, Bool.not_false, beq_self_eq_true])
      exact h w3 (g02.trans g3)
    | none =>
      rw [hck] at he6
      by_cases hlen : D1.length = sumK X
      · have hd : decide ((D1.length : Int) = (sumK X : Nat)) = true := decide_eq_true (by omega)
        repeat (first | rw [c_seq] | simp -dsimp only [↓RE,RU,RL,if_true,if_false,forall_const,implies_true,Nat.reduceLeDiff,Nat.reduceLT,pureOp,binPure,intBin,strBin,eqPure,isConstO,unPure,sliceLo,sliceHi,slicePure,slice3Pure,lenPure,capPure,minPure,maxPure,buildP,resK,endV,yieldE,↓reduceIte,Nat.reduceEqDiff,reduceCtorEq,Nat.reduceAdd,Nat.reduceMul,Nat.reduceSub,Int.reduceLT,Int.reduceLE,Int.reduceToNat,Int.reduceAdd,Int.reduceSub,Int.reduceMul,ne_eq,decide_true,decide_false,tf6, he0, he5, he6, he7, errOf, hd, Bool.not_false, Bool.not_true])
        have hE := LRow.empty w1' 25 4
        have g3 := Grow.alloc w1' (.cells #[] 25)
        refine app_p (L := []) hE (hX.grow (g1.trans g3)) (by simp; omega) (fun A9 c9 w3 hL3 k3 f3 => ?_)
        have g13 : Grow w1' w3 := g3.above k3 (fun q hq e => by rw [fpV_some] at e; simp only at e; omega)
        have hs3 := g3.size
        have hE3 : PRow w3 (.slice A9 X.length c9) X := by
          have := hL3
          rw [List.nil_append, List.length_nil, Nat.zero_add, ← hXl] at this
          exact this
        have hF3 : ∀ q, fpV (.slice A9 X.length c9) q → w1'.heap.size ≤ q := fun q hq => by
          rcases f3 q (by rw [List.length_nil, Nat.zero_add, ← hXl]; exact hq) with e | e
          · rw [fpV_some] at e; simp only at e; omega
          · omega
        rw [List.length_nil, Nat.zero_add]
        have hE4 : LRow w3 25 4 (.slice A9 n c9) n (X.flatMap PtV.cells) := by rw [← hXl]; exact hE3
        rw [hXl] at hF3
        clear hL3 f3 hE g3 hE3
        repeat (first | rw [c_seq] | simp -dsimp only [↓RE,RU,RL,if_true,if_false,forall_const,implies_true,Nat.reduceLeDiff,Nat.reduceLT,pureOp,binPure,intBin,strBin,eqPure,isConstO,unPure,sliceLo,sliceHi,slicePure,slice3Pure,lenPure,capPure,minPure,maxPure,buildP,resK,endV,yieldE,↓reduceIte,Nat.reduceEqDiff,reduceCtorEq,Nat.reduceAdd,Nat.reduceMul,Nat.reduceSub,Int.reduceLT,Int.reduceLE,Int.reduceToNat,Int.reduceAdd,Int.reduceSub,Int.reduceMul,ne_eq,decide_true,decide_false,tf6, he1])
        refine wpLoop_intro (fun e' w' => Grow w1' w' ∧ (e' 0 = .slice A n c ∧ e' 1 = .slice B m d ∧ e' 5 = .slice A1 D1.length c1 ∧ e' 9 = .slice A9 n c9) ∧ ∃ (k : Nat) (M : List PtV), k ≤ m ∧ e' 10 = .int .i64 (k : Int) ∧ M.Perm X ∧ LRow w' 25 4 (.slice A9 n c9) n (M.flatMap PtV.cells))
          (fun e' _ => m - (envInt (e' 10)).toNat) ⟨g13, ⟨?_, ?_, ?_, ?_⟩, 0, X, Nat.zero_le _, ?_, List.Perm.refl _, hE4⟩ ?_
        · simp -dsimp only [↓RE,RU,RL,if_true,if_false,↓reduceIte,Nat.reduceEqDiff,reduceCtorEq,decide_true,decide_false, he0]
        · simp -dsimp only [↓RE,RU,RL,if_true,if_false,↓reduceIte,Nat.reduceEqDiff,reduceCtorEq,decide_true,decide_false, he1]
        · simp -dsimp only [↓RE,RU,RL,if_true,if_false,↓reduceIte,Nat.reduceEqDiff,reduceCtorEq,decide_true,decide_false, he5]
        · simp -dsimp only [↓RE,RU,RL,if_true,if_false,↓reduceIte,Nat.reduceEqDiff,reduceCtorEq,decide_true,decide_false, he0]
        · simp -dsimp only [↓RE,RU,RL,if_true,if_false,↓reduceIte,Nat.reduceEqDiff,reduceCtorEq,decide_true,decide_false, he0]
          rfl
        clear he0 he1 he5 he6 he7 he8 e
        rintro e w4 ⟨g4, ⟨he0, he1, he5, he9⟩, k, M, hk, he10, hperm, hrow⟩
        have hMl : M.length = n := by rw [hperm.length_eq, hXl]
        have hmu : (envInt (e 10)).toNat = k := by rw [he10]; exact Int.toNat_natCast k
        by_cases hgo : k < m ∧ 0 < n
        · obtain ⟨hkm, hn0⟩ := hgo
          have dk : decide ((k : Int) < (m : Int)) = true := decide_eq_true (by omega)
          have dn : decide ((0 : Int) < (n : Int)) = true := decide_eq_true (by omega)
          have hw1 : IntKind.i64.wrap ((k : Int) + 1) = ((k + 1 : Nat) : Int) := by rw [wrap_i64_in (by omega) (by omega)]; omega
          have hnz : ¬ ((n : Int) = 0) := by omega
          obtain ⟨bd, hBd, hbc⟩ := (hB.grow (g1.trans g4)).int hkm
          have htr := hT0 (T.getD k 0) (by
            rw [List.getD_eq_getElem?_getD, List.getElem?_eq_getElem (by omega)]; exact List.getElem_mem _)
          rw [hBd] at he1
          obtain ⟨ad, rfl⟩ : ∃ ad, A9 = some ad := by
            obtain ⟨A', c', e, _, hA⟩ := hrow.form
            injection e with e _ _
            cases A9 with
            | none => exact absurd (hA e.symm) (by omega)
            | some ad => exact ⟨ad, rfl⟩
          have hlo := Int.lt_tmod_of_pos (T.getD k 0) (show (0 : Int) < (n : Int) by omega)
          have hhi := Int.tmod_lt_of_pos (T.getD k 0) (show (0 : Int) < (n : Int) by omega)
          generalize T.getD k 0 = t at hbc htr hlo hhi
          obtain ⟨κ, hκ, hκv⟩ : ∃ κ : Nat, κ < n ∧ ((t.tmod n < 0 ∧ IntKind.i64.wrap (t.tmod n + (n : Int)) = (κ : Int)) ∨ (¬ t.tmod n < 0 ∧ t.tmod n = (κ : Int))) := by
            by_cases hneg : t.tmod n < 0
            · refine ⟨(t.tmod n + n).toNat, by omega, .inl ⟨hneg, ?_⟩⟩
              rw [wrap_i64_in (by omega) (by omega)]; omega
            · exact ⟨(t.tmod n).toNat, by omega, .inr ⟨hneg, by omega⟩⟩
          rw [c_seq, c_seq]
          simp -dsimp only [↓RE,RU,RL,if_true,if_false,forall_const,implies_true,Nat.reduceLeDiff,Nat.reduceLT,pureOp,binPure,intBin,strBin,eqPure,isConstO,unPure,sliceLo,sliceHi,slicePure,slice3Pure,lenPure,capPure,minPure,maxPure,buildP,resK,endV,yieldE,↓reduceIte,Nat.reduceEqDiff,reduceCtorEq,Nat.reduceAdd,Nat.reduceMul,Nat.reduceSub,Int.reduceLT,Int.reduceLE,Int.reduceToNat,Int.reduceAdd,Int.reduceSub,Int.reduceMul,ne_eq,decide_true,decide_false,tf6, he1, he9, he10, dk, dn]
          rw [c_seq]
          simp -dsimp only [↓RE,RU,RL,if_true,if_false,forall_const,implies_true,Nat.reduceLeDiff,Nat.reduceLT,pureOp,binPure,intBin,strBin,eqPure,isConstO,unPure,sliceLo,sliceHi,slicePure,slice3Pure,lenPure,capPure,minPure,maxPure,buildP,resK,endV,yieldE,↓reduceIte,Nat.reduceEqDiff,reduceCtorEq,Nat.reduceAdd,Nat.reduceMul,Nat.reduceSub,Int.reduceLT,Int.reduceLE,Int.reduceToNat,Int.reduceAdd,Int.reduceSub,Int.reduceMul,ne_eq,decide_true,decide_false,tf6, he1, he9, he10, hbc, hnz, Int.toNat_natCast]
          rw [c_seq]
          simp -dsimp only [↓RE,RU,RL,if_true,if_false,forall_const,implies_true,Nat.reduceLeDiff,Nat.reduceLT,pureOp,binPure,intBin,strBin,eqPure,isConstO,unPure,sliceLo,sliceHi,slicePure,slice3Pure,lenPure,capPure,minPure,maxPure,buildP,resK,endV,yieldE,↓reduceIte,Nat.reduceEqDiff,reduceCtorEq,Nat.reduceAdd,Nat.reduceMul,Nat.reduceSub,Int.reduceLT,Int.reduceLE,Int.reduceToNat,Int.reduceAdd,Int.reduceSub,Int.reduceMul,ne_eq,decide_true,decide_false,tf6, he1, he9, he10, hbc, hnz, Int.toNat_natCast, Nat.mul_one]
          refine ⟨⟨by omega, by omega⟩, ?_⟩
          refine c_seq_cut (fun e' w' => w' = w4 ∧ (e' 0 = .slice A n c ∧ e' 1 = .slice (some bd) m d ∧ e' 5 = .slice A1 D1.length c1 ∧ e' 9 = .slice (some ad) n c9) ∧ e' 10 = .int .i64 (k : Int) ∧ e' 11 = .int .i64 (κ : Int)) ?_ ?_
          · rcases hκv with ⟨hneg, hwr⟩ | ⟨hneg, hwr⟩
            · have dt : decide (t.tmod n < 0) = true := decide_eq_true hneg
              repeat (first | rw [c_seq] | simp -dsimp only [↓RE,RU,RL,if_true,if_false,forall_const,implies_true,Nat.reduceLeDiff,Nat.reduceLT,pureOp,binPure,intBin,strBin,eqPure,isConstO,unPure,sliceLo,sliceHi,slicePure,slice3Pure,lenPure,capPure,minPure,maxPure,buildP,resK,endV,yieldE,↓reduceIte,Nat.reduceEqDiff,reduceCtorEq,Nat.reduceAdd,Nat.reduceMul,Nat.reduceSub,Int.reduceLT,Int.reduceLE,Int.reduceToNat,Int.reduceAdd,Int.reduceSub,Int.reduceMul,ne_eq,decide_true,decide_false,tf6, he9, dt, hwr])
              refine hold_intro ⟨rfl, ⟨?_, ?_, ?_, ?_⟩, ?_, ?_⟩
              · simp -dsimp only [↓RE,RU,RL,if_true,if_false,↓reduceIte,Nat.reduceEqDiff,reduceCtorEq,decide_true,decide_false, he0]
              · simp -dsimp only [↓RE,RU,RL,if_true,if_false,↓reduceIte,Nat.reduceEqDiff,reduceCtorEq,decide_true,decide_false, he1]
              · simp -dsimp only [↓RE,RU,RL,if_true,if_false,↓reduceIte,Nat.reduceEqDiff,reduceCtorEq,decide_true,decide_false, he5]
              · simp -dsimp only [↓RE,RU,RL,if_true,if_false,↓reduceIte,Nat.reduceEqDiff,reduceCtorEq,decide_true,decide_false, he9]
              · simp -dsimp only [↓RE,RU,RL,if_true,if_false,↓reduceIte,Nat.reduceEqDiff,reduceCtorEq,decide_true,decide_false, he10]
              · simp -dsimp only [↓RE,RU,RL,if_true,if_false,↓reduceIte,Nat.reduceEqDiff,reduceCtorEq,decide_true,decide_false, hwr]
            · have dt : decide ((κ : Int) < 0) = false := decide_eq_false (by omega)
              repeat (first | rw [c_seq] | simp -dsimp only [↓RE,RU,RL,if_true,if_false,forall_const,implies_true,Nat.reduceLeDiff,Nat.reduceLT,pureOp,binPure,intBin,strBin,eqPure,isConstO,unPure,sliceLo,sliceHi,slicePure,slice3Pure,lenPure,capPure,minPure,maxPure,buildP,resK,endV,yieldE,↓reduceIte,Nat.reduceEqDiff,reduceCtorEq,Nat.reduceAdd,Nat.reduceMul,Nat.reduceSub,Int.reduceLT,Int.reduceLE,Int.reduceToNat,Int.reduceAdd,Int.reduceSub,Int.reduceMul,ne_eq,decide_true,decide_false,tf6, he9, hwr, dt])
              refine hold_intro ⟨rfl, ⟨?_, ?_, ?_, ?_⟩, ?_, ?_⟩
              · simp -dsimp only [↓RE,RU,RL,if_true,if_false,↓reduceIte,Nat.reduceEqDiff,reduceCtorEq,decide_true,decide_false, he0]
              · simp -dsimp only [↓RE,RU,RL,if_true,if_false,↓reduceIte,Nat.reduceEqDiff,reduceCtorEq,decide_true,decide_false, he1]
              · simp -dsimp only [↓RE,RU,RL,if_true,if_false,↓reduceIte,Nat.reduceEqDiff,reduceCtorEq,decide_true,decide_false, he5]
              · simp -dsimp only [↓RE,RU,RL,if_true,if_false,↓reduceIte,Nat.reduceEqDiff,reduceCtorEq,decide_true,decide_false, he9]
              · simp -dsimp only [↓RE,RU,RL,if_true,if_false,↓reduceIte,Nat.reduceEqDiff,reduceCtorEq,decide_true,decide_false, he10]
              · simp -dsimp only [↓RE,RU,RL,if_true,if_false,↓reduceIte,Nat.reduceEqDiff,reduceCtorEq,decide_true,decide_false, hwr]
          clear he0 he1 he5 he9 he10
          rintro e2 w4' ⟨rfl, ⟨he0, he1, he5, he9⟩, he10, he11⟩
          have h0m : M[0]? = some (M.getD 0 p00) := getP_some (by omega)
          have hkm' : M[κ]? = some (M.getD κ p00) := getP_some (by omega)
          have z0 : ad.add (0 * 4) = ad := by rw [Nat.zero_mul, add_zero']
          have r0 : ∀ w', LRow w' 25 4 (.slice (some ad) n c9) n (M.flatMap PtV.cells) → ∀ j v, (M.getD 0 p00).cells[j]? = some v → w'.cell? (ad.add j) = some v := fun w' hr j v hv => by
            have := (LRow.rd hr).pt (k := 0) (by omega) j v hv
            rwa [z0] at this
          have rk : ∀ w', LRow w' 25 4 (.slice (some ad) n c9) n (M.flatMap PtV.cells) → ∀ j v, (M.getD κ p00).cells[j]? = some v → w'.cell? ((ad.add (κ * 4)).add j) = some v := fun w' hr j v hv => (LRow.rd hr).pt (k := κ) (by omega) j v hv
          have hpe := swap_perm M κ p00 (by omega)
          have hnl : ∀ q, fpV (.slice (some ad) n c9) q → w1'.heap.size ≤ q := hF3
          generalize hx0 : M.getD 0 p00 = x0 at h0m r0 hpe
          generalize hxk : M.getD κ p00 = xk at hkm' rk hpe
          have hnn : ((0 : Nat) : Int) = 0 := rfl
          repeat (first | rw [c_seq] | simp -dsimp only [↓RE,RU,RL,if_true,if_false,forall_const,implies_true,Nat.reduceLeDiff,Nat.reduceLT,pureOp,binPure,intBin,strBin,eqPure,isConstO,unPure,sliceLo,sliceHi,slicePure,slice3Pure,lenPure,capPure,minPure,maxPure,buildP,resK,endV,yieldE,↓reduceIte,Nat.reduceEqDiff,reduceCtorEq,Nat.reduceAdd,Nat.reduceMul,Nat.reduceSub,Int.reduceLT,Int.reduceLE,Int.reduceToNat,Int.reduceAdd,Int.reduceSub,Int.reduceMul,ne_eq,decide_true,decide_false,tf6, he9, he11])
          refine wpDraw_swap (fun w' => LRow w' 25 4 (.slice (some ad) n c9) n (M.flatMap PtV.cells)) [0, 1, 2, 3, 4, 5, 6, 7, 8, 9, 10] 11 [11, 12, 13] (by kernel_rfl) (hrow.grow (Grow.drew _)) ?_
          simp only [List.filterMap_cons, List.filterMap_nil, planL, List.getElem?_toArray, List.getElem?_cons_zero, List.getElem?_cons_succ, Option.toList_some, List.map_cons, List.map_nil, List.cons_append, List.nil_append]
          repeat (first | rw [c_seq] | simp -dsimp only [↓RE,RU,RL,if_true,if_false,forall_const,implies_true,Nat.reduceLeDiff,Nat.reduceLT,pureOp,binPure,intBin,strBin,eqPure,isConstO,unPure,sliceLo,sliceHi,slicePure,slice3Pure,lenPure,capPure,minPure,maxPure,buildP,resK,endV,yieldE,↓reduceIte,Nat.reduceEqDiff,reduceCtorEq,Nat.reduceAdd,Nat.reduceMul,Nat.reduceSub,Int.reduceLT,Int.reduceLE,Int.reduceToNat,Int.reduceAdd,Int.reduceSub,Int.reduceMul,ne_eq,decide_true,decide_false,tf6, he9, he11, Int.toNat_natCast, Nat.zero_mul, add_zero'])
          refine ⟨⟨by omega, by omega⟩, xk.cells, rfl, rk, ?_⟩
          repeat (first | rw [c_seq] | simp -dsimp only [↓RE,RU,RL,if_true,if_false,forall_const,implies_true,Nat.reduceLeDiff,Nat.reduceLT,pureOp,binPure,intBin,strBin,eqPure,isConstO,unPure,sliceLo,sliceHi,slicePure,slice3Pure,lenPure,capPure,minPure,maxPure,buildP,resK,endV,yieldE,↓reduceIte,Nat.reduceEqDiff,reduceCtorEq,Nat.reduceAdd,Nat.reduceMul,Nat.reduceSub,Int.reduceLT,Int.reduceLE,Int.reduceToNat,Int.reduceAdd,Int.reduceSub,Int.reduceMul,ne_eq,decide_true,decide_false,tf6, he9, he11, Int.toNat_natCast, Nat.zero_mul, add_zero'])
          refine ⟨by omega, x0.cells, rfl, r0, ?_⟩
          repeat (first | rw [c_seq] | simp -dsimp only [↓RE,RU,RL,if_true,if_false,forall_const,implies_true,Nat.reduceLeDiff,Nat.reduceLT,pureOp,binPure,intBin,strBin,eqPure,isConstO,unPure,sliceLo,sliceHi,slicePure,slice3Pure,lenPure,capPure,minPure,maxPure,buildP,resK,endV,yieldE,↓reduceIte,Nat.reduceEqDiff,reduceCtorEq,Nat.reduceAdd,Nat.reduceMul,Nat.reduceSub,Int.reduceLT,Int.reduceLE,Int.reduceToNat,Int.reduceAdd,Int.reduceSub,Int.reduceMul,ne_eq,decide_true,decide_false,tf6, he9, he11, Int.toNat_natCast, Nat.zero_mul, add_zero'])
          rw [← z0]
          refine ⟨by omega, rfl, LRow.stElem (f := PtV.cells) (size := 4) (fun _ => rfl) pcells_one (hrow.grow (Grow.drew _)) hMl (k := 0) hn0 xk (fun w5 hr5 k5 => ?_)⟩
          rw [z0]
          repeat (first | rw [c_seq] | simp -dsimp only [↓RE,RU,RL,if_true,if_false,forall_const,implies_true,Nat.reduceLeDiff,Nat.reduceLT,pureOp,binPure,intBin,strBin,eqPure,isConstO,unPure,sliceLo,sliceHi,slicePure,slice3Pure,lenPure,capPure,minPure,maxPure,buildP,resK,endV,yieldE,↓reduceIte,Nat.reduceEqDiff,reduceCtorEq,Nat.reduceAdd,Nat.reduceMul,Nat.reduceSub,Int.reduceLT,Int.reduceLE,Int.reduceToNat,Int.reduceAdd,Int.reduceSub,Int.reduceMul,ne_eq,decide_true,decide_false,tf6, he9, he11, Int.toNat_natCast, Nat.zero_mul, add_zero'])
          refine ⟨⟨by omega, by omega⟩, rfl, LRow.stElem (f := PtV.cells) (size := 4) (fun _ => rfl) pcells_one hr5 (by rw [List.length_set]; exact hMl) (k := κ) hκ x0 (fun w6 hr6 k6 => ?_)⟩
          have g46 : Grow w1' w6 := (g4.trans (Grow.drew _)).above (k5.trans k6 (fun _ _ h => h) (fun _ _ h => h)) (fun q hq e => by have := hnl q ((fpV_some _ _ _ _).2 e); omega)
          repeat (first | rw [c_seq] | simp -dsimp only [↓RE,RU,RL,if_true,if_false,forall_const,implies_true,Nat.reduceLeDiff,Nat.reduceLT,pureOp,binPure,intBin,strBin,eqPure,isConstO,unPure,sliceLo,sliceHi,slicePure,slice3Pure,lenPure,capPure,minPure,maxPure,buildP,resK,endV,yieldE,↓reduceIte,Nat.reduceEqDiff,reduceCtorEq,Nat.reduceAdd,Nat.reduceMul,Nat.reduceSub,Int.reduceLT,Int.reduceLE,Int.reduceToNat,Int.reduceAdd,Int.reduceSub,Int.reduceMul,ne_eq,decide_true,decide_false,tf6, he10, hw1])
          refine hold_intro ⟨⟨g46, ⟨?_, ?_, ?_, ?_⟩, k + 1, _, hkm, ?_, hpe.trans hperm, hr6⟩, ?_⟩
          · simp -dsimp only [↓RE,RU,RL,if_true,if_false,↓reduceIte,Nat.reduceEqDiff,reduceCtorEq,decide_true,decide_false, he0]
          · simp -dsimp only [↓RE,RU,RL,if_true,if_false,↓reduceIte,Nat.reduceEqDiff,reduceCtorEq,decide_true,decide_false, he1, hBd]
          · simp -dsimp only [↓RE,RU,RL,if_true,if_false,↓reduceIte,Nat.reduceEqDiff,reduceCtorEq,decide_true,decide_false, he5]
          · simp -dsimp only [↓RE,RU,RL,if_true,if_false,↓reduceIte,Nat.reduceEqDiff,reduceCtorEq,decide_true,decide_false, he9]
          · simp -dsimp only [↓RE,RU,RL,if_true,if_false,↓reduceIte,Nat.reduceEqDiff,reduceCtorEq,decide_true,decide_false, hw1]
          · rw [hmu]
            simp -dsimp only [↓RE,↓c_seq,RU,RL,if_true,if_false,forall_const,implies_true,Nat.reduceLeDiff,Nat.reduceLT,pureOp,binPure,intBin,strBin,eqPure,isConstO,unPure,sliceLo,sliceHi,slicePure,slice3Pure,lenPure,capPure,minPure,maxPure,buildP,resK,endV,yieldE,↓reduceIte,Nat.reduceEqDiff,reduceCtorEq,Nat.reduceAdd,Nat.reduceMul,Nat.reduceSub,Int.reduceLT,Int.reduceLE,Int.reduceToNat,Int.reduceAdd,Int.reduceSub,Int.reduceMul,ne_eq,decide_true,decide_false,tf6, hw1]
            simp only [envInt_int]; omega
        · have hgo' : decide ((k : Int) < (m : Int)) = false ∨ (decide ((k : Int) < (m : Int)) = true ∧ decide ((0 : Int) < (n : Int)) = false) := by
            by_cases hkm : k < m
            · exact .inr ⟨decide_eq_true (by omega), decide_eq_false (fun hq => hgo ⟨hkm, by omega⟩)⟩
            · exact .inl (decide_eq_false (by omega))
          obtain ⟨hm1, hm2⟩ := turn_eq hck (by rw [← hD1.eq, List.length_map, hlen, hfs]) (hperm.map PtV.p)
          have hD4 := hD1.grow g4
          have g04 := g1.trans g4
          have hoM : ∀ x ∈ M, x.Ok w := fun x hx => hoX0 x (hperm.mem_iff.1 hx)
          have hl2 := flatL_len (X.map PtV.p)
          rw [← hD1.eq, List.length_map] at hl2
          rcases hgo' with hk1 | ⟨hk1, hk2⟩
          · repeat (first | rw [c_seq] | simp -dsimp only [↓RE,RU,RL,if_true,if_false,forall_const,implies_true,Nat.reduceLeDiff,Nat.reduceLT,pureOp,binPure,intBin,strBin,eqPure,isConstO,unPure,sliceLo,sliceHi,slicePure,slice3Pure,lenPure,capPure,minPure,maxPure,buildP,resK,endV,yieldE,↓reduceIte,Nat.reduceEqDiff,reduceCtorEq,Nat.reduceAdd,Nat.reduceMul,Nat.reduceSub,Int.reduceLT,Int.reduceLE,Int.reduceToNat,Int.reduceAdd,Int.reduceSub,Int.reduceMul,ne_eq,decide_true,decide_false,tf6, he1, he9, he10, hk1, undef])
            refine bflat_ok (LRow.rd hrow) (all_grow hoM g04) (by omega) (hT.grow g04) (fun w5 v5 D5 hD5 g5 => ?_)
            rw [hm1]
            rw [hm2] at hD5
            have hD6 := hD4.grow g5
            have hl5 : D5.length = D1.length := by rw [← List.length_map (f := WrV.wr), hD5.eq, ← hD6.eq, List.length_map]
            obtain ⟨A5, c5, rfl, _, _⟩ := hD5.row.form
            have g05 := g04.trans g5
            repeat (first | rw [c_seq] | simp -dsimp only [↓RE,RU,RL,if_true,if_false,forall_const,implies_true,Nat.reduceLeDiff,Nat.reduceLT,pureOp,binPure,intBin,strBin,eqPure,isConstO,unPure,sliceLo,sliceHi,slicePure,slice3Pure,lenPure,capPure,minPure,maxPure,buildP,resK,endV,yieldE,↓reduceIte,Nat.reduceEqDiff,reduceCtorEq,Nat.reduceAdd,Nat.reduceMul,Nat.reduceSub,Int.reduceLT,Int.reduceLE,Int.reduceToNat,Int.reduceAdd,Int.reduceSub,Int.reduceMul,ne_eq,decide_true,decide_false,tf6, he5, errOf])
            refine live7_ok (hL.grow g05) (hT.grow g05) (fun w6 g6 => ?_)
            have hD5 := hD5.grow g6
            have hD6 := hD6.grow g6
            repeat (first | rw [c_seq] | simp -dsimp only [↓RE,RU,RL,if_true,if_false,forall_const,implies_true,Nat.reduceLeDiff,Nat.reduceLT,pureOp,binPure,intBin,strBin,eqPure,isConstO,unPure,sliceLo,sliceHi,slicePure,slice3Pure,lenPure,capPure,minPure,maxPure,buildP,resK,endV,yieldE,↓reduceIte,Nat.reduceEqDiff,reduceCtorEq,Nat.reduceAdd,Nat.reduceMul,Nat.reduceSub,Int.reduceLT,Int.reduceLE,Int.reduceToNat,Int.reduceAdd,Int.reduceSub,Int.reduceMul,ne_eq,decide_true,decide_false,tf6, he5, errOf])
            refine samew_ok hD6.row.rd hD5.row.rd (fun x hx => (hD6.ok x hx).1) (fun x hx => (hD5.ok x hx).1) (by omega) (by omega) (fun w7 g7 => ?_)
            rw [hD6.eq, hD5.eq, decide_eq_true rfl]
            repeat (first | rw [c_seq] | simp -dsimp only [↓RE,RU,RL,if_true,if_false,forall_const,implies_true,Nat.reduceLeDiff,Nat.reduceLT,pureOp,binPure,intBin,strBin,eqPure,isConstO,unPure,sliceLo,sliceHi,slicePure,slice3Pure,lenPure,capPure,minPure,maxPure,buildP,resK,endV,yieldE,↓reduceIte,Nat.reduceEqDiff,reduceCtorEq,Nat.reduceAdd,Nat.reduceMul,Nat.reduceSub,Int.reduceLT,Int.reduceLE,Int.reduceToNat,Int.reduceAdd,Int.reduceSub,Int.reduceMul,ne_eq,decide_true,decide_false,tf6, he5])
            exact h w7 ((g05.trans g6).trans g7)
          · repeat (first | rw [c_seq] | simp -dsimp only [↓RE,RU,RL,if_true,if_false,forall_const,implies_true,Nat.reduceLeDiff,Nat.reduceLT,pureOp,binPure,intBin,strBin,eqPure,isConstO,unPure,sliceLo,sliceHi,slicePure,slice3Pure,lenPure,capPure,minPure,maxPure,buildP,resK,endV,yieldE,↓reduceIte,Nat.reduceEqDiff,reduceCtorEq,Nat.reduceAdd,Nat.reduceMul,Nat.reduceSub,Int.reduceLT,Int.reduceLE,Int.reduceToNat,Int.reduceAdd,Int.reduceSub,Int.reduceMul,ne_eq,decide_true,decide_false,tf6, he1, he9, he10, hk1, hk2, undef])
            refine bflat_ok (LRow.rd hrow) (all_grow hoM g04) (by omega) (hT.grow g04) (fun w5 v5 D5 hD5 g5 => ?_)
            rw [hm1]
            rw [hm2] at hD5
            have hD6 := hD4.grow g5
            have hl5 : D5.length = D1.length := by rw [← List.length_map (f := WrV.wr), hD5.eq, ← hD6.eq, List.length_map]
            obtain ⟨A5, c5, rfl, _, _⟩ := hD5.row.form
            have g05 := g04.trans g5
            repeat (first | rw [c_seq] | simp -dsimp only [↓RE,RU,RL,if_true,if_false,forall_const,implies_true,Nat.reduceLeDiff,Nat.reduceLT,pureOp,binPure,intBin,strBin,eqPure,isConstO,unPure,sliceLo,sliceHi,slicePure,slice3Pure,lenPure,capPure,minPure,maxPure,buildP,resK,endV,yieldE,↓reduceIte,Nat.reduceEqDiff,reduceCtorEq,Nat.reduceAdd,Nat.reduceMul,Nat.reduceSub,Int.reduceLT,Int.reduceLE,Int.reduceToNat,Int.reduceAdd,Int.reduceSub,Int.reduceMul,ne_eq,decide_true,decide_false,tf6, he5, errOf])
            refine live7_ok (hL.grow g05) (hT.grow g05) (fun w6 g6 => ?_)
            have hD5 := hD5.grow g6
            have hD6 := hD6.grow g6
            repeat (first | rw [c_seq] | simp -dsimp only [↓RE,RU,RL,if_true,if_false,forall_const,implies_true,Nat.reduceLeDiff,Nat.reduceLT,pureOp,binPure,intBin,strBin,eqPure,isConstO,unPure,sliceLo,sliceHi,slicePure,slice3Pure,lenPure,capPure,minPure,maxPure,buildP,resK,endV,yieldE,↓reduceIte,Nat.reduceEqDiff,reduceCtorEq,Nat.reduceAdd,Nat.reduceMul,Nat.reduceSub,Int.reduceLT,Int.reduceLE,Int.reduceToNat,Int.reduceAdd,Int.reduceSub,Int.reduceMul,ne_eq,decide_true,decide_false,tf6, he5, errOf])
            refine samew_ok hD6.row.rd hD5.row.rd (fun x hx => (hD6.ok x hx).1) (fun x hx => (hD5.ok x hx).1) (by omega) (by omega) (fun w7 g7 => ?_)
            rw [hD6.eq, hD5.eq, decide_eq_true rfl]
            repeat (first | rw [c_seq] | simp -dsimp only [↓RE,RU,RL,if_true,if_false,forall_const,implies_true,Nat.reduceLeDiff,Nat.reduceLT,pureOp,binPure,intBin,strBin,eqPure,isConstO,unPure,sliceLo,sliceHi,slicePure,slice3Pure,lenPure,capPure,minPure,maxPure,buildP,resK,endV,yieldE,↓reduceIte,Nat.reduceEqDiff,reduceCtorEq,Nat.reduceAdd,Nat.reduceMul,Nat.reduceSub,Int.reduceLT,Int.reduceLE,Int.reduceToNat,Int.reduceAdd,Int.reduceSub,Int.reduceMul,ne_eq,decide_true,decide_false,tf6, he5])
            exact h w7 ((g05.trans g6).trans g7)
      · have hd : decide ((D1.length : Int) = (sumK X : Nat)) = false := decide_eq_false (by omega)
        have d00 : decide ((0 : Int) = 0) = true := rfl
        have hff : (false == false) = true := rfl
        repeat (first | rw [c_seq] | simp -dsimp only [↓RE,RU,RL,if_true,if_false,forall_const,implies_true,Nat.reduceLeDiff,Nat.reduceLT,pureOp,binPure,intBin,strBin,eqPure,isConstO,unPure,sliceLo,sliceHi,slicePure,slice3Pure,lenPure,capPure,minPure,maxPure,buildP,resK,endV,yieldE,↓reduceIte,Nat.reduceEqDiff,reduceCtorEq,Nat.reduceAdd,Nat.reduceMul,Nat.reduceSub,Int.reduceLT,Int.reduceLE,Int.reduceToNat,Int.reduceAdd,Int.reduceSub,Int.reduceMul,ne_eq,decide_true,decide_false,tf6, he5, he6, he7, errOf, hd, Bool.not_false, Bool.not_true])
        refine wpDraw_by (Grow w1' ·) [(0, false), (1, true), (2, true), (3, true), (4, true), (5, false), (6, true), (7, true), (8, true), (9, true), (10, true)] (by kernel_rfl) (Grow.drew w1') ?_
        simp only [planL, List.getElem?_toArray, List.getElem?_cons_zero, List.getElem?_cons_succ, Option.toList_some, List.map_cons, List.map_nil, List.cons_append, List.nil_append]
        repeat (first | rw [c_seq] | simp -dsimp only [↓RE,RU,RL,if_true,if_false,forall_const,implies_true,Nat.reduceLeDiff,Nat.reduceLT,pureOp,binPure,intBin,strBin,eqPure,isConstO,unPure,sliceLo,sliceHi,slicePure,slice3Pure,lenPure,capPure,minPure,maxPure,buildP,resK,endV,yieldE,↓reduceIte,Nat.reduceEqDiff,reduceCtorEq,Nat.reduceAdd,Nat.reduceMul,Nat.reduceSub,Int.reduceLT,Int.reduceLE,Int.reduceToNat,Int.reduceAdd,Int.reduceSub,Int.reduceMul,ne_eq,decide_true,decide_false,tf6, he0, he6])
        refine live7_ok (hL1.grow (Grow.drew w1')) (hT1.grow (Grow.drew w1')) (fun w2 g2 => ?_)
        have g12 := (Grow.drew w1').trans g2
        have g02 := g1.trans g12
        refine ⟨g12, ?_⟩
        repeat (first | rw [c_seq] | simp -dsimp only [↓RE,RU,RL,if_true,if_false,forall_const,implies_true,Nat.reduceLeDiff,Nat.reduceLT,pureOp,binPure,intBin,strBin,eqPure,isConstO,unPure,sliceLo,sliceHi,slicePure,slice3Pure,lenPure,capPure,minPure,maxPure,buildP,resK,endV,yieldE,↓reduceIte,Nat.reduceEqDiff,reduceCtorEq,Nat.reduceAdd,Nat.reduceMul,Nat.reduceSub,Int.reduceLT,Int.reduceLE,Int.reduceToNat,Int.reduceAdd,Int.reduceSub,Int.reduceMul,ne_eq,decide_true,decide_false,tf6, he0, he6, errOf])
        refine qcheck_ok (hX.grow g02) (all_grow hoX0 g02) (by omega) (fun w3 g3 => ?_)
        rw [hck]
        refine ⟨g12.trans g3, ?_⟩
        repeat (first | rw [c_seq] | simp -dsimp only [↓RE,RU,RL,if_true,if_false,forall_const,implies_true,Nat.reduceLeDiff,Nat.reduceLT,pureOp,binPure,intBin,strBin,eqPure,isConstO,unPure,sliceLo,sliceHi,slicePure,slice3Pure,lenPure,capPure,minPure,maxPure,buildP,resK,endV,yieldE,↓reduceIte,Nat.reduceEqDiff,reduceCtorEq,Nat.reduceAdd,Nat.reduceMul,Nat.reduceSub,Int.reduceLT,Int.reduceLE,Int.reduceToNat,Int.reduceAdd,Int.reduceSub,Int.reduceMul,ne_eq,decide_true,decide_false,tf6, he6, badOf, BadV.none, BadV.v, BadV.cells, d00, Bool.not_true, hff])
        exact h w3 (g02.trans g3)

end Go.Proofs.YtljgnocpijniiaaGreatDoor
