/- slices.IndexFunc, slices.DeleteFunc at writes, of those that are marks. -/
import Derived.Test.YtljgnocpijniiaaGreatDoorPtsA
import Derived.Test.YtljgnocpijniiaaGreatDoorSorts
import Derived.Test.YtljgnocpijniiaaGreatDoorOrdQ
import Derived.Test.YtljgnocpijniiaaGreatDoorRowSet
set_option linter.unusedVariables false
set_option linter.unusedSimpArgs false
set_option maxRecDepth 100000
namespace Go.Proofs.YtljgnocpijniiaaGreatDoor
open Go

theorem flat_pre6 (D : List WrV) : (D.flatMap WrV.cells).length = D.length * 6 := flat_len WrV.cells (size := 6) _ (fun a _ => wcells_len a)
def kV (x : WrV) : Bool := k0 x.wr
theorem can_pts1 : callable Tryz.prog 62 = true := by kernel_rfl
theorem wtk_snoc {l : List WrV} {k : Nat} (h : k < l.length) : l.take (k + 1) = l.take k ++ [l.getD k w00] := by
  rw [List.take_succ_eq_append_getElem h, List.getD_eq_getElem?_getD, List.getElem?_eq_getElem h]; rfl
theorem idxf_ok {w : World} {A : Option Addr} {n c : Nat} {L : List WrV} (hL : RdW w A n L) (hn : n ≤ 100000000000) {R : VWK}
    (h : ∀ w' (r : Int), Grow w w' → ((r = -1 ∧ ∀ x ∈ L, kV x = true) ∨ ∃ k : Nat, r = k ∧ k < n ∧ (∀ x ∈ L.take k, kV x = true) ∧ kV (L.getD k w00) = false) → R (.int .i64 r) w') :
    CallsV Tryz.prog 122 [.slice A n c, .func (.func 62) #[] #[]] w R := by
  have hl := hL.wlen
  have hcall := fun xs w K tk => callK_func can_pts1 xs w (K := K) (tk := tk)
  refine calls_of_wpC mixed Tryz.func122 rfl (by kernel_rfl) ?_
  intro e he
  have he0 := he 0
  have he1 := he 1
  simp only [List.getD_cons_zero, List.getD_cons_succ] at he0 he1
  clear he
  repeat (first | rw [c_seq] | simp -dsimp only [↓RE,RU,RL,Nat.reduceLeDiff,Nat.reduceLT,pureOp,binPure,intBin,strBin,lenPure,resK,endV,↓reduceIte,Nat.reduceEqDiff,reduceCtorEq,Nat.reduceAdd,Nat.reduceMul,Int.reduceLT,Int.reduceLE,Int.reduceToNat,Int.reduceAdd,decide_true,decide_false,tf122, he0, he1])
  refine wpLoop_intro (fun e' w' => Grow w w' ∧ (e' 0 = .slice A n c ∧ e' 1 = .func (.func 62) #[] #[] ∧ e' 7 = .int .i64 (n : Int)) ∧ ∃ k : Nat, k ≤ n ∧ e' 8 = .int .i64 (k : Int) ∧ ∀ x ∈ L.take k, kV x = true)
    (fun e' _ => n - (envInt (e' 8)).toNat) ⟨Keep.refl _ _, ⟨?_, ?_, ?_⟩, 0, Nat.zero_le _, ?_, fun x hx => by simp at hx⟩ ?_
  · simp -dsimp only [↓RE,RU,RL,↓reduceIte,Nat.reduceEqDiff,reduceCtorEq,decide_true,decide_false, he0]
  · simp -dsimp only [↓RE,RU,RL,↓reduceIte,Nat.reduceEqDiff,reduceCtorEq,decide_true,decide_false, he1]
  · simp -dsimp only [↓RE,RU,RL,↓reduceIte,Nat.reduceEqDiff,reduceCtorEq,decide_true,decide_false, he0]
  · simp -dsimp only [↓RE,RU,RL,↓reduceIte,Nat.reduceEqDiff,reduceCtorEq,decide_true,decide_false, he0]
    rfl
  clear he0 he1 e
  rintro e w1 ⟨g1, ⟨he0, he1, he7⟩, k, hk, he8, hall⟩
  rcases Nat.lt_or_ge k n with hlt | hge
  · have hdk : decide ((k : Int) < (n : Int)) = true := decide_eq_true (by omega)
    have hw1 : IntKind.i64.wrap ((k : Int) + 1) = ((k + 1 : Nat) : Int) := by rw [wrap_i64_in (by omega) (by omega)]; omega
    obtain ⟨ad, rfl⟩ : ∃ ad, A = some ad := by
      obtain ⟨ad, e, _⟩ := hL.2 (by omega)
      exact ⟨ad, e⟩
    have hcs := (Rd.grow hL g1).wrc hlt
    have hmu : (envInt (e 8)).toNat = k := by rw [he8]; exact Int.toNat_natCast k
    have hsn := wtk_snoc (l := L) (k := k) (by omega)
    repeat (first | rw [c_seq] | simp -dsimp only [↓RE,RU,RL,Nat.reduceLeDiff,Nat.reduceLT,pureOp,binPure,intBin,strBin,lenPure,resK,endV,↓reduceIte,Nat.reduceEqDiff,reduceCtorEq,Nat.reduceAdd,Nat.reduceMul,Int.reduceLT,Int.reduceLE,Int.reduceToNat,Int.reduceAdd,decide_true,decide_false,tf122, he0, he1, he7, he8, hdk, Int.toNat_natCast])
    refine ⟨⟨by omega, by omega⟩, (L.getD k w00).cells, rfl, hcs, ?_⟩
    repeat (first | rw [c_seq] | simp -dsimp only [↓RE,RU,RL,Nat.reduceLeDiff,Nat.reduceLT,pureOp,binPure,intBin,strBin,lenPure,resK,endV,↓reduceIte,Nat.reduceEqDiff,reduceCtorEq,Nat.reduceAdd,Nat.reduceMul,Int.reduceLT,Int.reduceLE,Int.reduceToNat,Int.reduceAdd,decide_true,decide_false,tf122, he0, he1, hcall])
    refine pts1_ok (fun w2 g2 => ?_)
    cases hkv : k0 (L.getD k w00).wr with
    | false =>
      repeat (first | rw [c_seq] | simp -dsimp only [↓RE,RU,RL,Nat.reduceLeDiff,Nat.reduceLT,pureOp,binPure,intBin,strBin,lenPure,resK,endV,↓reduceIte,Nat.reduceEqDiff,reduceCtorEq,Nat.reduceAdd,Nat.reduceMul,Int.reduceLT,Int.reduceLE,Int.reduceToNat,Int.reduceAdd,decide_true,decide_false,tf122, he8, Bool.not_false])
      exact h w2 k (g1.trans g2) (.inr ⟨k, rfl, hlt, hall, hkv⟩)
    | true =>
      repeat (first | rw [c_seq] | simp -dsimp only [↓RE,RU,RL,Nat.reduceLeDiff,Nat.reduceLT,pureOp,binPure,intBin,strBin,lenPure,resK,endV,↓reduceIte,Nat.reduceEqDiff,reduceCtorEq,Nat.reduceAdd,Nat.reduceMul,Int.reduceLT,Int.reduceLE,Int.reduceToNat,Int.reduceAdd,decide_true,decide_false,tf122, he8, hw1, Bool.not_true])
      refine hold_intro ⟨⟨g1.trans g2, ⟨?_, ?_, ?_⟩, k + 1, hlt, ?_, fun x hx => ?_⟩, ?_⟩
      · simp -dsimp only [↓RE,RU,RL,↓reduceIte,Nat.reduceEqDiff,reduceCtorEq,decide_true,decide_false, he0]
      · simp -dsimp only [↓RE,RU,RL,↓reduceIte,Nat.reduceEqDiff,reduceCtorEq,decide_true,decide_false, he1]
      · simp -dsimp only [↓RE,RU,RL,↓reduceIte,Nat.reduceEqDiff,reduceCtorEq,decide_true,decide_false, he7]
      · simp -dsimp only [↓RE,RU,RL,↓reduceIte,Nat.reduceEqDiff,reduceCtorEq,decide_true,decide_false, hw1]
      · rw [hsn] at hx
        rcases List.mem_append.1 hx with hx | hx
        · exact hall x hx
        · rw [List.mem_singleton.1 hx]; exact hkv
      · rw [hmu]
        simp -dsimp only [↓RE,↓c_seq,RU,RL,Nat.reduceLeDiff,Nat.reduceLT,pureOp,binPure,intBin,strBin,lenPure,resK,endV,↓reduceIte,Nat.reduceEqDiff,reduceCtorEq,Nat.reduceAdd,Nat.reduceMul,Int.reduceLT,Int.reduceLE,Int.reduceToNat,Int.reduceAdd,decide_true,decide_false,tf122, hw1]
        simp only [envInt_int]; omega
  · have hdk : decide ((k : Int) < (n : Int)) = false := decide_eq_false (by omega)
    repeat (first | rw [c_seq] | simp -dsimp only [↓RE,RU,RL,Nat.reduceLeDiff,Nat.reduceLT,pureOp,binPure,intBin,strBin,lenPure,resK,endV,↓reduceIte,Nat.reduceEqDiff,reduceCtorEq,Nat.reduceAdd,Nat.reduceMul,Int.reduceLT,Int.reduceLE,Int.reduceToNat,Int.reduceAdd,decide_true,decide_false,tf122, he7, he8, hdk])
    exact h w1 (-1) g1 (.inl ⟨rfl, fun x hx => hall x (by rw [List.take_of_length_le (by omega)]; exact hx)⟩)
set_option maxHeartbeats 4000000 in
theorem delf_ok {w : World} {A : Option Addr} {n c : Nat} {L : List WrV} (hL : LRow w 60 6 (.slice A n c) n (L.flatMap WrV.cells)) (hn : n ≤ 100000000000) {R : VWK}
    (h : ∀ w' A' m c', LRow w' 60 6 (.slice A' m c') m ((L.filter kV).flatMap WrV.cells) → Keep (fun q => fpA A q) w w' → (∀ q, fpA A' q → fpA A q) → R (.slice A' m c') w') :
    CallsV Tryz.prog 63 [.slice A n c, .func (.func 62) #[] #[]] w R := by
  have hl := Rd.wlen hL.rd
  have hcall := fun xs w K tk => callK_func can_pts1 xs w (K := K) (tk := tk)
  refine calls_of_wpC mixed Tryz.func63 rfl (by kernel_rfl) ?_
  intro e he
  have he0 := he 0
  have he1 := he 1
  simp only [List.getD_cons_zero, List.getD_cons_succ] at he0 he1
  clear he
  repeat (first | rw [c_seq] | simp -dsimp only [↓RE,RU,RL,Nat.reduceLeDiff,Nat.reduceLT,pureOp,binPure,intBin,strBin,eqPure,isConstO,unPure,sliceLo,sliceHi,slicePure,lenPure,resK,endV,↓reduceIte,Nat.reduceEqDiff,reduceCtorEq,Nat.reduceAdd,Nat.reduceMul,Nat.reduceSub,Int.reduceLT,Int.reduceLE,Int.reduceToNat,Int.reduceAdd,decide_true,decide_false,tf63, he0, he1])
  refine idxf_ok hL.rd hn (fun w1 r g1 hr => ?_)
  rcases hr with ⟨rfl, hall⟩ | ⟨k, rfl, hk, hall, hkf⟩
  · have d1 : decide ((-1 : Int) = -1) = true := rfl
    repeat (first | rw [c_seq] | simp -dsimp only [↓RE,RU,RL,Nat.reduceLeDiff,Nat.reduceLT,pureOp,binPure,intBin,strBin,eqPure,isConstO,unPure,sliceLo,sliceHi,slicePure,lenPure,resK,endV,↓reduceIte,Nat.reduceEqDiff,reduceCtorEq,Nat.reduceAdd,Nat.reduceMul,Nat.reduceSub,Int.reduceLT,Int.reduceLE,Int.reduceToNat,Int.reduceAdd,decide_true,decide_false,tf63, he0, d1])
    refine h w1 A n c ?_ (g1.mono (fun _ _ h => h.elim)) (fun q hq => hq)
    rw [List.filter_eq_self.2 hall]
    exact hL.grow g1
  · have d1 : decide ((k : Int) = -1) = false := decide_eq_false (by omega)
    have hw0 : IntKind.i64.wrap ((k : Int) + 1) = ((k + 1 : Nat) : Int) := by rw [wrap_i64_in (by omega) (by omega)]; omega
    rcases hL.2 with ⟨_, h0⟩ | ⟨g, c', cur, hv, _, hnc, _⟩
    · omega
    injection hv with hA _ hc
    subst hA; subst hc
    have hsn := wtk_snoc (l := L) (k := k) (by omega)
    repeat (first | rw [c_seq] | simp -dsimp only [↓RE,RU,RL,Nat.reduceLeDiff,Nat.reduceLT,pureOp,binPure,intBin,strBin,eqPure,isConstO,unPure,sliceLo,sliceHi,slicePure,lenPure,resK,endV,↓reduceIte,Nat.reduceEqDiff,reduceCtorEq,Nat.reduceAdd,Nat.reduceMul,Nat.reduceSub,Int.reduceLT,Int.reduceLE,Int.reduceToNat,Int.reduceAdd,decide_true,decide_false,tf63, he0, d1, hw0])
    refine wpLoop_intro (fun e' w' => (Keep (fun q => q = g) w w') ∧ (e' 0 = .slice (some ⟨g, 0, none⟩) n c ∧ e' 1 = .func (.func 62) #[] #[]) ∧ ∃ (i j : Nat) (Z : List WrV), e' 5 = .int .i64 (i : Int) ∧ e' 6 = .int .i64 (j : Int) ∧ i < j ∧ j ≤ n ∧ Z.length = n ∧ Z.take i = (L.take j).filter kV ∧ Z.drop j = L.drop j ∧ LRow w' 60 6 (.slice (some ⟨g, 0, none⟩) n c) n (Z.flatMap WrV.cells))
      (fun e' _ => n - (envInt (e' 6)).toNat) ⟨g1.mono (fun _ _ h => h.elim), ⟨?_, ?_⟩, k, k + 1, L, ?_, ?_, Nat.lt_succ_self k, hk, hl, ?_, rfl, hL.grow g1⟩ ?_
    · simp -dsimp only [↓RE,RU,RL,↓reduceIte,Nat.reduceEqDiff,reduceCtorEq,decide_true,decide_false, he0]
    · simp -dsimp only [↓RE,RU,RL,↓reduceIte,Nat.reduceEqDiff,reduceCtorEq,decide_true,decide_false, he1]
    · simp -dsimp only [↓RE,RU,RL,↓reduceIte,Nat.reduceEqDiff,reduceCtorEq,decide_true,decide_false, he0]
    · simp -dsimp only [↓RE,RU,RL,↓reduceIte,Nat.reduceEqDiff,reduceCtorEq,decide_true,decide_false, hw0]
    · rw [hsn, List.filter_append, List.filter_eq_self.2 hall, List.filter_cons_of_neg (by rw [hkf]; simp), List.filter_nil, List.append_nil]
    clear he0 he1 e
    rintro e w2 ⟨k2, ⟨he0, he1⟩, i, j, Z, he5, he6, hij, hj, hzl, hzt, hzd, hrow⟩
    rcases Nat.lt_or_ge j n with hlt | hge
    · have hdk : decide ((j : Int) < (n : Int)) = true := decide_eq_true (by omega)
      have hw1 : IntKind.i64.wrap ((j : Int) + 1) = ((j + 1 : Nat) : Int) := by rw [wrap_i64_in (by omega) (by omega)]; omega
      have hw2 : IntKind.i64.wrap ((i : Int) + 1) = ((i + 1 : Nat) : Int) := by rw [wrap_i64_in (by omega) (by omega)]; omega
      have hcs := (LRow.rd hrow).wrc hlt
      have hmu : (envInt (e 6)).toNat = j := by rw [he6]; exact Int.toNat_natCast j
      have hsj := wtk_snoc (l := L) (k := j) (by omega)
      have hzj : Z.getD j w00 = L.getD j w00 := by
        have := congrArg (fun l => l.getD 0 w00) hzd
        simpa [List.getD_eq_getElem?_getD, List.getElem?_drop] using this
      have hzd1 : Z.drop (j + 1) = L.drop (j + 1) := by
        have := congrArg (fun l => l.drop 1) hzd
        simpa [List.drop_drop, Nat.add_comm] using this
      rw [hzj] at hcs
      generalize hx : L.getD j w00 = x at hcs hsj
      repeat (first | rw [c_seq] | simp -dsimp only [↓RE,RU,RL,Nat.reduceLeDiff,Nat.reduceLT,pureOp,binPure,intBin,strBin,eqPure,isConstO,unPure,sliceLo,sliceHi,slicePure,lenPure,resK,endV,↓reduceIte,Nat.reduceEqDiff,reduceCtorEq,Nat.reduceAdd,Nat.reduceMul,Nat.reduceSub,Int.reduceLT,Int.reduceLE,Int.reduceToNat,Int.reduceAdd,decide_true,decide_false,tf63, he0, he6, hdk, Int.toNat_natCast])
      rw [add_lit', Nat.zero_add] at hcs
      refine ⟨⟨by omega, by omega⟩, x.cells, rfl, hcs, ?_⟩
      repeat (first | rw [c_seq] | simp -dsimp only [↓RE,RU,RL,Nat.reduceLeDiff,Nat.reduceLT,pureOp,binPure,intBin,strBin,eqPure,isConstO,unPure,sliceLo,sliceHi,slicePure,lenPure,resK,endV,↓reduceIte,Nat.reduceEqDiff,reduceCtorEq,Nat.reduceAdd,Nat.reduceMul,Nat.reduceSub,Int.reduceLT,Int.reduceLE,Int.reduceToNat,Int.reduceAdd,decide_true,decide_false,tf63, he6])
      refine ⟨rfl, newN rfl (wcells_one x) (fun w3 hb3 g3 => ?_)⟩
      generalize w2.heap.size = b at hb3
      have k3 : Keep (fun q => q = g) w w3 := k2.then_grow g3
      have hrow3 := hrow.grow g3
      refine os_gen (fun e' => (e' 0 = .slice (some ⟨g, 0, none⟩) n c ∧ e' 1 = .func (.func 62) #[] #[]) ∧ e' 5 = .int .i64 (i : Int) ∧ e' 6 = .int .i64 (j : Int) ∧ e' 7 = .pointer (some ⟨b, 0, none⟩)) ⟨⟨?_, ?_⟩, ?_, ?_, ?_⟩ ?_
      · simp -dsimp only [↓RE,RU,RL,↓reduceIte,Nat.reduceEqDiff,reduceCtorEq,decide_true,decide_false, he0]
      · simp -dsimp only [↓RE,RU,RL,↓reduceIte,Nat.reduceEqDiff,reduceCtorEq,decide_true,decide_false, he1]
      · simp -dsimp only [↓RE,RU,RL,↓reduceIte,Nat.reduceEqDiff,reduceCtorEq,decide_true,decide_false, he5]
      · simp -dsimp only [↓RE,RU,RL,↓reduceIte,Nat.reduceEqDiff,reduceCtorEq,decide_true,decide_false, he6]
      · simp -dsimp only [↓RE,RU,RL,↓reduceIte,Nat.reduceEqDiff,reduceCtorEq,decide_true,decide_false, he6]
      clear he0 he1 he5 he6
      rintro e1 ⟨⟨he0, he1⟩, he5, he6, he7⟩
      repeat (first | rw [c_seq] | simp -dsimp only [↓RE,RU,RL,Nat.reduceLeDiff,Nat.reduceLT,pureOp,binPure,intBin,strBin,eqPure,isConstO,unPure,sliceLo,sliceHi,slicePure,lenPure,resK,endV,↓reduceIte,Nat.reduceEqDiff,reduceCtorEq,Nat.reduceAdd,Nat.reduceMul,Nat.reduceSub,Int.reduceLT,Int.reduceLE,Int.reduceToNat,Int.reduceAdd,decide_true,decide_false,tf63, he1, he7])
      refine hb3.aggK (cs := x.cells) (by simp [WrV.cells]) ?_
      have hxv : Value.agg (List.take 6 (List.drop 0 x.cells)).toArray = .agg x.cells.toArray := rfl
      repeat (first | rw [c_seq] | simp -dsimp only [↓RE,RU,RL,Nat.reduceLeDiff,Nat.reduceLT,pureOp,binPure,intBin,strBin,eqPure,isConstO,unPure,sliceLo,sliceHi,slicePure,lenPure,resK,endV,↓reduceIte,Nat.reduceEqDiff,reduceCtorEq,Nat.reduceAdd,Nat.reduceMul,Nat.reduceSub,Int.reduceLT,Int.reduceLE,Int.reduceToNat,Int.reduceAdd,decide_true,decide_false,tf63, he1, he7, hcall, hxv])
      refine pts1_ok (fun w4 g4 => ?_)
      have k4 : Keep (fun q => q = g) w w4 := k3.then_grow g4
      have hrow4 := hrow3.grow g4
      have hb4 := hb3.grow g4
      cases hkv : k0 x.wr with
      | false =>
        repeat (first | rw [c_seq] | simp -dsimp only [↓RE,RU,RL,Nat.reduceLeDiff,Nat.reduceLT,pureOp,binPure,intBin,strBin,eqPure,isConstO,unPure,sliceLo,sliceHi,slicePure,lenPure,resK,endV,↓reduceIte,Nat.reduceEqDiff,reduceCtorEq,Nat.reduceAdd,Nat.reduceMul,Nat.reduceSub,Int.reduceLT,Int.reduceLE,Int.reduceToNat,Int.reduceAdd,decide_true,decide_false,tf63, he6, hw1, Bool.not_false, Bool.not_true])
        refine hold_intro ⟨⟨k4, ⟨?_, ?_⟩, i, j + 1, Z, ?_, ?_, by omega, hlt, hzl, ?_, hzd1, hrow4⟩, ?_⟩
        · simp -dsimp only [↓RE,RU,RL,↓reduceIte,Nat.reduceEqDiff,reduceCtorEq,decide_true,decide_false, he0]
        · simp -dsimp only [↓RE,RU,RL,↓reduceIte,Nat.reduceEqDiff,reduceCtorEq,decide_true,decide_false, he1]
        · simp -dsimp only [↓RE,RU,RL,↓reduceIte,Nat.reduceEqDiff,reduceCtorEq,decide_true,decide_false, he5]
        · simp -dsimp only [↓RE,RU,RL,↓reduceIte,Nat.reduceEqDiff,reduceCtorEq,decide_true,decide_false, hw1]
        · rw [hzt, hsj, List.filter_append, List.filter_cons_of_neg (by show ¬ k0 x.wr = true; rw [hkv]; simp), List.filter_nil, List.append_nil]
        · rw [hmu]
          simp -dsimp only [↓RE,↓c_seq,RU,RL,Nat.reduceLeDiff,Nat.reduceLT,pureOp,binPure,intBin,strBin,eqPure,isConstO,unPure,sliceLo,sliceHi,slicePure,lenPure,resK,endV,↓reduceIte,Nat.reduceEqDiff,reduceCtorEq,Nat.reduceAdd,Nat.reduceMul,Nat.reduceSub,Int.reduceLT,Int.reduceLE,Int.reduceToNat,Int.reduceAdd,decide_true,decide_false,tf63, hw1]
          simp only [envInt_int]; omega
      | true =>
        repeat (first | rw [c_seq] | simp -dsimp only [↓RE,RU,RL,Nat.reduceLeDiff,Nat.reduceLT,pureOp,binPure,intBin,strBin,eqPure,isConstO,unPure,sliceLo,sliceHi,slicePure,lenPure,resK,endV,↓reduceIte,Nat.reduceEqDiff,reduceCtorEq,Nat.reduceAdd,Nat.reduceMul,Nat.reduceSub,Int.reduceLT,Int.reduceLE,Int.reduceToNat,Int.reduceAdd,decide_true,decide_false,tf63, he0, he5, he7, Bool.not_false, Bool.not_true, Int.toNat_natCast])
        refine hb4.aggK (cs := x.cells) (by simp [WrV.cells]) ?_
        have hst := fun (K : WK) (tk : Tok K) hK => LRow.stElem (P := Tryz.prog) (f := WrV.cells) (size := 6) wcells_len wcells_one hrow4 hzl (k := i) (by omega) x (K := K) (tk := tk) hK
        rw [add_lit', Nat.zero_add] at hst
        repeat (first | rw [c_seq] | simp -dsimp only [↓RE,RU,RL,Nat.reduceLeDiff,Nat.reduceLT,pureOp,binPure,intBin,strBin,eqPure,isConstO,unPure,sliceLo,sliceHi,slicePure,lenPure,resK,endV,↓reduceIte,Nat.reduceEqDiff,reduceCtorEq,Nat.reduceAdd,Nat.reduceMul,Nat.reduceSub,Int.reduceLT,Int.reduceLE,Int.reduceToNat,Int.reduceAdd,decide_true,decide_false,tf63, he0, he5, he7, hxv, Int.toNat_natCast])
        refine ⟨⟨by omega, by omega⟩, rfl, hst _ _ (fun w5 hr5 k5 => ?_)⟩
        have k5' : Keep (fun q => q = g) w w5 := k4.trans k5 (fun _ _ h => h) (fun _ _ h => h)
        repeat (first | rw [c_seq] | simp -dsimp only [↓RE,RU,RL,Nat.reduceLeDiff,Nat.reduceLT,pureOp,binPure,intBin,strBin,eqPure,isConstO,unPure,sliceLo,sliceHi,slicePure,lenPure,resK,endV,↓reduceIte,Nat.reduceEqDiff,reduceCtorEq,Nat.reduceAdd,Nat.reduceMul,Nat.reduceSub,Int.reduceLT,Int.reduceLE,Int.reduceToNat,Int.reduceAdd,decide_true,decide_false,tf63, he5, hw2, he6, hw1])
        refine hold_intro ⟨⟨k5', ⟨?_, ?_⟩, i + 1, j + 1, Z.set i x, ?_, ?_, by omega, hlt, by rw [List.length_set]; exact hzl, ?_, ?_, hr5⟩, ?_⟩
        · simp -dsimp only [↓RE,RU,RL,↓reduceIte,Nat.reduceEqDiff,reduceCtorEq,decide_true,decide_false, he0]
        · simp -dsimp only [↓RE,RU,RL,↓reduceIte,Nat.reduceEqDiff,reduceCtorEq,decide_true,decide_false, he1]
        · simp -dsimp only [↓RE,RU,RL,↓reduceIte,Nat.reduceEqDiff,reduceCtorEq,decide_true,decide_false, hw2]
        · simp -dsimp only [↓RE,RU,RL,↓reduceIte,Nat.reduceEqDiff,reduceCtorEq,decide_true,decide_false, hw1]
        · rw [hsj, List.filter_append, List.filter_cons_of_pos (by exact hkv), List.filter_nil, ← hzt, List.take_set, List.take_succ_eq_append_getElem (by omega), List.set_append_right _ _ (by rw [List.length_take]; omega), List.length_take, Nat.min_eq_left (by omega), Nat.sub_self]
          rfl
        · rw [List.drop_set_of_lt (by omega)]; exact hzd1
        · rw [hmu]
          simp -dsimp only [↓RE,↓c_seq,RU,RL,Nat.reduceLeDiff,Nat.reduceLT,pureOp,binPure,intBin,strBin,eqPure,isConstO,unPure,sliceLo,sliceHi,slicePure,lenPure,resK,endV,↓reduceIte,Nat.reduceEqDiff,reduceCtorEq,Nat.reduceAdd,Nat.reduceMul,Nat.reduceSub,Int.reduceLT,Int.reduceLE,Int.reduceToNat,Int.reduceAdd,decide_true,decide_false,tf63, hw1]
          simp only [envInt_int]; omega
    · have hdk : decide ((j : Int) < (n : Int)) = false := decide_eq_false (by omega)
      rw [List.take_of_length_le (l := L) (by omega)] at hzt
      have hil : (L.filter kV).length = i := by rw [← hzt, List.length_take]; omega
      rcases hrow.2 with ⟨h0, _⟩ | ⟨g', c', cur', hv', hbg, hnc', hcm', hcc', hct'⟩
      · cases h0
      injection hv' with hA' _ hc'
      injection hA' with hA'
      injection hA' with hA'
      subst hA'; subst hc'
      have hic : (c = i) = False := eq_false (by omega)
      repeat (first | rw [c_seq] | simp -dsimp only [↓RE,RU,RL,Nat.reduceLeDiff,Nat.reduceLT,pureOp,binPure,intBin,strBin,eqPure,isConstO,unPure,sliceLo,sliceHi,slicePure,lenPure,resK,endV,↓reduceIte,Nat.reduceEqDiff,reduceCtorEq,Nat.reduceAdd,Nat.reduceMul,Nat.reduceSub,Int.reduceLT,Int.reduceLE,Int.reduceToNat,Int.reduceAdd,decide_true,decide_false,tf63, he0, he5, he6, hdk, hic, add_lit', Nat.zero_add, Option.map_some, Int.toNat_natCast])
      have hcl : n * 6 ≤ cur'.length := Nat.le_trans (Nat.mul_le_mul_right _ hnc') hcc'
      have hi6 : i * 6 + (n - i) * 6 = n * 6 := by rw [← Nat.add_mul, show i + (n - i) = n by omega]
      refine ⟨by omega, genK_clear rfl (t := 42) (e := 60) (size := 6) (bytes := 80) (by kernel_rfl) (zero_oneZ (by kernel_rfl)) (g := g) (off := i * 6) (dl := n - i) (dc := c - i) (by simp -dsimp only [↓RE,RU,RL,↓reduceIte,Nat.reduceEqDiff,reduceCtorEq,decide_true,decide_false, he0, he5, hic, add_lit', Nat.zero_add, Option.map_some, Int.toNat_natCast]) hbg (by omega) (fun zs w3 hz hB3 hK3 => ?_)⟩
      repeat (first | rw [c_seq] | simp -dsimp only [↓RE,RU,RL,Nat.reduceLeDiff,Nat.reduceLT,pureOp,binPure,intBin,strBin,eqPure,isConstO,unPure,sliceLo,sliceHi,slicePure,lenPure,resK,endV,↓reduceIte,Nat.reduceEqDiff,reduceCtorEq,Nat.reduceAdd,Nat.reduceMul,Nat.reduceSub,Int.reduceLT,Int.reduceLE,Int.reduceToNat,Int.reduceAdd,decide_true,decide_false,tf63, he0, he5, add_zero', Nat.sub_zero, ite_self, Option.map_some, Int.toNat_natCast])
      refine ⟨by omega, ?_⟩
      refine h w3 _ i c ⟨by rw [flat_pre6, hil], .inr ⟨g, c, _, rfl, hB3, by omega, hcm', ?_, ?_⟩⟩ ((k2.trans hK3 (fun _ _ h => h) (fun _ _ h => h)).mono (fun q _ hq => ⟨_, rfl, hq⟩)) (fun q hq => hq)
      · rw [List.length_append, List.length_append, List.length_take, List.length_drop, hz]; omega
      · rw [List.append_assoc]
        refine (List.take_left' (by rw [List.length_take]; omega)).trans ?_
        rw [← hzt, ← flatW_take, ← hct', List.take_take, Nat.min_eq_left (Nat.mul_le_mul_right _ (by omega))]

end Go.Proofs.YtljgnocpijniiaaGreatDoor
