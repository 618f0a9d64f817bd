/- is what was copied as it was (stayed)? -/
import Derived.Test.YtljgnocpijniiaaGreatDoorCopied
import Derived.Test.YtljgnocpijniiaaGreatDoorSameP
set_option linter.unusedVariables false
set_option linter.unusedSimpArgs false
set_option maxRecDepth 100000
namespace Go.Proofs.YtljgnocpijniiaaGreatDoor
open Go

theorem rd_at_end {α : Type} {w : World} {ad : Addr} {n size : Nat} {f : α → List Value} {l : List α} {z : α} (hf : ∀ a, (f a).length = size) (h0 : 0 < size) (h : Rd w (some ad) (n + 1) size ((l ++ [z]).flatMap f)) (hl : l.length = n) :
    ∀ j v, (f z)[j]? = some v → w.cell? ((ad.add (n * size)).add j) = some v := by
  have hk : (l ++ [z])[n]? = some z := by rw [List.getElem?_append_right (by omega), hl, Nat.sub_self]; rfl
  obtain ⟨_, ad', e, hc⟩ := h.flat (size := size) (fun a _ => hf a) hk h0
  injection e with e
  subst e
  exact hc
theorem some_of_row {w : World} {e : TypeId} {size : Nat} {A : Option Addr} {n c : Nat} {xs : List Value} (h : LRow w e size (.slice A (n + 1) c) (n + 1) xs) : ∃ ad, A = some ad ∧ n + 1 ≤ c := by
  obtain ⟨A1, c1, e1, hcap, hA⟩ := h.form
  injection e1 with e1 _ e2
  subst e1; subst e2
  cases A with
  | none => exact absurd (hA rfl) (by omega)
  | some ad => exact ⟨ad, rfl, hcap⟩
set_option maxHeartbeats 4000000 in
theorem stayed_ok {w : World} {A B : Option Addr} {n c d : Nat} {Q X : List PtV} (hQ : PMark w A n c Q) (hX : RdP w B n X) (hoX : ∀ x ∈ X, x.Ok w) (he : Q.map PtV.p = X.map PtV.p) (hn : n ≤ 100000000) {R : VWK}
    (h : ∀ w', Grow w w' → R (.bool true) w') : CallsV Tryz.prog 20 [.slice A n c, .slice B n d] w R := by
  have hXl := hX.plen
  have hQl := hQ.len
  obtain ⟨ad, rfl, hcap⟩ := some_of_row hQ.row
  have hcz : ¬ c = 0 := by omega
  have hw1 : IntKind.i64.wrap ((n : Int) + 1) = ((n + 1 : Nat) : Int) := by rw [wrap_i64_in (by omega) (by omega)]; omega
  have hbm : (sMk.toList == (⟨#[109, 97, 114, 107]⟩ : ByteArray).toList) = true := beq_self_eq_true _
  refine calls_of_wpC mixed Tryz.func20 rfl (by kernel_rfl) ?_
  intro e he
  have he0 := he 0
  have he1 := he 1
  simp only [List.getD_cons_zero, List.getD_cons_succ] at he0 he1
  clear he
  repeat (first | rw [c_seq] | simp -dsimp only [↓RE,RU,RL,if_true,if_false,forall_const,implies_true,Nat.reduceLeDiff,Nat.reduceLT,pureOp,binPure,intBin,strBin,eqPure,isConstO,unPure,sliceLo,sliceHi,slicePure,lenPure,resK,endV,yieldE,↓reduceIte,Nat.reduceEqDiff,reduceCtorEq,Nat.reduceAdd,Nat.reduceMul,Nat.reduceSub,Int.reduceLT,Int.reduceLE,Int.reduceToNat,Int.reduceAdd,ne_eq,decide_true,decide_false,tf20, he0, he1])
  refine samepts_ok hQ.rd hX (fun x hx => (hQ.els x hx).1) hoX he (by omega) (fun w1 g1 => ?_)
  have hQ1 := hQ.grow g1
  have hc0 : w1.cell? (ad.add (n * 4)) = some (.string sMk) := by
    have := rd_at_end (f := PtV.cells) (size := 4) (fun _ => rfl) (by decide) (LRow.rd hQ1.row) hQl 0 (.string sMk) rfl
    rwa [add_zero'] at this
  repeat (first | rw [c_seq] | simp -dsimp only [↓RE,RU,RL,if_true,if_false,forall_const,implies_true,Nat.reduceLeDiff,Nat.reduceLT,pureOp,binPure,intBin,strBin,eqPure,isConstO,unPure,sliceLo,sliceHi,slicePure,lenPure,resK,endV,yieldE,↓reduceIte,Nat.reduceEqDiff,reduceCtorEq,Nat.reduceAdd,Nat.reduceMul,Nat.reduceSub,Int.reduceLT,Int.reduceLE,Int.reduceToNat,Int.reduceAdd,ne_eq,decide_true,decide_false,tf20, he0, he1, hw1, Int.toNat_natCast, hcz, add_zero', Nat.sub_zero, Bool.not_true])
  refine ⟨⟨by omega, by omega⟩, ?_⟩
  repeat (first | rw [c_seq] | simp -dsimp only [↓RE,RU,RL,if_true,if_false,forall_const,implies_true,Nat.reduceLeDiff,Nat.reduceLT,pureOp,binPure,intBin,strBin,eqPure,isConstO,unPure,sliceLo,sliceHi,slicePure,lenPure,resK,endV,yieldE,↓reduceIte,Nat.reduceEqDiff,reduceCtorEq,Nat.reduceAdd,Nat.reduceMul,Nat.reduceSub,Int.reduceLT,Int.reduceLE,Int.reduceToNat,Int.reduceAdd,ne_eq,decide_true,decide_false,tf20, he0, he1, hw1, Int.toNat_natCast, hcz, add_zero', Nat.sub_zero, hc0, hbm, Bool.not_true])
  refine ⟨⟨by omega, by omega⟩, ?_⟩
  repeat (first | rw [c_seq] | simp -dsimp only [↓RE,RU,RL,if_true,if_false,forall_const,implies_true,Nat.reduceLeDiff,Nat.reduceLT,pureOp,binPure,intBin,strBin,eqPure,isConstO,unPure,sliceLo,sliceHi,slicePure,lenPure,resK,endV,yieldE,↓reduceIte,Nat.reduceEqDiff,reduceCtorEq,Nat.reduceAdd,Nat.reduceMul,Nat.reduceSub,Int.reduceLT,Int.reduceLE,Int.reduceToNat,Int.reduceAdd,ne_eq,decide_true,decide_false,tf20, hc0, hbm, Bool.not_true])
  refine wpLoop_intro (fun e' w' => Grow w1 w' ∧ (e' 0 = .slice (some ad) n c ∧ e' 1 = .slice B n d) ∧ ∃ k : Nat, k ≤ n ∧ e' 5 = .int .i64 (k : Int))
    (fun e' _ => n - (envInt (e' 5)).toNat) ⟨Keep.refl _ _, ⟨?_, ?_⟩, 0, Nat.zero_le _, ?_⟩ ?_
  · simp -dsimp only [↓RE,RU,RL,if_true,if_false,↓reduceIte,Nat.reduceEqDiff,reduceCtorEq,decide_true,decide_false, he0]
  · simp -dsimp only [↓RE,RU,RL,if_true,if_false,↓reduceIte,Nat.reduceEqDiff,reduceCtorEq,decide_true,decide_false, he1]
  · simp -dsimp only [↓RE,RU,RL,if_true,if_false,↓reduceIte,Nat.reduceEqDiff,reduceCtorEq,decide_true,decide_false, he0]
    rfl
  clear he0 he1 e
  rintro e w2 ⟨g2, ⟨he0, he1⟩, k, hk, he5⟩
  rcases Nat.lt_or_ge k n with hlt | hge
  · have hdk : decide ((k : Int) < (n : Int)) = true := decide_eq_true (by omega)
    have hwk : IntKind.i64.wrap ((k : Int) + 1) = ((k + 1 : Nat) : Int) := by rw [wrap_i64_in (by omega) (by omega)]; omega
    have hmu : (envInt (e 5)).toNat = k := by rw [he5]; exact Int.toNat_natCast k
    have g02 := g1.trans g2
    obtain ⟨b, rfl⟩ : ∃ a, B = some a := by
      obtain ⟨ad, e, _⟩ := hX.2 (by omega)
      exact ⟨ad, e⟩
    have xc := fun w' (g : Grow w2 w') => (Rd.grow hX (g02.trans g)).pt hlt
    have qc := (Rd.grow hQ.rd g02).pt hlt
    have ox := hoX _ (getP_mem (l := X) (k := k) (by omega))
    obtain ⟨oq, mq⟩ := hQ.els _ (getP_mem (l := Q) (k := k) (by omega))
    have mq := mq.grow g02
    have hp : (Q.getD k p00).p = (X.getD k p00).p := by
      have := congrArg (fun l => l.getD k p00.p) he
      simp only [List.getD_eq_getElem?_getD, List.getElem?_map] at this
      simp only [List.getD_eq_getElem?_getD]
      rw [List.getElem?_eq_getElem (by omega), List.getElem?_eq_getElem (by omega)] at this ⊢
      exact this
    generalize X.getD k p00 = x at xc ox hp
    generalize Q.getD k p00 = q at qc oq mq hp
    have hnn : x.n = q.n := by rw [← ox.tags.tlen, ← mq.hn, hp]
    have hkk : x.k = q.k := by rw [← ox.fields.flen, ← mq.hk, hp]
    have hqn := oq.hn
    have hqk := oq.hk
    have x1 : ∀ w', Grow w2 w' → w'.cell? ((b.add (k * 4)).add 1) = some (.slice x.A q.n x.c) := fun w' g => by rw [← hnn]; exact xc w' g 1 _ rfl
    have x2 : ∀ w', Grow w2 w' → w'.cell? ((b.add (k * 4)).add 2) = some (.slice x.B q.k x.d) := fun w' g => by rw [← hkk]; exact xc w' g 2 _ rfl
    have q1 : w2.drew.cell? ((ad.add (k * 4)).add 1) = some (.slice q.A q.n q.c) := qc 1 _ rfl
    have q2 : w2.drew.cell? ((ad.add (k * 4)).add 2) = some (.slice q.B q.k q.d) := qc 2 _ rfl
    obtain ⟨ta, hta, htc⟩ := some_of_row mq.tg
    obtain ⟨fa, hfa, hfc⟩ := some_of_row mq.fl
    have t0 : w2.drew.cell? (ta.add (q.n * 2)) = some (.string sMk) := by
      have := rd_at_end (f := tcells) (size := 2) (fun _ => rfl) (by decide) (by have := LRow.rd mq.tg; rw [hta] at this; exact this) mq.hn 0 (.string sMk) rfl
      rwa [add_zero'] at this
    have f0 : w2.drew.cell? (fa.add (q.k * 2)) = some (.string sMk) := by
      have := rd_at_end (f := fcells) (size := 2) (fun _ => rfl) (by decide) (by have := LRow.rd mq.fl; rw [hfa] at this; exact this) mq.hk 0 (.string sMk) rfl
      rwa [add_zero'] at this
    rw [hta] at q1
    rw [hfa] at q2
    have hcn : ¬ q.c = 0 := by omega
    have hcd : ¬ q.d = 0 := by omega
    have hwn : IntKind.i64.wrap ((q.n : Int) + 1) = ((q.n + 1 : Nat) : Int) := by rw [wrap_i64_in (by omega) (by omega)]; omega
    have hwq : IntKind.i64.wrap ((q.k : Int) + 1) = ((q.k + 1 : Nat) : Int) := by rw [wrap_i64_in (by omega) (by omega)]; omega
    repeat (first | rw [c_seq] | simp -dsimp only [↓RE,RU,RL,if_true,if_false,forall_const,implies_true,Nat.reduceLeDiff,Nat.reduceLT,pureOp,binPure,intBin,strBin,eqPure,isConstO,unPure,sliceLo,sliceHi,slicePure,lenPure,resK,endV,yieldE,↓reduceIte,Nat.reduceEqDiff,reduceCtorEq,Nat.reduceAdd,Nat.reduceMul,Nat.reduceSub,Int.reduceLT,Int.reduceLE,Int.reduceToNat,Int.reduceAdd,ne_eq,decide_true,decide_false,tf20, he1, he5, hdk])
    refine wpDraw_by (Grow w2 ·) [(0, true), (1, true), (2, true), (3, true), (4, true), (5, true), (6, true), (7, true), (8, true), (9, true), (10, true), (11, true), (12, true), (13, true)] (by kernel_rfl) (Grow.drew w2) ?_
    simp only [planL, List.getElem?_toArray, List.getElem?_cons_zero, List.getElem?_cons_succ, Option.toList_some, List.map_cons, List.map_nil, List.cons_append, List.nil_append]
    repeat (first | rw [c_seq] | simp -dsimp only [↓RE,RU,RL,if_true,if_false,forall_const,implies_true,Nat.reduceLeDiff,Nat.reduceLT,pureOp,binPure,intBin,strBin,eqPure,isConstO,unPure,sliceLo,sliceHi,slicePure,lenPure,resK,endV,yieldE,↓reduceIte,Nat.reduceEqDiff,reduceCtorEq,Nat.reduceAdd,Nat.reduceMul,Nat.reduceSub,Int.reduceLT,Int.reduceLE,Int.reduceToNat,Int.reduceAdd,ne_eq,decide_true,decide_false,tf20, he1, he5, Int.toNat_natCast])
    refine ⟨⟨by omega, by omega⟩, _, x1, ?_⟩
    repeat (first | rw [c_seq] | simp -dsimp only [↓RE,RU,RL,if_true,if_false,forall_const,implies_true,Nat.reduceLeDiff,Nat.reduceLT,pureOp,binPure,intBin,strBin,eqPure,isConstO,unPure,sliceLo,sliceHi,slicePure,lenPure,resK,endV,yieldE,↓reduceIte,Nat.reduceEqDiff,reduceCtorEq,Nat.reduceAdd,Nat.reduceMul,Nat.reduceSub,Int.reduceLT,Int.reduceLE,Int.reduceToNat,Int.reduceAdd,ne_eq,decide_true,decide_false,tf20, he1, he5, Int.toNat_natCast])
    refine ⟨⟨by omega, by omega⟩, _, x2, ?_⟩
    repeat (first | rw [c_seq] | simp -dsimp only [↓RE,RU,RL,if_true,if_false,forall_const,implies_true,Nat.reduceLeDiff,Nat.reduceLT,pureOp,binPure,intBin,strBin,eqPure,isConstO,unPure,sliceLo,sliceHi,slicePure,lenPure,resK,endV,yieldE,↓reduceIte,Nat.reduceEqDiff,reduceCtorEq,Nat.reduceAdd,Nat.reduceMul,Nat.reduceSub,Int.reduceLT,Int.reduceLE,Int.reduceToNat,Int.reduceAdd,ne_eq,decide_true,decide_false,tf20, he0, he5, Int.toNat_natCast])
    refine ⟨⟨by omega, by omega⟩, ?_⟩
    repeat (first | rw [c_seq] | simp -dsimp only [↓RE,RU,RL,if_true,if_false,forall_const,implies_true,Nat.reduceLeDiff,Nat.reduceLT,pureOp,binPure,intBin,strBin,eqPure,isConstO,unPure,sliceLo,sliceHi,slicePure,lenPure,resK,endV,yieldE,↓reduceIte,Nat.reduceEqDiff,reduceCtorEq,Nat.reduceAdd,Nat.reduceMul,Nat.reduceSub,Int.reduceLT,Int.reduceLE,Int.reduceToNat,Int.reduceAdd,ne_eq,decide_true,decide_false,tf20, he0, he5, q1, hwn, hcn, add_zero', Nat.sub_zero, Int.toNat_natCast])
    refine ⟨⟨by omega, by omega⟩, ⟨by omega, by omega⟩, ?_⟩
    repeat (first | rw [c_seq] | simp -dsimp only [↓RE,RU,RL,if_true,if_false,forall_const,implies_true,Nat.reduceLeDiff,Nat.reduceLT,pureOp,binPure,intBin,strBin,eqPure,isConstO,unPure,sliceLo,sliceHi,slicePure,lenPure,resK,endV,yieldE,↓reduceIte,Nat.reduceEqDiff,reduceCtorEq,Nat.reduceAdd,Nat.reduceMul,Nat.reduceSub,Int.reduceLT,Int.reduceLE,Int.reduceToNat,Int.reduceAdd,ne_eq,decide_true,decide_false,tf20, he0, he5, t0, hbm, Bool.not_true, Int.toNat_natCast])
    refine ⟨⟨by omega, by omega⟩, ?_⟩
    repeat (first | rw [c_seq] | simp -dsimp only [↓RE,RU,RL,if_true,if_false,forall_const,implies_true,Nat.reduceLeDiff,Nat.reduceLT,pureOp,binPure,intBin,strBin,eqPure,isConstO,unPure,sliceLo,sliceHi,slicePure,lenPure,resK,endV,yieldE,↓reduceIte,Nat.reduceEqDiff,reduceCtorEq,Nat.reduceAdd,Nat.reduceMul,Nat.reduceSub,Int.reduceLT,Int.reduceLE,Int.reduceToNat,Int.reduceAdd,ne_eq,decide_true,decide_false,tf20, he0, he5, q2, hwq, hcd, add_zero', Nat.sub_zero, Int.toNat_natCast])
    refine ⟨⟨by omega, by omega⟩, ⟨by omega, by omega⟩, ?_⟩
    repeat (first | rw [c_seq] | simp -dsimp only [↓RE,RU,RL,if_true,if_false,forall_const,implies_true,Nat.reduceLeDiff,Nat.reduceLT,pureOp,binPure,intBin,strBin,eqPure,isConstO,unPure,sliceLo,sliceHi,slicePure,lenPure,resK,endV,yieldE,↓reduceIte,Nat.reduceEqDiff,reduceCtorEq,Nat.reduceAdd,Nat.reduceMul,Nat.reduceSub,Int.reduceLT,Int.reduceLE,Int.reduceToNat,Int.reduceAdd,ne_eq,decide_true,decide_false,tf20, he5, f0, hbm, Bool.not_true, hwk])
    refine hold_intro ⟨⟨g2.trans (Grow.drew w2), ⟨?_, ?_⟩, k + 1, hlt, ?_⟩, ?_⟩
    · simp -dsimp only [↓RE,RU,RL,if_true,if_false,↓reduceIte,Nat.reduceEqDiff,reduceCtorEq,decide_true,decide_false, he0]
    · simp -dsimp only [↓RE,RU,RL,if_true,if_false,↓reduceIte,Nat.reduceEqDiff,reduceCtorEq,decide_true,decide_false, he1]
    · simp -dsimp only [↓RE,RU,RL,if_true,if_false,↓reduceIte,Nat.reduceEqDiff,reduceCtorEq,decide_true,decide_false, hwk]
    · rw [hmu]
      simp -dsimp only [↓RE,↓c_seq,RU,RL,if_true,if_false,forall_const,implies_true,Nat.reduceLeDiff,Nat.reduceLT,pureOp,binPure,intBin,strBin,eqPure,isConstO,unPure,sliceLo,sliceHi,slicePure,lenPure,resK,endV,yieldE,↓reduceIte,Nat.reduceEqDiff,reduceCtorEq,Nat.reduceAdd,Nat.reduceMul,Nat.reduceSub,Int.reduceLT,Int.reduceLE,Int.reduceToNat,Int.reduceAdd,ne_eq,decide_true,decide_false,tf20, hwk]
      simp only [envInt_int]; omega
  · have hdk : decide ((k : Int) < (n : Int)) = false := decide_eq_false (by omega)
    repeat (first | rw [c_seq] | simp -dsimp only [↓RE,RU,RL,if_true,if_false,forall_const,implies_true,Nat.reduceLeDiff,Nat.reduceLT,pureOp,binPure,intBin,strBin,eqPure,isConstO,unPure,sliceLo,sliceHi,slicePure,lenPure,resK,endV,yieldE,↓reduceIte,Nat.reduceEqDiff,reduceCtorEq,Nat.reduceAdd,Nat.reduceMul,Nat.reduceSub,Int.reduceLT,Int.reduceLE,Int.reduceToNat,Int.reduceAdd,ne_eq,decide_true,decide_false,tf20, he1, he5, hdk])
    exact h w2 (g1.trans g2)

end Go.Proofs.YtljgnocpijniiaaGreatDoor
