/- The law BatchBack, walked. -/
import Derived.Test.YtljgnocpijniiaaGreatDoorLives
import Derived.Test.YtljgnocpijniiaaGreatDoorPtsB
import Derived.Test.YtljgnocpijniiaaGreatDoorBackS
import Derived.Test.YtljgnocpijniiaaGreatDoorMerge7
set_option linter.unusedVariables false
set_option linter.unusedSimpArgs false
set_option maxRecDepth 100000
namespace Go.Proofs.YtljgnocpijniiaaGreatDoor
open Go

theorem pts_ok {w0 : World} {X : List PtV} (hoX : ∀ x ∈ X, x.Ok w0) {w : World} {u : PtV} (hu : PtOwn w u) (hq : u.p ∈ pAll (sayW (X.map PtV.p))) (h16 : u.p.fields.length ≤ 16) : u.Ok w := by
  have ht := hu.tg.rd.tlen
  have hf := hu.fl.rd.flen
  obtain ⟨p, hp, e1, e2, e3⟩ := pt_from hq
  obtain ⟨x, hx, rfl⟩ := List.mem_map.1 hp
  have hox := hoX x hx
  have hsl := srtT_len x.p.tags
  have htl := hox.tags.tlen
  have hfd : ∀ f ∈ u.p.fields, ∃ x ∈ X, f ∈ x.p.fields := fun f hf => by
    obtain ⟨p, hp, hf⟩ := fd_from hq hf
    obtain ⟨x, hx, rfl⟩ := List.mem_map.1 hp
    exact ⟨x, hx, hf⟩
  refine ⟨hu.tg.rd, hu.fl.rd, ?_, ?_, by rw [e1]; exact hox.hm, fun t htm => ?_, fun f hfm => ?_, by rw [e3]; exact hox.time, fun f hfm => ?_⟩
  · have := hox.hn
    rw [e2] at ht
    omega
  · omega
  · rw [e2] at htm
    rcases gLoad_mem htm with h | h
    · exact hox.ht t h
    · cases h
  · obtain ⟨x, hx, hf⟩ := hfd f hfm
    exact (hoX x hx).hf f hf
  · obtain ⟨x, hx, hf⟩ := hfd f hfm
    exact (hoX x hx).nums f hf
set_option maxHeartbeats 4000000 in
theorem back_walk {w : World} {A : Option Addr} {n c : Nat} {X : List PtV} (hX : RdP w A n X) (hoX : ∀ x ∈ X, x.Ok w ∧ x.n ≤ 1048576 ∧ x.k ≤ 1048576) (hn : n ≤ 1048576) (hL : Lay w) (hT : Tabs w) {R : VWK}
    (h : ∀ w', Grow w w' → R (.bool true) w') : CallsV Tryz.prog 11 [.slice A n c] w R := by
  have hoX : ∀ x ∈ X, x.Ok w := fun x hx => (hoX x hx).1
  have hfew := flatL_len (X.map PtV.p)
  have d00 : decide ((0 : Int) = 0) = true := rfl
  refine calls_of_wpC mixed Tryz.func11 rfl (by kernel_rfl) ?_
  intro e he
  have he0 := he 0
  simp only [List.getD_cons_zero, List.getD_cons_succ] at he0
  clear he
  repeat (first | rw [c_seq] | simp -dsimp only [↓RE,RU,RL,if_true,if_false,forall_const,implies_true,Nat.reduceLeDiff,Nat.reduceLT,pureOp,binPure,intBin,strBin,eqPure,isConstO,lenPure,resK,endV,yieldE,↓reduceIte,Nat.reduceEqDiff,reduceCtorEq,Nat.reduceAdd,Nat.reduceMul,Int.reduceLT,Int.reduceLE,Int.reduceToNat,Int.reduceAdd,ne_eq,decide_true,decide_false,tf11, he0])
  refine bflat_ok hX hoX (by omega) hT (fun w1 v1 D1 hD1 g1 => ?_)
  rw [← hD1.eq, List.length_map] at hfew
  obtain ⟨A1, c1, rfl, _, _⟩ := hD1.row.form
  cases hck : checkE (X.map PtV.p) with
  | some y =>
    have hd : decide (y.code = 0) = false := decide_eq_false (checkE_code hck)
    have hD0 : D1.length = 0 := by
      rw [← List.length_map (f := WrV.wr), hD1.eq]
      unfold flatL
      rw [hck]; rfl
    rw [hD0]
    have h00 : ((0 : Nat) : Int) = 0 := rfl
    repeat (first | rw [c_seq] | simp -dsimp only [↓RE,RU,RL,if_true,if_false,forall_const,implies_true,Nat.reduceLeDiff,Nat.reduceLT,pureOp,binPure,intBin,strBin,eqPure,isConstO,lenPure,resK,endV,yieldE,↓reduceIte,Nat.reduceEqDiff,reduceCtorEq,Nat.reduceAdd,Nat.reduceMul,Int.reduceLT,Int.reduceLE,Int.reduceToNat,Int.reduceAdd,ne_eq,decide_true,decide_false,tf11, he0, errOf, Er.v, Bool.not_false])
    refine live7_ok (hL.grow g1) (hT.grow g1) (fun w2 g2 => ?_)
    have g02 := g1.trans g2
    repeat (first | rw [c_seq] | simp -dsimp only [↓RE,RU,RL,if_true,if_false,forall_const,implies_true,Nat.reduceLeDiff,Nat.reduceLT,pureOp,binPure,intBin,strBin,eqPure,isConstO,lenPure,resK,endV,yieldE,↓reduceIte,Nat.reduceEqDiff,reduceCtorEq,Nat.reduceAdd,Nat.reduceMul,Int.reduceLT,Int.reduceLE,Int.reduceToNat,Int.reduceAdd,ne_eq,decide_true,decide_false,tf11, he0, h00, d00])
    refine qcheck_ok (hX.grow g02) (all_grow hoX g02) (by omega) (fun w3 g3 => ?_)
    rw [hck]
    repeat (first | rw [c_seq] | simp -dsimp only [↓RE,RU,RL,if_true,if_false,forall_const,implies_true,Nat.reduceLeDiff,Nat.reduceLT,pureOp,binPure,intBin,strBin,eqPure,isConstO,lenPure,resK,endV,yieldE,↓reduceIte,Nat.reduceEqDiff,reduceCtorEq,Nat.reduceAdd,Nat.reduceMul,Int.reduceLT,Int.reduceLE,Int.reduceToNat,Int.reduceAdd,ne_eq,decide_true,decide_false,tf11, he0, badOf, BadV.v, BadV.cells, Er.bad, hd, Bool.not_false])
    exact h w3 (g02.trans g3)
  | none =>
    have hfl := flatL_none hck
    have hD1e := hD1.eq
    rw [hfl] at hD1e
    repeat (first | rw [c_seq] | simp -dsimp only [↓RE,RU,RL,if_true,if_false,forall_const,implies_true,Nat.reduceLeDiff,Nat.reduceLT,pureOp,binPure,intBin,strBin,eqPure,isConstO,lenPure,resK,endV,yieldE,↓reduceIte,Nat.reduceEqDiff,reduceCtorEq,Nat.reduceAdd,Nat.reduceMul,Int.reduceLT,Int.reduceLE,Int.reduceToNat,Int.reduceAdd,ne_eq,decide_true,decide_false,tf11, he0, errOf, Bool.not_true])
    refine bpoints_ok hD1.row.rd (fun x hx => (hD1.ok x hx).1) (by omega) (fun w2 v2 D2 hD2 g2 => ?_)
    have hD2e := hD2.eq
    rw [hD1e, say_pts] at hD2e
    have hl2 : D2.length ≤ 10000 := by
      have h1 := pts_few (l := X.map PtV.p)
      have h2 := (check_few hck).1
      rw [← hD2e, List.length_map] at h1
      omega
    have g02 := g1.trans g2
    obtain ⟨A2, c2, rfl, _, _⟩ := hD2.row.form
    have d1 : decide ((10000 : Int) < (D2.length : Nat)) = false := decide_eq_false (by omega)
    repeat (first | rw [c_seq] | simp -dsimp only [↓RE,RU,RL,if_true,if_false,forall_const,implies_true,Nat.reduceLeDiff,Nat.reduceLT,pureOp,binPure,intBin,strBin,eqPure,isConstO,lenPure,resK,endV,yieldE,↓reduceIte,Nat.reduceEqDiff,reduceCtorEq,Nat.reduceAdd,Nat.reduceMul,Int.reduceLT,Int.reduceLE,Int.reduceToNat,Int.reduceAdd,ne_eq,decide_true,decide_false,tf11, he0, d1])
    refine wpLoop_intro (fun e' w' => w' = w2 ∧ (e' 3 = .slice A1 D1.length c1 ∧ e' 5 = .slice A2 D2.length c2) ∧ ∃ k : Nat, k ≤ D2.length ∧ e' 6 = .int .i64 (k : Int) ∧ ∀ u ∈ D2.take k, u.p.fields.length ≤ 16)
      (fun e' _ => D2.length - (envInt (e' 6)).toNat) ⟨rfl, ⟨?_, ?_⟩, 0, Nat.zero_le _, ?_, fun u hu => by simp at hu⟩ ?_
    · simp -dsimp only [↓RE,RU,RL,if_true,if_false,↓reduceIte,Nat.reduceEqDiff,reduceCtorEq,decide_true,decide_false, he0]
    · simp -dsimp only [↓RE,RU,RL,if_true,if_false,↓reduceIte,Nat.reduceEqDiff,reduceCtorEq,decide_true,decide_false, he0]
    · simp -dsimp only [↓RE,RU,RL,if_true,if_false,↓reduceIte,Nat.reduceEqDiff,reduceCtorEq,decide_true,decide_false, he0]
      rfl
    clear he0 e
    rintro e w2' ⟨rfl, ⟨he3, he5⟩, k, hk, he6, h16⟩
    rcases Nat.lt_or_ge k D2.length with hlt | hge
    · have hdk : decide ((k : Int) < (D2.length : Nat)) = true := decide_eq_true (by omega)
      have hw1 : IntKind.i64.wrap ((k : Int) + 1) = ((k + 1 : Nat) : Int) := by rw [wrap_i64_in (by omega) (by omega)]; omega
      have hmu : (envInt (e 6)).toNat = k := by rw [he6]; exact Int.toNat_natCast k
      have hrd := hD2.row.rd
      obtain ⟨ad, rfl⟩ : ∃ ad, A2 = some ad := by
        obtain ⟨ad, e, _⟩ := hrd.2 (by omega)
        exact ⟨ad, e⟩
      have hcs := Rd.pt hrd hlt
      have hsn := ptk_snoc (l := D2) (k := k) hlt
      have huo := (hD2.own _ (getP_mem (l := D2) (k := k) hlt)).fl.rd.flen
      generalize D2.getD k p00 = u at hcs hsn huo
      have c2a : w2'.cell? ((ad.add (k * 4)).add 2) = some (.slice u.B u.k u.d) := hcs 2 _ rfl
      by_cases hu16 : u.k ≤ 16
      · have d16 : decide ((16 : Int) < (u.k : Nat)) = false := decide_eq_false (by omega)
        repeat (first | rw [c_seq] | simp -dsimp only [↓RE,RU,RL,if_true,if_false,forall_const,implies_true,Nat.reduceLeDiff,Nat.reduceLT,pureOp,binPure,intBin,strBin,eqPure,isConstO,lenPure,resK,endV,yieldE,↓reduceIte,Nat.reduceEqDiff,reduceCtorEq,Nat.reduceAdd,Nat.reduceMul,Int.reduceLT,Int.reduceLE,Int.reduceToNat,Int.reduceAdd,ne_eq,decide_true,decide_false,tf11, he5, he6, hdk, Int.toNat_natCast])
        refine ⟨⟨by omega, by omega⟩, ?_⟩
        repeat (first | rw [c_seq] | simp -dsimp only [↓RE,RU,RL,if_true,if_false,forall_const,implies_true,Nat.reduceLeDiff,Nat.reduceLT,pureOp,binPure,intBin,strBin,eqPure,isConstO,lenPure,resK,endV,yieldE,↓reduceIte,Nat.reduceEqDiff,reduceCtorEq,Nat.reduceAdd,Nat.reduceMul,Int.reduceLT,Int.reduceLE,Int.reduceToNat,Int.reduceAdd,ne_eq,decide_true,decide_false,tf11, he6, c2a, d16, hw1])
        refine hold_intro ⟨⟨rfl, ⟨?_, ?_⟩, k + 1, hlt, ?_, fun t ht => ?_⟩, ?_⟩
        · simp -dsimp only [↓RE,RU,RL,if_true,if_false,↓reduceIte,Nat.reduceEqDiff,reduceCtorEq,decide_true,decide_false, he3]
        · simp -dsimp only [↓RE,RU,RL,if_true,if_false,↓reduceIte,Nat.reduceEqDiff,reduceCtorEq,decide_true,decide_false, he5]
        · simp -dsimp only [↓RE,RU,RL,if_true,if_false,↓reduceIte,Nat.reduceEqDiff,reduceCtorEq,decide_true,decide_false, hw1]
        · rw [hsn] at ht
          rcases List.mem_append.1 ht with ht | ht
          · exact h16 t ht
          · rw [List.mem_singleton.1 ht]; omega
        · rw [hmu]
          simp -dsimp only [↓RE,↓c_seq,RU,RL,if_true,if_false,forall_const,implies_true,Nat.reduceLeDiff,Nat.reduceLT,pureOp,binPure,intBin,strBin,eqPure,isConstO,lenPure,resK,endV,yieldE,↓reduceIte,Nat.reduceEqDiff,reduceCtorEq,Nat.reduceAdd,Nat.reduceMul,Int.reduceLT,Int.reduceLE,Int.reduceToNat,Int.reduceAdd,ne_eq,decide_true,decide_false,tf11, hw1]
          simp only [envInt_int]; omega
      · have d16 : decide ((16 : Int) < (u.k : Nat)) = true := decide_eq_true (by omega)
        repeat (first | rw [c_seq] | simp -dsimp only [↓RE,RU,RL,if_true,if_false,forall_const,implies_true,Nat.reduceLeDiff,Nat.reduceLT,pureOp,binPure,intBin,strBin,eqPure,isConstO,lenPure,resK,endV,yieldE,↓reduceIte,Nat.reduceEqDiff,reduceCtorEq,Nat.reduceAdd,Nat.reduceMul,Int.reduceLT,Int.reduceLE,Int.reduceToNat,Int.reduceAdd,ne_eq,decide_true,decide_false,tf11, he5, he6, hdk, Int.toNat_natCast])
        refine ⟨⟨by omega, by omega⟩, ?_⟩
        repeat (first | rw [c_seq] | simp -dsimp only [↓RE,RU,RL,if_true,if_false,forall_const,implies_true,Nat.reduceLeDiff,Nat.reduceLT,pureOp,binPure,intBin,strBin,eqPure,isConstO,lenPure,resK,endV,yieldE,↓reduceIte,Nat.reduceEqDiff,reduceCtorEq,Nat.reduceAdd,Nat.reduceMul,Int.reduceLT,Int.reduceLE,Int.reduceToNat,Int.reduceAdd,ne_eq,decide_true,decide_false,tf11, he6, c2a, d16])
        refine live7_ok (hL.grow g02) (hT.grow g02) (fun w3 g3 => ?_)
        repeat (first | rw [c_seq] | simp -dsimp only [↓RE,RU,RL,if_true,if_false,forall_const,implies_true,Nat.reduceLeDiff,Nat.reduceLT,pureOp,binPure,intBin,strBin,eqPure,isConstO,lenPure,resK,endV,yieldE,↓reduceIte,Nat.reduceEqDiff,reduceCtorEq,Nat.reduceAdd,Nat.reduceMul,Int.reduceLT,Int.reduceLE,Int.reduceToNat,Int.reduceAdd,ne_eq,decide_true,decide_false,tf11, he6])
        exact h w3 (g02.trans g3)
    · have hdk : decide ((k : Int) < (D2.length : Nat)) = false := decide_eq_false (by omega)
      rw [List.take_of_length_le (by omega)] at h16
      have hq16 : ∀ q ∈ pAll (sayW (X.map PtV.p)), q.fields.length ≤ 16 := fun q hq => by
        rw [← hD2e] at hq
        obtain ⟨u, hu, rfl⟩ := List.mem_map.1 hq
        exact h16 u hu
      have hbc := back_check hck hq16
      repeat (first | rw [c_seq] | simp -dsimp only [↓RE,RU,RL,if_true,if_false,forall_const,implies_true,Nat.reduceLeDiff,Nat.reduceLT,pureOp,binPure,intBin,strBin,eqPure,isConstO,lenPure,resK,endV,yieldE,↓reduceIte,Nat.reduceEqDiff,reduceCtorEq,Nat.reduceAdd,Nat.reduceMul,Int.reduceLT,Int.reduceLE,Int.reduceToNat,Int.reduceAdd,ne_eq,decide_true,decide_false,tf11, he5, he6, hdk])
      refine bflat_ok hD2.row.rd (fun u hu => pts_ok hoX (hD2.own u hu) (by rw [← hD2e]; exact List.mem_map_of_mem hu) (h16 u hu)) (by omega) (hT.grow g02) (fun w3 v3 D3 hD3 g3 => ?_)
      rw [hD2e, hbc]
      have hD3e := hD3.eq
      rw [hD2e, flatL_none hbc, back_say] at hD3e
      have g03 := g02.trans g3
      have hl3 : D3.length = D1.length := by
        have a := congrArg List.length hD3e
        have b := congrArg List.length hD1e
        rw [List.length_map] at a b
        exact a.trans b.symm
      obtain ⟨A3, c3, rfl, _, _⟩ := hD3.row.form
      repeat (first | rw [c_seq] | simp -dsimp only [↓RE,RU,RL,if_true,if_false,forall_const,implies_true,Nat.reduceLeDiff,Nat.reduceLT,pureOp,binPure,intBin,strBin,eqPure,isConstO,lenPure,resK,endV,yieldE,↓reduceIte,Nat.reduceEqDiff,reduceCtorEq,Nat.reduceAdd,Nat.reduceMul,Int.reduceLT,Int.reduceLE,Int.reduceToNat,Int.reduceAdd,ne_eq,decide_true,decide_false,tf11, he3, errOf])
      refine live7_ok (hL.grow g03) (hT.grow g03) (fun w4 g4 => ?_)
      have hE1 := hD1.grow ((g2.trans g3).trans g4)
      have hE3 := hD3.grow g4
      repeat (first | rw [c_seq] | simp -dsimp only [↓RE,RU,RL,if_true,if_false,forall_const,implies_true,Nat.reduceLeDiff,Nat.reduceLT,pureOp,binPure,intBin,strBin,eqPure,isConstO,lenPure,resK,endV,yieldE,↓reduceIte,Nat.reduceEqDiff,reduceCtorEq,Nat.reduceAdd,Nat.reduceMul,Int.reduceLT,Int.reduceLE,Int.reduceToNat,Int.reduceAdd,ne_eq,decide_true,decide_false,tf11, he3, errOf])
      refine samew_ok hE1.row.rd hE3.row.rd (fun x hx => (hE1.ok x hx).1) (fun x hx => (hE3.ok x hx).1) (by omega) (by omega) (fun w5 g5 => ?_)
      rw [hD1e, hD3e, decide_eq_true rfl]
      repeat (first | rw [c_seq] | simp -dsimp only [↓RE,RU,RL,if_true,if_false,forall_const,implies_true,Nat.reduceLeDiff,Nat.reduceLT,pureOp,binPure,intBin,strBin,eqPure,isConstO,lenPure,resK,endV,yieldE,↓reduceIte,Nat.reduceEqDiff,reduceCtorEq,Nat.reduceAdd,Nat.reduceMul,Int.reduceLT,Int.reduceLE,Int.reduceToNat,Int.reduceAdd,ne_eq,decide_true,decide_false,tf11, he3])
      exact h w5 ((g03.trans g4).trans g5)

end Go.Proofs.YtljgnocpijniiaaGreatDoor
