/- batch.Flat. -/
import Derived.Test.YtljgnocpijniiaaGreatDoorChk
import Derived.Test.YtljgnocpijniiaaGreatDoorOrdQ
set_option linter.unusedVariables false
set_option linter.unusedSimpArgs false
set_option maxRecDepth 100000
namespace Go.Proofs.YtljgnocpijniiaaGreatDoor
open Go

def wrOf (p : Pt) (f : Fd) : Wr := (⟨p.m, srtT p.tags, f.1⟩, (p.t, 0, f.2))
def ptW (p : Pt) : List Wr := p.fields.map (wrOf p)
/-- what points say, one behind the other. -/
def flatW (l : List Pt) : List Wr := l.flatMap ptW
def flatL (l : List Pt) : List Wr := if (checkE l).isSome then [] else wOrd (flatW l)
theorem firstE_all : ∀ {l : List Pt} {i : Nat}, firstE i l = none → ∀ q ∈ l, rightE q = none
  | [], i, _, q, hq => by cases hq
  | a :: l, i, h, q, hq => by
    rw [firstE] at h
    cases hr : rightE a with
    | some y => rw [hr] at h; cases h
    | none =>
      rw [hr] at h
      rcases List.mem_cons.1 hq with rfl | hq
      · exact hr
      · exact firstE_all h q hq
theorem right_few {p : Pt} (h : rightE p = none) : 1 ≤ p.fields.length ∧ p.fields.length ≤ 16 := by
  unfold rightE at h
  split at h
  · cases h
  split at h
  · cases h
  split at h
  · cases h
  rename_i hf
  have : fieldsB p.fields = true := by simpa using hf
  unfold fieldsB at this
  simp only [Bool.and_eq_true, decide_eq_true_eq] at this
  exact ⟨this.2.1.1, this.2.1.2⟩
theorem check_few {l : List Pt} (h : checkE l = none) : l.length ≤ 10000 ∧ ∀ p ∈ l, rightE p = none := by
  unfold checkE at h
  split at h
  · cases h
  · exact ⟨by omega, firstE_all h⟩
theorem flat_few : ∀ {l : List Pt}, (∀ p ∈ l, rightE p = none) → (flatW l).length ≤ 16 * l.length
  | [], _ => by simp [flatW]
  | p :: l, h => by
    have h1 := (right_few (h p List.mem_cons_self)).2
    have h2 := flat_few (l := l) (fun q hq => h q (List.mem_cons_of_mem _ hq))
    simp only [flatW, List.flatMap_cons, List.length_append, ptW, List.length_map, List.length_cons] at h2 ⊢
    have h3 : (List.flatMap ptW l).length ≤ 16 * l.length := h2
    omega
theorem flatW_snoc (l : List Pt) (p : Pt) : flatW (l ++ [p]) = flatW l ++ ptW p := by simp [flatW]
theorem ptk_snoc {l : List PtV} {k : Nat} (h : k < l.length) : l.take (k + 1) = l.take k ++ [l.getD k p00] := by
  rw [List.take_succ_eq_append_getElem h, List.getD_eq_getElem?_getD, List.getElem?_eq_getElem h]; rfl
theorem getF_mem {l : List Fd} {k : Nat} (h : k < l.length) : l.getD k f00 ∈ l := by rw [List.getD_eq_getElem?_getD, List.getElem?_eq_getElem h]; exact List.getElem_mem _
theorem flat_pre {l : List PtV} {k : Nat} (hall : ∀ p ∈ l.map PtV.p, rightE p = none) : (flatW ((l.take k).map PtV.p)).length ≤ 16 * k := by
  have := flat_few (l := (l.take k).map PtV.p) (fun p hp => hall p (by
    obtain ⟨x, hx, rfl⟩ := List.mem_map.1 hp
    exact List.mem_map_of_mem (List.mem_of_mem_take hx)))
  rw [List.length_map, List.length_take] at this
  omega
set_option maxHeartbeats 2000000 in
theorem bflat_ok {w : World} {A : Option Addr} {n c : Nat} {l : List PtV} (hR : RdP w A n l) (ho : ∀ x ∈ l, x.Ok w) (hn : n ≤ 100000000000) (hT : Tabs w) {R : VWK}
    (h : ∀ w' v D, OrdR w w' v D (flatL (l.map PtV.p)) → Grow w w' → R (.tuple #[v, errOf (checkE (l.map PtV.p))]) w') : CallsV Tryz.prog 21 [.slice A n c] w R := by
  have hl := hR.plen
  unfold flatL at h
  refine calls_of_wpC mixed Tryz.func21 rfl (by kernel_rfl) ?_
  intro e he
  have he0 := he 0
  simp only [List.getD_cons_zero, List.getD_cons_succ] at he0
  clear he
  repeat (first | rw [c_seq] | simp -dsimp only [↓RE,RU,RL,Nat.reduceLeDiff,Nat.reduceLT,pureOp,binPure,intBin,strBin,eqPure,isConstO,lenPure,buildP,resK,endV,↓reduceIte,Nat.reduceEqDiff,reduceCtorEq,Nat.reduceAdd,Nat.reduceMul,Int.reduceLT,Int.reduceLE,Int.reduceToNat,Int.reduceAdd,ne_eq,decide_true,decide_false,tf21, he0])
  refine bcheck_ok hR ho hn hT (fun w0 g0 => ?_)
  cases hck : checkE (l.map PtV.p) with
  | some y =>
    rw [hck] at h
    repeat (first | rw [c_seq] | simp -dsimp only [↓RE,RU,RL,Nat.reduceLeDiff,Nat.reduceLT,pureOp,binPure,intBin,strBin,eqPure,isConstO,lenPure,buildP,resK,endV,↓reduceIte,Nat.reduceEqDiff,reduceCtorEq,Nat.reduceAdd,Nat.reduceMul,Int.reduceLT,Int.reduceLE,Int.reduceToNat,Int.reduceAdd,ne_eq,decide_true,decide_false,tf21, he0, errOf, Er.v])
    exact h w0 _ [] ⟨rfl, LRow.nil _ _ _, (fun x hx => by cases hx), fun q hq => (fpV_none _ hq).elim, (fun x hx => by cases hx), List.Pairwise.nil⟩ g0
  | none =>
    rw [hck] at h
    have h : ∀ w' v D, OrdR w w' v D (wOrd (flatW (l.map PtV.p))) → Grow w w' → R (.tuple #[v, .nilIface]) w' := h
    obtain ⟨hfew, hall⟩ := check_few hck
    rw [List.length_map, hl] at hfew
    have hpre := fun k => flat_pre (l := l) (k := k) hall
    repeat (first | rw [c_seq] | simp -dsimp only [↓RE,RU,RL,Nat.reduceLeDiff,Nat.reduceLT,pureOp,binPure,intBin,strBin,eqPure,isConstO,lenPure,buildP,resK,endV,↓reduceIte,Nat.reduceEqDiff,reduceCtorEq,Nat.reduceAdd,Nat.reduceMul,Int.reduceLT,Int.reduceLE,Int.reduceToNat,Int.reduceAdd,ne_eq,decide_true,decide_false,tf21, he0, errOf])
    refine wpLoop_intro (fun e' w' => Grow w w' ∧ (e' 16 = .slice A n c ∧ e' 17 = .int .i64 (n : Int)) ∧ ∃ (k : Nat) (Out : List WrV) (v : Value), k ≤ n ∧ e' 18 = .int .i64 (k : Int) ∧ e' 5 = v ∧ Out.map WrV.wr = flatW ((l.take k).map PtV.p) ∧ LRow w' 60 6 v Out.length (Out.flatMap WrV.cells) ∧ (∀ x ∈ Out, x.Ok w' ∧ TRow w' x) ∧ (∀ q, fpV v q → w.heap.size ≤ q))
      (fun e' _ => n - (envInt (e' 18)).toNat) ⟨g0, ⟨?_, ?_⟩, 0, [], .slice none 0 0, Nat.zero_le _, ?_, ?_, rfl, LRow.nil _ _ _, (fun x hx => by cases hx), fun q hq => (fpV_none _ hq).elim⟩ ?_
    · simp -dsimp only [↓RE,RU,RL,↓reduceIte,Nat.reduceEqDiff,reduceCtorEq,decide_true,decide_false, he0]
    · simp -dsimp only [↓RE,RU,RL,↓reduceIte,Nat.reduceEqDiff,reduceCtorEq,decide_true,decide_false, he0]
    · simp -dsimp only [↓RE,RU,RL,↓reduceIte,Nat.reduceEqDiff,reduceCtorEq,decide_true,decide_false, Int.cast_ofNat_Int]
    · simp -dsimp only [↓RE,RU,RL,↓reduceIte,Nat.reduceEqDiff,reduceCtorEq,decide_true,decide_false, he0]
    clear he0 e
    rintro e w1 ⟨g1, ⟨he16, he17⟩, k, Out, v, hk, he18, he5, hout, hv, hok, hF⟩
    rcases Nat.lt_or_ge k n with hlt | hge
    · have hdk : decide ((k : Int) < (n : Int)) = true := decide_eq_true (by omega)
      have hw1 : IntKind.i64.wrap ((k : Int) + 1) = ((k + 1 : Nat) : Int) := by rw [wrap_i64_in (by omega) (by omega)]; omega
      have hRg := hR.grow g1
      obtain ⟨ad, rfl⟩ : ∃ ad, A = some ad := by
        obtain ⟨ad, e, _⟩ := hRg.2 (by omega)
        exact ⟨ad, e⟩
      have hcs := hRg.pt hlt
      have hxm := getP_mem (l := l) (k := k) (by omega)
      have hox := ho _ hxm
      have hmu : (envInt (e 18)).toNat = k := by rw [he18]; exact Int.toNat_natCast k
      have hsn := congrArg (List.map PtV.p) (ptk_snoc (l := l) (k := k) (by omega))
      rw [List.map_append, List.map_cons, List.map_nil] at hsn
      have hfx := (right_few (hall _ (List.mem_map_of_mem hxm))).2
      have hol : Out.length ≤ 16 * k := by have := congrArg List.length hout; rw [List.length_map] at this; rw [this]; exact hpre k
      generalize l.getD k p00 = x at hcs hox hsn hfx hxm
      have hkl := hox.fields.flen
      repeat (first | rw [c_seq] | simp -dsimp only [↓RE,RU,RL,Nat.reduceLeDiff,Nat.reduceLT,pureOp,binPure,intBin,strBin,eqPure,isConstO,lenPure,buildP,resK,endV,↓reduceIte,Nat.reduceEqDiff,reduceCtorEq,Nat.reduceAdd,Nat.reduceMul,Int.reduceLT,Int.reduceLE,Int.reduceToNat,Int.reduceAdd,ne_eq,decide_true,decide_false,tf21, he16, he17, he18, hdk, Int.toNat_natCast])
      refine ⟨⟨by omega, by omega⟩, x.cells, rfl, hcs, ?_⟩
      repeat (first | rw [c_seq] | simp -dsimp only [↓RE,RU,RL,Nat.reduceLeDiff,Nat.reduceLT,pureOp,binPure,intBin,strBin,eqPure,isConstO,lenPure,buildP,resK,endV,↓reduceIte,Nat.reduceEqDiff,reduceCtorEq,Nat.reduceAdd,Nat.reduceMul,Int.reduceLT,Int.reduceLE,Int.reduceToNat,Int.reduceAdd,ne_eq,decide_true,decide_false,tf21, he18])
      refine ⟨rfl, newN (cs := x.cells) rfl (pcells_one x) (fun w2 hb g2 => ?_)⟩
      generalize w1.heap.size = b at hb
      refine os_gen (fun e' => (e' 16 = .slice (some ad) n c ∧ e' 17 = .int .i64 (n : Int)) ∧ e' 5 = v ∧ e' 7 = .pointer (some ⟨b, 0, none⟩) ∧ e' 18 = .int .i64 (k : Int)) ⟨⟨?_, ?_⟩, ?_, ?_, ?_⟩ ?_
      · simp -dsimp only [↓RE,RU,RL,↓reduceIte,Nat.reduceEqDiff,reduceCtorEq,decide_true,decide_false, he16]
      · simp -dsimp only [↓RE,RU,RL,↓reduceIte,Nat.reduceEqDiff,reduceCtorEq,decide_true,decide_false, he17]
      · simp -dsimp only [↓RE,RU,RL,↓reduceIte,Nat.reduceEqDiff,reduceCtorEq,decide_true,decide_false, he5]
      · simp -dsimp only [↓RE,RU,RL,↓reduceIte,Nat.reduceEqDiff,reduceCtorEq,decide_true,decide_false, he18]
      · simp -dsimp only [↓RE,RU,RL,↓reduceIte,Nat.reduceEqDiff,reduceCtorEq,decide_true,decide_false, he18]
      clear he16 he17 he18 he5
      rintro e1 ⟨⟨he16, he17⟩, he5, he7, he18⟩
      have g12 := g1.trans g2
      have b0 : ∀ w', Grow w2 w' → w'.cell? ⟨b, 0, none⟩ = some (.string x.p.m) := fun w' g => ((hb.grow g).cell 0).trans rfl
      have b1 : ∀ w', Grow w2 w' → w'.cell? ⟨b, 1, none⟩ = some (.slice x.A x.n x.c) := fun w' g => ((hb.grow g).cell 1).trans rfl
      have b2 : ∀ w', Grow w2 w' → w'.cell? ⟨b, 2, none⟩ = some (.slice x.B x.k x.d) := fun w' g => ((hb.grow g).cell 2).trans rfl
      have b3 : ∀ w', Grow w2 w' → w'.cell? ⟨b, 3, none⟩ = some (.int .i64 x.p.t) := fun w' g => ((hb.grow g).cell 3).trans rfl
      have b1a := b1 w2 (Keep.refl _ _)
      repeat (first | rw [c_seq] | simp -dsimp only [↓RE,RU,RL,Nat.reduceLeDiff,Nat.reduceLT,pureOp,binPure,intBin,strBin,eqPure,isConstO,lenPure,buildP,resK,endV,↓reduceIte,Nat.reduceEqDiff,reduceCtorEq,Nat.reduceAdd,Nat.reduceMul,Int.reduceLT,Int.reduceLE,Int.reduceToNat,Int.reduceAdd,ne_eq,decide_true,decide_false,tf21, he7, b1a, add_lit', Nat.zero_add])
      refine ksort_ok (hox.tags.grow g12) (by have := hox.hn; omega) (fun w3 v3 hv3 g3 hF3 => ?_)
      obtain ⟨A3, c3, rfl, _, _⟩ := hv3.form
      have b2a := b2 w3 g3
      have g13 := g12.trans g3
      have hsl := srtT_len x.p.tags
      have htl := hox.tags.tlen
      have hxn := hox.hn
      repeat (first | rw [c_seq] | simp -dsimp only [↓RE,RU,RL,Nat.reduceLeDiff,Nat.reduceLT,pureOp,binPure,intBin,strBin,eqPure,isConstO,lenPure,buildP,resK,endV,↓reduceIte,Nat.reduceEqDiff,reduceCtorEq,Nat.reduceAdd,Nat.reduceMul,Int.reduceLT,Int.reduceLE,Int.reduceToNat,Int.reduceAdd,ne_eq,decide_true,decide_false,tf21, he7, b2a, add_lit', Nat.zero_add])
      refine wpLoop_intro (fun e' w' => (Grow w w' ∧ Blk w' b 25 x.cells ∧ GRow w' (.slice A3 (srtT x.p.tags).length c3) (srtT x.p.tags)) ∧ (e' 16 = .slice (some ad) n c ∧ e' 17 = .int .i64 (n : Int)) ∧ e' 7 = .pointer (some ⟨b, 0, none⟩) ∧ e' 8 = .slice A3 (srtT x.p.tags).length c3 ∧ e' 18 = .int .i64 (k : Int) ∧ (e' 26 = .slice x.B x.k x.d ∧ e' 27 = .int .i64 (x.k : Int)) ∧
          ∃ (j : Nat) (Out2 : List WrV) (v2 : Value), j ≤ x.k ∧ e' 28 = .int .i64 (j : Int) ∧ e' 5 = v2 ∧ Out2.map WrV.wr = flatW ((l.take k).map PtV.p) ++ (x.p.fields.take j).map (wrOf x.p) ∧ LRow w' 60 6 v2 Out2.length (Out2.flatMap WrV.cells) ∧ (∀ y ∈ Out2, y.Ok w' ∧ TRow w' y) ∧ (∀ q, fpV v2 q → w.heap.size ≤ q))
        (fun e' _ => x.k - (envInt (e' 28)).toNat) ⟨⟨g13, hb.grow g3, hv3⟩, ⟨?_, ?_⟩, ?_, ?_, ?_, ⟨?_, ?_⟩, 0, Out, v, Nat.zero_le _, ?_, ?_, by rw [hout]; simp, hv.grow (g2.trans g3), fun y hy => ⟨(hok y hy).1.grow (g2.trans g3), LRow.grow (hok y hy).2 (g2.trans g3)⟩, hF⟩ ?_
      · simp -dsimp only [↓RE,RU,RL,↓reduceIte,Nat.reduceEqDiff,reduceCtorEq,decide_true,decide_false, he16]
      · simp -dsimp only [↓RE,RU,RL,↓reduceIte,Nat.reduceEqDiff,reduceCtorEq,decide_true,decide_false, he17]
      · simp -dsimp only [↓RE,RU,RL,↓reduceIte,Nat.reduceEqDiff,reduceCtorEq,decide_true,decide_false, he7]
      · simp -dsimp only [↓RE,RU,RL,↓reduceIte,Nat.reduceEqDiff,reduceCtorEq,decide_true,decide_false, he7]
      · simp -dsimp only [↓RE,RU,RL,↓reduceIte,Nat.reduceEqDiff,reduceCtorEq,decide_true,decide_false, he18]
      · simp -dsimp only [↓RE,RU,RL,↓reduceIte,Nat.reduceEqDiff,reduceCtorEq,decide_true,decide_false, he7]
      · simp -dsimp only [↓RE,RU,RL,↓reduceIte,Nat.reduceEqDiff,reduceCtorEq,decide_true,decide_false, he7]
      · simp -dsimp only [↓RE,RU,RL,↓reduceIte,Nat.reduceEqDiff,reduceCtorEq,decide_true,decide_false, Int.cast_ofNat_Int]
      · simp -dsimp only [↓RE,RU,RL,↓reduceIte,Nat.reduceEqDiff,reduceCtorEq,decide_true,decide_false, he5]
      clear he16 he17 he18 he5 he7 hok hF hv hout hv3 b0 b1 b2 b3 b1a b2a hb
      rintro e2 w4 ⟨⟨g14, hb, hv3⟩, ⟨he16, he17⟩, he7, he8, he18, ⟨he26, he27⟩, j, Out2, v2, hj, he28, he5, hout, hv, hok, hF⟩
      have b0 : ∀ w', Grow w4 w' → w'.cell? ⟨b, 0, none⟩ = some (.string x.p.m) := fun w' g => ((hb.grow g).cell 0).trans rfl
      have b3 : ∀ w', Grow w4 w' → w'.cell? ⟨b, 3, none⟩ = some (.int .i64 x.p.t) := fun w' g => ((hb.grow g).cell 3).trans rfl
      rcases Nat.lt_or_ge j x.k with hjl | hjg
      · have hdj : decide ((j : Int) < (x.k : Int)) = true := decide_eq_true (by omega)
        have hw2 : IntKind.i64.wrap ((j : Int) + 1) = ((j + 1 : Nat) : Int) := by rw [wrap_i64_in (by omega) (by omega)]; omega
        have hFg := hox.fields.grow g14
        obtain ⟨fd, hfd⟩ : ∃ fd, x.B = some fd := by
          obtain ⟨ad, e, _⟩ := hFg.2 (by omega)
          exact ⟨ad, e⟩
        rw [hfd] at hFg he26
        obtain ⟨_, _, hag⟩ := hFg.fd hjl
        have hsn2 := fk_snoc (l := x.p.fields) (k := j) (by omega)
        have hfm := getF_mem (l := x.p.fields) (k := j) (by omega)
        have hnum := hox.nums _ hfm
        have hol2 : Out2.length ≤ 16 * k + j := by
          have := congrArg List.length hout
          rw [List.length_map, List.length_append, List.length_map, List.length_take] at this
          have := hpre k
          omega
        have hmu2 : (envInt (e2 28)).toNat = j := by rw [he28]; exact Int.toNat_natCast j
        generalize x.p.fields.getD j f00 = f at hag hsn2 hnum
        repeat (first | rw [c_seq] | simp -dsimp only [↓RE,RU,RL,Nat.reduceLeDiff,Nat.reduceLT,pureOp,binPure,intBin,strBin,eqPure,isConstO,lenPure,buildP,resK,endV,↓reduceIte,Nat.reduceEqDiff,reduceCtorEq,Nat.reduceAdd,Nat.reduceMul,Int.reduceLT,Int.reduceLE,Int.reduceToNat,Int.reduceAdd,ne_eq,decide_true,decide_false,tf21, he26, he27, he28, hdj, Int.toNat_natCast])
        refine ⟨⟨by omega, by omega⟩, hag ?_⟩
        repeat (first | rw [c_seq] | simp -dsimp only [↓RE,RU,RL,Nat.reduceLeDiff,Nat.reduceLT,pureOp,binPure,intBin,strBin,eqPure,isConstO,lenPure,buildP,resK,endV,↓reduceIte,Nat.reduceEqDiff,reduceCtorEq,Nat.reduceAdd,Nat.reduceMul,Int.reduceLT,Int.reduceLE,Int.reduceToNat,Int.reduceAdd,ne_eq,decide_true,decide_false,tf21, he28])
        refine new2 (fun w5 hf5 g5 => ?_) rfl rfl
        have g15 := g14.trans g5
        have b0a := b0 w5 g5
        have b3a := b3 w5 g5
        have f0a : w5.cell? ⟨w4.heap.size, 0, none⟩ = some (.string f.1) := (hf5.cell 0).trans rfl
        have f1a : w5.cell? ⟨w4.heap.size, 1, none⟩ = some (.int .i64 f.2) := (hf5.cell 1).trans rfl
        repeat (first | rw [c_seq] | simp -dsimp only [↓RE,RU,RL,Nat.reduceLeDiff,Nat.reduceLT,pureOp,binPure,intBin,strBin,eqPure,isConstO,lenPure,buildP,resK,endV,↓reduceIte,Nat.reduceEqDiff,reduceCtorEq,Nat.reduceAdd,Nat.reduceMul,Int.reduceLT,Int.reduceLE,Int.reduceToNat,Int.reduceAdd,ne_eq,decide_true,decide_false,tf21, he5, he7, he8, b0a, b3a, f0a, f1a, add_lit', Nat.zero_add, add_zero'])
        obtain ⟨y, hy⟩ : ∃ y : WrV, y = ⟨⟨⟨x.p.m, srtT x.p.tags, f.1⟩, A3, (srtT x.p.tags).length, c3⟩, (x.p.t, 0, f.2)⟩ := ⟨_, rfl⟩
        have ga := Grow.alloc w5 (.cells y.cells.toArray 60)
        have hrow := one_row w5 y
        rw [hy] at ga hrow
        refine app_w ((hv.grow g5).grow ga) hrow (by omega) (fun A' c' w7 hL7 k7 f7 => ?_)
        rw [← hy] at hL7
        have gG := g15.trans ga
        have hs7 := g15.size
        have hsa := ga.size
        have g7 : Grow w w7 := gG.above k7 (fun q hq e => by have := hF q e; omega)
        have hyw : y.wr = wrOf x.p f := by rw [hy]; rfl
        have hne2 : ∀ {z : WrV} {w' : World}, TRow w' z → LRow w' 60 6 v2 Out2.length (Out2.flatMap WrV.cells) → ∀ q, fpA z.s.A q → ¬ fpV v2 q := fun ht hv q hq hq2 => LRow.ne ht hv (by decide) q ((fpV_fpA _ _ _ _).2 hq) hq2
        have hty0 : TRow (w5.alloc (.cells #[.string x.p.m, .slice A3 (srtT x.p.tags).length c3, .string f.1, .int .i64 x.p.t, .int .u8 0, .int .i64 f.2] 60)) y := by
          rw [hy]
          exact hv3.grow (g5.trans ga)
        have hv5 := (hv.grow g5).grow ga
        have hty : TRow w7 y := TRow.keep hty0 k7 (hne2 hty0 hv5)
        have hyo : y.Ok w7 := by
          refine ⟨⟨?_, ?_⟩, ?_⟩
          · exact LRow.rd hty
          · rw [hy]
            show (srtT x.p.tags).length ≤ _
            omega
          · rw [hy]
            exact ⟨hox.time, ⟨(by decide : (0 : Int) ≤ 0), (by decide : (0 : Int) < 256)⟩, hnum⟩
        have hoks : ∀ z ∈ Out2 ++ [y], z.Ok w7 ∧ TRow w7 z := fun z hz => by
          rcases List.mem_append.1 hz with hz | hz
          · have ht := LRow.grow (LRow.grow (hok z hz).2 g5) ga
            exact ⟨(((hok z hz).1.grow g5).grow ga).keep0 k7 (fun _ => hne2 ht hv5), TRow.keep ht k7 (hne2 ht hv5)⟩
          · rw [List.mem_singleton.1 hz]; exact ⟨hyo, hty⟩
        repeat (first | rw [c_seq] | simp -dsimp only [↓RE,RU,RL,Nat.reduceLeDiff,Nat.reduceLT,pureOp,binPure,intBin,strBin,eqPure,isConstO,lenPure,buildP,resK,endV,↓reduceIte,Nat.reduceEqDiff,reduceCtorEq,Nat.reduceAdd,Nat.reduceMul,Int.reduceLT,Int.reduceLE,Int.reduceToNat,Int.reduceAdd,ne_eq,decide_true,decide_false,tf21, he28, hw2])
        refine hold_intro ⟨⟨⟨g7, ((hb.grow g5).grow ga).keep k7 (LRow.blk_ne hv5 ((hb.grow g5).grow ga) (by decide)), (hv3.grow (g5.trans ga)).keep k7 (fun q hq => LRow.ne (hv3.grow (g5.trans ga)) hv5 (by decide) q hq)⟩, ⟨?_, ?_⟩, ?_, ?_, ?_, ⟨?_, ?_⟩, j + 1, Out2 ++ [y], .slice A' (Out2.length + 1) c', hjl, ?_, ?_, by rw [List.map_append, hout, hsn2, List.map_append, List.append_assoc]; exact congrArg _ (congrArg _ (congrArg (· :: []) hyw)), hL7, hoks, fun q hq => ?_⟩, ?_⟩
        · simp -dsimp only [↓RE,RU,RL,↓reduceIte,Nat.reduceEqDiff,reduceCtorEq,decide_true,decide_false, he16]
        · simp -dsimp only [↓RE,RU,RL,↓reduceIte,Nat.reduceEqDiff,reduceCtorEq,decide_true,decide_false, he17]
        · simp -dsimp only [↓RE,RU,RL,↓reduceIte,Nat.reduceEqDiff,reduceCtorEq,decide_true,decide_false, he7]
        · simp -dsimp only [↓RE,RU,RL,↓reduceIte,Nat.reduceEqDiff,reduceCtorEq,decide_true,decide_false, he8]
        · simp -dsimp only [↓RE,RU,RL,↓reduceIte,Nat.reduceEqDiff,reduceCtorEq,decide_true,decide_false, he18]
        · simp -dsimp only [↓RE,RU,RL,↓reduceIte,Nat.reduceEqDiff,reduceCtorEq,decide_true,decide_false, he26, hfd]
        · simp -dsimp only [↓RE,RU,RL,↓reduceIte,Nat.reduceEqDiff,reduceCtorEq,decide_true,decide_false, he27]
        · simp -dsimp only [↓RE,RU,RL,↓reduceIte,Nat.reduceEqDiff,reduceCtorEq,decide_true,decide_false, hw2]
        · simp -dsimp only [↓RE,RU,RL,↓reduceIte,Nat.reduceEqDiff,reduceCtorEq,decide_true,decide_false, he5]
        · rcases f7 q hq with e | e
          · exact hF q e
          · omega
        · rw [hmu2]
          simp -dsimp only [↓RE,↓c_seq,RU,RL,Nat.reduceLeDiff,Nat.reduceLT,pureOp,binPure,intBin,strBin,eqPure,isConstO,lenPure,buildP,resK,endV,↓reduceIte,Nat.reduceEqDiff,reduceCtorEq,Nat.reduceAdd,Nat.reduceMul,Int.reduceLT,Int.reduceLE,Int.reduceToNat,Int.reduceAdd,ne_eq,decide_true,decide_false,tf21, hw2]
          simp only [envInt_int]; omega
      · have hdj : decide ((j : Int) < (x.k : Int)) = false := decide_eq_false (by omega)
        rw [List.take_of_length_le (l := x.p.fields) (by omega)] at hout
        repeat (first | rw [c_seq] | simp -dsimp only [↓RE,RU,RL,Nat.reduceLeDiff,Nat.reduceLT,pureOp,binPure,intBin,strBin,eqPure,isConstO,lenPure,buildP,resK,endV,↓reduceIte,Nat.reduceEqDiff,reduceCtorEq,Nat.reduceAdd,Nat.reduceMul,Int.reduceLT,Int.reduceLE,Int.reduceToNat,Int.reduceAdd,ne_eq,decide_true,decide_false,tf21, he26, he27, he28, hdj, he18, hw1])
        refine hold_intro ⟨⟨g14, ⟨?_, ?_⟩, k + 1, Out2, v2, hlt, ?_, ?_, by rw [hout, hsn, flatW_snoc]; rfl, hv, hok, hF⟩, ?_⟩
        · simp -dsimp only [↓RE,RU,RL,↓reduceIte,Nat.reduceEqDiff,reduceCtorEq,decide_true,decide_false, he16]
        · simp -dsimp only [↓RE,RU,RL,↓reduceIte,Nat.reduceEqDiff,reduceCtorEq,decide_true,decide_false, he17]
        · simp -dsimp only [↓RE,RU,RL,↓reduceIte,Nat.reduceEqDiff,reduceCtorEq,decide_true,decide_false, hw1]
        · simp -dsimp only [↓RE,RU,RL,↓reduceIte,Nat.reduceEqDiff,reduceCtorEq,decide_true,decide_false, he5]
        · rw [hmu]
          simp -dsimp only [↓RE,↓c_seq,RU,RL,Nat.reduceLeDiff,Nat.reduceLT,pureOp,binPure,intBin,strBin,eqPure,isConstO,lenPure,buildP,resK,endV,↓reduceIte,Nat.reduceEqDiff,reduceCtorEq,Nat.reduceAdd,Nat.reduceMul,Int.reduceLT,Int.reduceLE,Int.reduceToNat,Int.reduceAdd,ne_eq,decide_true,decide_false,tf21, hw1]
          simp only [envInt_int]; omega
    · have hdk : decide ((k : Int) < (n : Int)) = false := decide_eq_false (by omega)
      rw [List.take_of_length_le (by omega)] at hout
      have hol : Out.length ≤ 16 * k := by
        have := congrArg List.length hout
        have h2 := flat_few hall
        rw [List.length_map] at this h2; omega
      obtain ⟨A1, c1, rfl, _, _⟩ := hv.form
      repeat (first | rw [c_seq] | simp -dsimp only [↓RE,RU,RL,Nat.reduceLeDiff,Nat.reduceLT,pureOp,binPure,intBin,strBin,eqPure,isConstO,lenPure,buildP,resK,endV,↓reduceIte,Nat.reduceEqDiff,reduceCtorEq,Nat.reduceAdd,Nat.reduceMul,Int.reduceLT,Int.reduceLE,Int.reduceToNat,Int.reduceAdd,ne_eq,decide_true,decide_false,tf21, he5, he16, he17, he18, hdk])
      refine order_ok hv.rd (fun y hy => (hok y hy).1) (by omega) (fun w2 v2 D hD g2 => ?_)
      rw [hout] at hD
      have hs := g1.size
      repeat (first | rw [c_seq] | simp -dsimp only [↓RE,RU,RL,Nat.reduceLeDiff,Nat.reduceLT,pureOp,binPure,intBin,strBin,eqPure,isConstO,lenPure,buildP,resK,endV,↓reduceIte,Nat.reduceEqDiff,reduceCtorEq,Nat.reduceAdd,Nat.reduceMul,Int.reduceLT,Int.reduceLE,Int.reduceToNat,Int.reduceAdd,ne_eq,decide_true,decide_false,tf21, he18])
      exact h w2 v2 D ⟨hD.eq, hD.row, hD.ok, fun q hq => by have := hD.fresh q hq; omega, fun x hx q hq => by have := hD.tfresh x hx q hq; omega, hD.apart⟩ (g1.trans g2)

end Go.Proofs.YtljgnocpijniiaaGreatDoor
