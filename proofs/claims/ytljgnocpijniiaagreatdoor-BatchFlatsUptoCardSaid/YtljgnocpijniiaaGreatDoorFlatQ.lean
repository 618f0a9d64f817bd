/- The document's Flat. -/
import Derived.Test.YtljgnocpijniiaaGreatDoorFlatP
import Derived.Test.YtljgnocpijniiaaGreatDoorDraws
set_option linter.unusedVariables false
set_option linter.unusedSimpArgs false
set_option maxRecDepth 100000
namespace Go.Proofs.YtljgnocpijniiaaGreatDoor
open Go

/-- a row of tags does not lie where no texts lie. -/
theorem tags_ne {w : World} {A : Option Addr} {n : Nat} {l : List Tg} (h : RdT w A n l) {z : Nat} {t : TypeId} {cs : List Value} (hz : Blk w z t cs) (hc : ∀ s, Value.string s ∉ cs) (hn : 0 < n) : ∀ q, fpA A q → ¬ q = z := by
  rintro q ⟨ad, rfl, rfl⟩ rfl
  obtain ⟨ad', e, h0, _⟩ := h.tag hn
  injection e with e
  subst e
  rw [Nat.zero_mul, add_zero'] at h0
  unfold Blk at hz
  unfold World.cell? at h0
  rw [hz] at h0
  simp only at h0
  cases hs : ad.spot with
  | none =>
    rw [hs] at h0
    try simp only at h0
    exact hc _ (by simpa using Array.mem_of_getElem? h0)
  | some sp => rw [hs] at h0; simp at h0
def badZ : List Value := [.int .i64 0, .int .i64 0, .int .i64 0, .bool false, .bool false]
set_option maxHeartbeats 4000000 in
theorem qflat_ok {w : World} {A : Option Addr} {n c : Nat} {l : List PtV} (hR : RdP w A n l) (ho : ∀ x ∈ l, x.Ok w) (hn : n ≤ 100000000000) {R : VWK}
    (h : ∀ w' v D, WrR w w' v D (flatL (l.map PtV.p)) → Grow w w' → R (.tuple #[v, (badOf (checkE (l.map PtV.p))).v]) w') : CallsV Tryz.prog 22 [.slice A n c] w R := by
  have hl := hR.plen
  unfold flatL at h
  refine calls_of_wpC mixed Tryz.func22 rfl (by kernel_rfl) ?_
  intro e he
  have he0 := he 0
  simp only [List.getD_cons_zero, List.getD_cons_succ] at he0
  clear he
  rw [c_seq]
  simp -dsimp only [↓RE,RU,RL,if_true,if_false,forall_const,implies_true,Nat.reduceLeDiff,Nat.reduceLT,pureOp,binPure,intBin,strBin,eqPure,isConstO,lenPure,buildP,resK,endV,↓reduceIte,Nat.reduceEqDiff,reduceCtorEq,Nat.reduceAdd,Nat.reduceMul,Int.reduceLT,Int.reduceLE,Int.reduceToNat,Int.reduceAdd,ne_eq,decide_true,decide_false,tf22, he0]
  refine c_gen2 (fun e' w' => e' 0 = .slice A n c ∧ ∃ z, e' 3 = .pointer (some ⟨z, 0, none⟩) ∧ Blk w' z 33 badZ ∧ w.heap.size ≤ z ∧ Grow w w') ⟨?_, w.heap.size, ?_, Blk.new' w _ badZ.toArray, Nat.le_refl _, Grow.alloc w _⟩ ?_
  · simp -dsimp only [↓RE,RU,RL,if_true,if_false,↓reduceIte,Nat.reduceEqDiff,reduceCtorEq,decide_true,decide_false, he0]
  · simp -dsimp only [↓RE,RU,RL,if_true,if_false,↓reduceIte,Nat.reduceEqDiff,reduceCtorEq,decide_true,decide_false, he0]
  clear he0 e
  rintro e w0 ⟨he0, z, he3, hbz, hzw, g0⟩
  repeat (first | rw [c_seq] | simp -dsimp only [↓RE,RU,RL,if_true,if_false,forall_const,implies_true,Nat.reduceLeDiff,Nat.reduceLT,pureOp,binPure,intBin,strBin,eqPure,isConstO,lenPure,buildP,resK,endV,↓reduceIte,Nat.reduceEqDiff,reduceCtorEq,Nat.reduceAdd,Nat.reduceMul,Int.reduceLT,Int.reduceLE,Int.reduceToNat,Int.reduceAdd,ne_eq,decide_true,decide_false,tf22, he0])
  refine qcheck_ok (hR.grow g0) (fun x hx => (ho x hx).grow g0) hn (fun w1 g1 => ?_)
  have g01 := g0.trans g1
  cases hck : checkE (l.map PtV.p) with
  | some y =>
    rw [hck] at h
    have hyc := checkE_code hck
    have hd : decide (y.code = 0) = false := decide_eq_false hyc
    repeat (first | rw [c_seq] | simp -dsimp only [↓RE,RU,RL,if_true,if_false,forall_const,implies_true,Nat.reduceLeDiff,Nat.reduceLT,pureOp,binPure,intBin,strBin,eqPure,isConstO,lenPure,buildP,resK,endV,↓reduceIte,Nat.reduceEqDiff,reduceCtorEq,Nat.reduceAdd,Nat.reduceMul,Int.reduceLT,Int.reduceLE,Int.reduceToNat,Int.reduceAdd,ne_eq,decide_true,decide_false,tf22, he0, badOf, BadV.v])
    refine ⟨rfl, newN (cs := y.bad.cells) rfl (by simp [BadV.cells, Value.oneCell']) (fun w2 hb g2 => ?_)⟩
    have hb0 : w2.cell? ⟨w1.heap.size, 0, none⟩ = some (.int .i64 y.code) := (hb.cell 0).trans rfl
    have g02 := g01.trans g2
    repeat (first | rw [c_seq] | simp -dsimp only [↓RE,RU,RL,if_true,if_false,forall_const,implies_true,Nat.reduceLeDiff,Nat.reduceLT,pureOp,binPure,intBin,strBin,eqPure,isConstO,lenPure,buildP,resK,endV,↓reduceIte,Nat.reduceEqDiff,reduceCtorEq,Nat.reduceAdd,Nat.reduceMul,Int.reduceLT,Int.reduceLE,Int.reduceToNat,Int.reduceAdd,ne_eq,decide_true,decide_false,tf22, he0, hb0, hd, add_lit', Nat.zero_add, Bool.not_false])
    have hzl := (hbz.grow g1).lt
    refine wpDraw_by (Keep (fun q => q = z) w2 ·) [(0, true), (1, true), (2, false)] (by kernel_rfl) ((Grow.drew w2).mono (fun _ _ h => h.elim)) ?_
    simp only [planL, List.getElem?_toArray, List.getElem?_cons_zero, List.getElem?_cons_succ, Option.toList_some, List.map_cons, List.map_nil, List.cons_append, List.nil_append]
    repeat (first | rw [c_seq] | simp -dsimp only [↓RE,RU,RL,if_true,if_false,forall_const,implies_true,Nat.reduceLeDiff,Nat.reduceLT,pureOp,binPure,intBin,strBin,eqPure,isConstO,lenPure,buildP,resK,endV,↓reduceIte,Nat.reduceEqDiff,reduceCtorEq,Nat.reduceAdd,Nat.reduceMul,Int.reduceLT,Int.reduceLE,Int.reduceToNat,Int.reduceAdd,ne_eq,decide_true,decide_false,tf22, he3])
    refine ⟨y.bad.cells, rfl, fun w' g j v hv => by rw [add_lit', Nat.zero_add, (hb.keep g (by omega)).cell]; exact hv, ?_⟩
    repeat (first | rw [c_seq] | simp -dsimp only [↓RE,RU,RL,if_true,if_false,forall_const,implies_true,Nat.reduceLeDiff,Nat.reduceLT,pureOp,binPure,intBin,strBin,eqPure,isConstO,lenPure,buildP,resK,endV,↓reduceIte,Nat.reduceEqDiff,reduceCtorEq,Nat.reduceAdd,Nat.reduceMul,Int.reduceLT,Int.reduceLE,Int.reduceToNat,Int.reduceAdd,ne_eq,decide_true,decide_false,tf22, he3])
    refine ⟨rfl, ((hbz.grow g1).grow g2).drew.stAgg (by simp [BadV.cells, badZ]) (by simp [BadV.cells, Value.oneCell']) (fun w3 hB3 k3 => ?_)⟩
    have hB3 : Blk w3 z 33 y.bad.cells := by simpa [BadV.cells, badZ] using hB3
    refine ⟨(Grow.drew w2).then k3, ?_⟩
    repeat (first | rw [c_seq] | simp -dsimp only [↓RE,RU,RL,if_true,if_false,forall_const,implies_true,Nat.reduceLeDiff,Nat.reduceLT,pureOp,binPure,intBin,strBin,eqPure,isConstO,lenPure,buildP,resK,endV,↓reduceIte,Nat.reduceEqDiff,reduceCtorEq,Nat.reduceAdd,Nat.reduceMul,Int.reduceLT,Int.reduceLE,Int.reduceToNat,Int.reduceAdd,ne_eq,decide_true,decide_false,tf22, he3])
    refine hB3.aggK (by simp [BadV.cells]) ?_
    exact h w3 _ [] ⟨rfl, LRow.nil _ _ _, (fun x hx => by cases hx), fun q hq => (fpV_none _ hq).elim⟩ ((g02.trans (Grow.drew w2)).above k3 (fun q hq e => by omega))
  | none =>
    rw [hck] at h
    have h : ∀ w' v D, WrR w w' v D (wOrd (flatW (l.map PtV.p))) → Grow w w' → R (.tuple #[v, BadV.none.v]) w' := h
    obtain ⟨hfew, hall⟩ := check_few hck
    rw [List.length_map, hl] at hfew
    have hpre := fun k => flat_pre (l := l) (k := k) hall
    have hbz1 := hbz.grow g1
    have d00 : decide ((0 : Int) = 0) = true := rfl
    repeat (first | rw [c_seq] | simp -dsimp only [↓RE,RU,RL,if_true,if_false,forall_const,implies_true,Nat.reduceLeDiff,Nat.reduceLT,pureOp,binPure,intBin,strBin,eqPure,isConstO,lenPure,buildP,resK,endV,↓reduceIte,Nat.reduceEqDiff,reduceCtorEq,Nat.reduceAdd,Nat.reduceMul,Int.reduceLT,Int.reduceLE,Int.reduceToNat,Int.reduceAdd,ne_eq,decide_true,decide_false,tf22, he0, badOf, BadV.none, BadV.v, BadV.cells])
    refine newN (cs := BadV.none.cells) rfl (by simp [BadV.cells, Value.oneCell']) (fun w2 hb g2 => ?_)
    have hb0 : w2.cell? ⟨w1.heap.size, 0, none⟩ = some (.int .i64 0) := (hb.cell 0).trans rfl
    have g02 := g01.trans g2
    repeat (first | rw [c_seq] | simp -dsimp only [↓RE,RU,RL,if_true,if_false,forall_const,implies_true,Nat.reduceLeDiff,Nat.reduceLT,pureOp,binPure,intBin,strBin,eqPure,isConstO,lenPure,buildP,resK,endV,↓reduceIte,Nat.reduceEqDiff,reduceCtorEq,Nat.reduceAdd,Nat.reduceMul,Int.reduceLT,Int.reduceLE,Int.reduceToNat,Int.reduceAdd,ne_eq,decide_true,decide_false,tf22, he0, hb0, d00, Bool.not_true, add_lit', Nat.zero_add])
    refine wpLoop_intro (fun e' w' => (Grow w w' ∧ Blk w' z 33 badZ) ∧ (e' 0 = .slice A n c ∧ e' 3 = .pointer (some ⟨z, 0, none⟩)) ∧ ∃ (k : Nat) (Out : List WrV) (v : Value), k ≤ n ∧ e' 6 = .int .i64 (k : Int) ∧ e' 5 = v ∧ Out.map WrV.wr = flatW ((l.take k).map PtV.p) ∧ LRow w' 60 6 v Out.length (Out.flatMap WrV.cells) ∧ (∀ x ∈ Out, x.Ok w' ∧ TRow w' x) ∧ (∀ q, fpV v q → w.heap.size ≤ q))
      (fun e' _ => n - (envInt (e' 6)).toNat) ⟨⟨g02, hbz1.grow g2⟩, ⟨?_, ?_⟩, 0, [], .slice none 0 0, Nat.zero_le _, ?_, ?_, rfl, LRow.nil _ _ _, (fun x hx => by cases hx), fun q hq => (fpV_none _ hq).elim⟩ ?_
    · simp -dsimp only [↓RE,RU,RL,if_true,if_false,↓reduceIte,Nat.reduceEqDiff,reduceCtorEq,decide_true,decide_false, he0]
    · simp -dsimp only [↓RE,RU,RL,if_true,if_false,↓reduceIte,Nat.reduceEqDiff,reduceCtorEq,decide_true,decide_false, he3]
    · simp -dsimp only [↓RE,RU,RL,if_true,if_false,↓reduceIte,Nat.reduceEqDiff,reduceCtorEq,decide_true,decide_false, Int.cast_ofNat_Int]
    · simp -dsimp only [↓RE,RU,RL,if_true,if_false,↓reduceIte,Nat.reduceEqDiff,reduceCtorEq,decide_true,decide_false, he0]
    clear he0 he3 e hb0 hb g02 g2 g01 g1 hbz1 hbz g0
    rintro e w1 ⟨⟨g1, hbz⟩, ⟨he0, he3⟩, k, Out, v, hk, he6, he5, hout, hv, hok, hF⟩
    rcases Nat.lt_or_ge k n with hlt | hge
    · have hdk : decide ((k : Int) < (n : Int)) = true := decide_eq_true (by omega)
      have hw1 : IntKind.i64.wrap ((k : Int) + 1) = ((k + 1 : Nat) : Int) := by rw [wrap_i64_in (by omega) (by omega)]; omega
      obtain ⟨ad, rfl⟩ : ∃ ad, A = some ad := by
        obtain ⟨ad, e, _⟩ := hR.2 (by omega)
        exact ⟨ad, e⟩
      have hcs : ∀ w', Grow w w' → ∀ j u, (l.getD k p00).cells[j]? = some u → w'.cell? ((ad.add (k * 4)).add j) = some u := fun w' g => (hR.grow g).pt hlt
      have hxm := getP_mem (l := l) (k := k) (by omega)
      have hox := ho _ hxm
      have hmu : (envInt (e 6)).toNat = k := by rw [he6]; exact Int.toNat_natCast k
      have hsn := congrArg (List.map PtV.p) (ptk_snoc (l := l) (k := k) (by omega))
      rw [List.map_append, List.map_cons, List.map_nil] at hsn
      have hfx := (right_few (hall _ (List.mem_map_of_mem hxm))).2
      have hol : Out.length ≤ 16 * k := by have := congrArg List.length hout; rw [List.length_map] at this; rw [this]; exact hpre k
      generalize l.getD k p00 = x at hcs hox hsn hfx hxm
      have hkl := hox.fields.flen
      have p0 : ∀ w', Grow w w' → w'.cell? (ad.add (k * 4)) = some (.string x.p.m) := fun w' g => by have := hcs w' g 0 _ rfl; rwa [add_zero'] at this
      have p1 : ∀ w', Grow w w' → w'.cell? ((ad.add (k * 4)).add 1) = some (.slice x.A x.n x.c) := fun w' g => hcs w' g 1 _ rfl
      have p2 : ∀ w', Grow w w' → w'.cell? ((ad.add (k * 4)).add 2) = some (.slice x.B x.k x.d) := fun w' g => hcs w' g 2 _ rfl
      have p3 : ∀ w', Grow w w' → w'.cell? ((ad.add (k * 4)).add 3) = some (.int .i64 x.p.t) := fun w' g => hcs w' g 3 _ rfl
      have hsl := srtT_len x.p.tags
      have htl := hox.tags.tlen
      have hxn := hox.hn
      repeat (first | rw [c_seq] | simp -dsimp only [↓RE,RU,RL,if_true,if_false,forall_const,implies_true,Nat.reduceLeDiff,Nat.reduceLT,pureOp,binPure,intBin,strBin,eqPure,isConstO,lenPure,buildP,resK,endV,↓reduceIte,Nat.reduceEqDiff,reduceCtorEq,Nat.reduceAdd,Nat.reduceMul,Int.reduceLT,Int.reduceLE,Int.reduceToNat,Int.reduceAdd,ne_eq,decide_true,decide_false,tf22, he0, he6, hdk])
      refine wpLoop_intro (fun e' w' => (Grow w w' ∧ Blk w' z 33 badZ) ∧ (e' 0 = .slice (some ad) n c ∧ e' 3 = .pointer (some ⟨z, 0, none⟩)) ∧ e' 6 = .int .i64 (k : Int) ∧
          ∃ (j : Nat) (Out2 : List WrV) (v2 : Value), j ≤ x.k ∧ e' 7 = .int .i64 (j : Int) ∧ e' 5 = v2 ∧ Out2.map WrV.wr = flatW ((l.take k).map PtV.p) ++ (x.p.fields.take j).map (wrOf x.p) ∧ LRow w' 60 6 v2 Out2.length (Out2.flatMap WrV.cells) ∧ (∀ y ∈ Out2, y.Ok w' ∧ TRow w' y) ∧ (∀ q, fpV v2 q → w.heap.size ≤ q))
        (fun e' _ => x.k - (envInt (e' 7)).toNat) ⟨⟨g1, hbz⟩, ⟨?_, ?_⟩, ?_, 0, Out, v, Nat.zero_le _, ?_, ?_, by rw [hout]; simp, hv, hok, hF⟩ ?_
      · simp -dsimp only [↓RE,RU,RL,if_true,if_false,↓reduceIte,Nat.reduceEqDiff,reduceCtorEq,decide_true,decide_false, he0]
      · simp -dsimp only [↓RE,RU,RL,if_true,if_false,↓reduceIte,Nat.reduceEqDiff,reduceCtorEq,decide_true,decide_false, he3]
      · simp -dsimp only [↓RE,RU,RL,if_true,if_false,↓reduceIte,Nat.reduceEqDiff,reduceCtorEq,decide_true,decide_false, he6]
      · simp -dsimp only [↓RE,RU,RL,if_true,if_false,↓reduceIte,Nat.reduceEqDiff,reduceCtorEq,decide_true,decide_false, Int.cast_ofNat_Int]
      · simp -dsimp only [↓RE,RU,RL,if_true,if_false,↓reduceIte,Nat.reduceEqDiff,reduceCtorEq,decide_true,decide_false, he5]
      clear he0 he3 he6 he5 hok hF hv hout hbz
      rintro e2 w4 ⟨⟨g4, hbz⟩, ⟨he0, he3⟩, he6, j, Out2, v2, hj, he7, he5, hout, hv, hok, hF⟩
      have p2a := p2 w4 g4
      rcases Nat.lt_or_ge j x.k with hjl | hjg
      · have hdj : decide ((j : Int) < (x.k : Int)) = true := decide_eq_true (by omega)
        have hw2 : IntKind.i64.wrap ((j : Int) + 1) = ((j + 1 : Nat) : Int) := by rw [wrap_i64_in (by omega) (by omega)]; omega
        obtain ⟨fd, hfd⟩ : ∃ fd, x.B = some fd := by
          obtain ⟨ad, e, _⟩ := hox.fields.2 (by omega)
          exact ⟨ad, e⟩
        have hFd := hox.fields
        rw [hfd] at hFd p2 p2a
        have hsn2 := fk_snoc (l := x.p.fields) (k := j) (by omega)
        have hfm := getF_mem (l := x.p.fields) (k := j) (by omega)
        have hnum := hox.nums _ hfm
        have hol2 : Out2.length ≤ 16 * k + j := by
          have := congrArg List.length hout
          rw [List.length_map, List.length_append, List.length_map, List.length_take] at this
          have := hpre k
          omega
        have hmu2 : (envInt (e2 7)).toNat = j := by rw [he7]; exact Int.toNat_natCast j
        have f0 : ∀ w', Grow w w' → w'.cell? (fd.add (j * 2)) = some (.string (x.p.fields.getD j f00).1) := fun w' g => ((hFd.grow g).fd hjl).1
        have f1 : ∀ w', Grow w w' → w'.cell? ((fd.add (j * 2)).add 1) = some (.int .i64 (x.p.fields.getD j f00).2) := fun w' g => ((hFd.grow g).fd hjl).2.1
        generalize x.p.fields.getD j f00 = f at f0 f1 hsn2 hnum
        rw [c_seq, c_seq]
        simp -dsimp only [↓RE,RU,RL,if_true,if_false,forall_const,implies_true,Nat.reduceLeDiff,Nat.reduceLT,pureOp,binPure,intBin,strBin,eqPure,isConstO,lenPure,buildP,resK,endV,↓reduceIte,Nat.reduceEqDiff,reduceCtorEq,Nat.reduceAdd,Nat.reduceMul,Int.reduceLT,Int.reduceLE,Int.reduceToNat,Int.reduceAdd,ne_eq,decide_true,decide_false,tf22, he0, he6, he7, p2a, hdj, Int.toNat_natCast]
        refine ⟨⟨by omega, by omega⟩, ?_⟩
        rw [c_seq]
        simp -dsimp only [↓RE,RU,RL,if_true,if_false,forall_const,implies_true,Nat.reduceLeDiff,Nat.reduceLT,pureOp,binPure,intBin,strBin,eqPure,isConstO,lenPure,buildP,resK,endV,↓reduceIte,Nat.reduceEqDiff,reduceCtorEq,Nat.reduceAdd,Nat.reduceMul,Int.reduceLT,Int.reduceLE,Int.reduceToNat,Int.reduceAdd,ne_eq,decide_true,decide_false,tf22, he0]
        refine c_seq_cut (fun e' w' => (Grow w4 w' ∧ ∃ s A3 c3, e' 8 = .pointer (some ⟨s, 0, none⟩) ∧ Blk w' s 53 [.string x.p.m, .slice A3 (srtT x.p.tags).length c3, .string f.1] ∧ GRow w' (.slice A3 (srtT x.p.tags).length c3) (srtT x.p.tags)) ∧ (e' 0 = .slice (some ad) n c ∧ e' 3 = .pointer (some ⟨z, 0, none⟩)) ∧ e' 6 = .int .i64 (k : Int) ∧ e' 7 = .int .i64 (j : Int) ∧ e' 5 = v2) ?_ ?_
        · simp -dsimp only [↓RE,RU,RL,if_true,if_false,forall_const,implies_true,Nat.reduceLeDiff,Nat.reduceLT,pureOp,binPure,intBin,strBin,eqPure,isConstO,lenPure,buildP,resK,endV,↓reduceIte,Nat.reduceEqDiff,reduceCtorEq,Nat.reduceAdd,Nat.reduceMul,Int.reduceLT,Int.reduceLE,Int.reduceToNat,Int.reduceAdd,ne_eq,decide_true,decide_false,tf22, he0]
          have q0 : ∀ w', Grow w4 w' → w'.cell? (ad.add (k * 4)) = some (.string x.p.m) := fun w' g => p0 w' (g4.trans g)
          have q1 : ∀ w', Grow w4 w' → w'.cell? ((ad.add (k * 4)).add 1) = some (.slice x.A x.n x.c) := fun w' g => p1 w' (g4.trans g)
          have q2 : ∀ w', Grow w4 w' → w'.cell? ((ad.add (k * 4)).add 2) = some (.slice (some fd) x.k x.d) := fun w' g => p2 w' (g4.trans g)
          have q3 : ∀ w', Grow w4 w' → w'.cell? (fd.add (j * 2)) = some (.string f.1) := fun w' g => f0 w' (g4.trans g)
          refine wpDraw_two (Grow w4 ·) [(0, true), (1, true), (2, true), (3, true), (4, true), (5, true), (6, true), (7, true), (8, true), (9, true), (11, true), (12, true), (13, true), (14, true), (15, true), (16, true), (17, true), (18, true), (19, true)] 10 21 [(20, true), (21, false), (22, false)] [(10, false), (20, true), (22, false)] (by kernel_rfl) (Grow.drew w4) ?_
          simp only [planL, List.getElem?_toArray, List.getElem?_cons_zero, List.getElem?_cons_succ, Option.toList_some, List.map_cons, List.map_nil, List.cons_append, List.nil_append]
          simp -dsimp only [↓RE,RU,RL,if_true,if_false,forall_const,implies_true,Nat.reduceLeDiff,Nat.reduceLT,pureOp,binPure,intBin,strBin,eqPure,isConstO,lenPure,buildP,resK,endV,↓reduceIte,Nat.reduceEqDiff,reduceCtorEq,Nat.reduceAdd,Nat.reduceMul,Int.reduceLT,Int.reduceLE,Int.reduceToNat,Int.reduceAdd,ne_eq,decide_true,decide_false,tf22, he0, he6, he7, Int.toNat_natCast, add_zero']
          refine ⟨⟨by omega, by omega⟩, _, q0, ?_⟩
          simp -dsimp only [↓RE,RU,RL,if_true,if_false,forall_const,implies_true,Nat.reduceLeDiff,Nat.reduceLT,pureOp,binPure,intBin,strBin,eqPure,isConstO,lenPure,buildP,resK,endV,↓reduceIte,Nat.reduceEqDiff,reduceCtorEq,Nat.reduceAdd,Nat.reduceMul,Int.reduceLT,Int.reduceLE,Int.reduceToNat,Int.reduceAdd,ne_eq,decide_true,decide_false,tf22, he0, he6, he7, Int.toNat_natCast, add_zero']
          refine ⟨⟨by omega, by omega⟩, _, q1, ?_⟩
          simp -dsimp only [↓RE,RU,RL,if_true,if_false,forall_const,implies_true,Nat.reduceLeDiff,Nat.reduceLT,pureOp,binPure,intBin,strBin,eqPure,isConstO,lenPure,buildP,resK,endV,↓reduceIte,Nat.reduceEqDiff,reduceCtorEq,Nat.reduceAdd,Nat.reduceMul,Int.reduceLT,Int.reduceLE,Int.reduceToNat,Int.reduceAdd,ne_eq,decide_true,decide_false,tf22, he0, he6, he7, Int.toNat_natCast, add_zero']
          refine ⟨⟨by omega, by omega⟩, _, q2, ?_⟩
          simp -dsimp only [↓RE,RU,RL,if_true,if_false,forall_const,implies_true,Nat.reduceLeDiff,Nat.reduceLT,pureOp,binPure,intBin,strBin,eqPure,isConstO,lenPure,buildP,resK,endV,↓reduceIte,Nat.reduceEqDiff,reduceCtorEq,Nat.reduceAdd,Nat.reduceMul,Int.reduceLT,Int.reduceLE,Int.reduceToNat,Int.reduceAdd,ne_eq,decide_true,decide_false,tf22, he0, he6, he7, Int.toNat_natCast, add_zero']
          refine ⟨⟨by omega, by omega⟩, _, q3, ?_⟩
          simp -dsimp only [↓RE,RU,RL,if_true,if_false,forall_const,implies_true,Nat.reduceLeDiff,Nat.reduceLT,pureOp,binPure,intBin,strBin,eqPure,isConstO,lenPure,buildP,resK,endV,↓reduceIte,Nat.reduceEqDiff,reduceCtorEq,Nat.reduceAdd,Nat.reduceMul,Int.reduceLT,Int.reduceLE,Int.reduceToNat,Int.reduceAdd,ne_eq,decide_true,decide_false,tf22, he0, he6, he7, Int.toNat_natCast, add_zero']
          have gd := g4.trans (Grow.drew w4)
          refine both_intro ?_ ?_
          · simp -dsimp only [↓RE,RU,RL,if_true,if_false,forall_const,implies_true,Nat.reduceLeDiff,Nat.reduceLT,pureOp,binPure,intBin,strBin,eqPure,isConstO,lenPure,buildP,resK,endV,↓reduceIte,Nat.reduceEqDiff,reduceCtorEq,Nat.reduceAdd,Nat.reduceMul,Int.reduceLT,Int.reduceLE,Int.reduceToNat,Int.reduceAdd,ne_eq,decide_true,decide_false,tf22, he0]
            refine rsort_ok (hox.tags.grow gd) (by omega) (fun w5 v5 hv5 g5 hF5 => ?_)
            have g45 := (Grow.drew w4).trans g5
            obtain ⟨A3, c3, rfl, _, _⟩ := hv5.form
            refine ⟨g45, ?_⟩
            have ga := Grow.alloc w5 (.cells #[.string .empty, .slice none 0 0, .string .empty] 53)
            try simp -dsimp only [List.append_eq, List.nil_append, Option.toList, List.map_cons, List.map_nil, List.cons_append]
            repeat (first | rw [c_seq] | simp -dsimp only [↓RE,RU,RL,if_true,if_false,forall_const,implies_true,Nat.reduceLeDiff,Nat.reduceLT,pureOp,binPure,intBin,strBin,eqPure,isConstO,lenPure,buildP,resK,endV,↓reduceIte,Nat.reduceEqDiff,reduceCtorEq,Nat.reduceAdd,Nat.reduceMul,Int.reduceLT,Int.reduceLE,Int.reduceToNat,Int.reduceAdd,ne_eq,decide_true,decide_false,tf22, he0])
            refine ⟨g45.trans ga, ?_⟩
            repeat (first | rw [c_seq] | simp -dsimp only [↓RE,RU,RL,if_true,if_false,forall_const,implies_true,Nat.reduceLeDiff,Nat.reduceLT,pureOp,binPure,intBin,strBin,eqPure,isConstO,lenPure,buildP,resK,endV,↓reduceIte,Nat.reduceEqDiff,reduceCtorEq,Nat.reduceAdd,Nat.reduceMul,Int.reduceLT,Int.reduceLE,Int.reduceToNat,Int.reduceAdd,ne_eq,decide_true,decide_false,tf22, he0])
            refine new3 (fun w6 hb6 g6 => ?_) rfl rfl rfl
            refine ⟨g45.trans g6, ?_⟩
            try simp -dsimp only [↓RE,↓c_seq,RU,RL,if_true,if_false,forall_const,implies_true,Nat.reduceLeDiff,Nat.reduceLT,pureOp,binPure,intBin,strBin,eqPure,isConstO,lenPure,buildP,resK,endV,↓reduceIte,Nat.reduceEqDiff,reduceCtorEq,Nat.reduceAdd,Nat.reduceMul,Int.reduceLT,Int.reduceLE,Int.reduceToNat,Int.reduceAdd,ne_eq,decide_true,decide_false,tf22, he0]
            refine hold_intro ⟨⟨g45.trans g6, w5.heap.size, A3, c3, ?_, hb6, hv5.grow g6⟩, ⟨?_, ?_⟩, ?_, ?_, ?_⟩
            · simp -dsimp only [↓RE,RU,RL,if_true,if_false,↓reduceIte,Nat.reduceEqDiff,reduceCtorEq,decide_true,decide_false, he0]
            · simp -dsimp only [↓RE,RU,RL,if_true,if_false,↓reduceIte,Nat.reduceEqDiff,reduceCtorEq,decide_true,decide_false, he0]
            · simp -dsimp only [↓RE,RU,RL,if_true,if_false,↓reduceIte,Nat.reduceEqDiff,reduceCtorEq,decide_true,decide_false, he3]
            · simp -dsimp only [↓RE,RU,RL,if_true,if_false,↓reduceIte,Nat.reduceEqDiff,reduceCtorEq,decide_true,decide_false, he6]
            · simp -dsimp only [↓RE,RU,RL,if_true,if_false,↓reduceIte,Nat.reduceEqDiff,reduceCtorEq,decide_true,decide_false, he7]
            · simp -dsimp only [↓RE,RU,RL,if_true,if_false,↓reduceIte,Nat.reduceEqDiff,reduceCtorEq,decide_true,decide_false, he5]
          · have ga := Grow.alloc w4.drew (.cells #[.string .empty, .slice none 0 0, .string .empty] 53)
            have hba : Blk (w4.drew.alloc (.cells #[.string .empty, .slice none 0 0, .string .empty] 53)) w4.drew.heap.size 53 [.string .empty, .slice none 0 0, .string .empty] := Blk.new' w4.drew _ #[.string .empty, .slice none 0 0, .string .empty]
            have hsz : w4.heap.size = w4.drew.heap.size := rfl
            try simp -dsimp only [List.append_eq, List.nil_append, Option.toList, List.map_cons, List.map_nil, List.cons_append]
            repeat (first | rw [c_seq] | simp -dsimp only [↓RE,RU,RL,if_true,if_false,forall_const,implies_true,Nat.reduceLeDiff,Nat.reduceLT,pureOp,binPure,intBin,strBin,eqPure,isConstO,lenPure,buildP,resK,endV,↓reduceIte,Nat.reduceEqDiff,reduceCtorEq,Nat.reduceAdd,Nat.reduceMul,Int.reduceLT,Int.reduceLE,Int.reduceToNat,Int.reduceAdd,ne_eq,decide_true,decide_false,tf22, he0])
            refine ⟨(Grow.drew w4).trans ga, ?_⟩
            repeat (first | rw [c_seq] | simp -dsimp only [↓RE,RU,RL,if_true,if_false,forall_const,implies_true,Nat.reduceLeDiff,Nat.reduceLT,pureOp,binPure,intBin,strBin,eqPure,isConstO,lenPure,buildP,resK,endV,↓reduceIte,Nat.reduceEqDiff,reduceCtorEq,Nat.reduceAdd,Nat.reduceMul,Int.reduceLT,Int.reduceLE,Int.reduceToNat,Int.reduceAdd,ne_eq,decide_true,decide_false,tf22, he0])
            refine rsort_ok (hox.tags.grow (gd.trans ga)) (by omega) (fun w5 v5 hv5 g5 hF5 => ?_)
            have g45 := ((Grow.drew w4).trans ga).trans g5
            obtain ⟨A3, c3, rfl, _, _⟩ := hv5.form
            refine ⟨g45, ?_⟩
            have hb5 := hba.grow g5
            generalize w4.drew.heap.size = s at hb5 hsz hba
            repeat (first | rw [c_seq] | simp -dsimp only [↓RE,RU,RL,if_true,if_false,forall_const,implies_true,Nat.reduceLeDiff,Nat.reduceLT,pureOp,binPure,intBin,strBin,eqPure,isConstO,lenPure,buildP,resK,endV,↓reduceIte,Nat.reduceEqDiff,reduceCtorEq,Nat.reduceAdd,Nat.reduceMul,Int.reduceLT,Int.reduceLE,Int.reduceToNat,Int.reduceAdd,ne_eq,decide_true,decide_false,tf22, he0])
            refine blk_st3 hb5 rfl rfl rfl (fun w6 hb6 k6 => ?_)
            have g46 : Grow w4 w6 := g45.above k6 (fun q hq e => by omega)
            refine ⟨g46, ?_⟩
            try simp -dsimp only [↓RE,↓c_seq,RU,RL,if_true,if_false,forall_const,implies_true,Nat.reduceLeDiff,Nat.reduceLT,pureOp,binPure,intBin,strBin,eqPure,isConstO,lenPure,buildP,resK,endV,↓reduceIte,Nat.reduceEqDiff,reduceCtorEq,Nat.reduceAdd,Nat.reduceMul,Int.reduceLT,Int.reduceLE,Int.reduceToNat,Int.reduceAdd,ne_eq,decide_true,decide_false,tf22, he0]
            refine hold_intro ⟨⟨g46, s, A3, c3, ?_, hb6, hv5.keep k6 (fun q hq e => LRow.blk_ne hv5 hb5 (by decide) (e ▸ hq))⟩, ⟨?_, ?_⟩, ?_, ?_, ?_⟩
            · simp -dsimp only [↓RE,RU,RL,if_true,if_false,↓reduceIte,Nat.reduceEqDiff,reduceCtorEq,decide_true,decide_false, he0]
            · simp -dsimp only [↓RE,RU,RL,if_true,if_false,↓reduceIte,Nat.reduceEqDiff,reduceCtorEq,decide_true,decide_false, he0]
            · simp -dsimp only [↓RE,RU,RL,if_true,if_false,↓reduceIte,Nat.reduceEqDiff,reduceCtorEq,decide_true,decide_false, he3]
            · simp -dsimp only [↓RE,RU,RL,if_true,if_false,↓reduceIte,Nat.reduceEqDiff,reduceCtorEq,decide_true,decide_false, he6]
            · simp -dsimp only [↓RE,RU,RL,if_true,if_false,↓reduceIte,Nat.reduceEqDiff,reduceCtorEq,decide_true,decide_false, he7]
            · simp -dsimp only [↓RE,RU,RL,if_true,if_false,↓reduceIte,Nat.reduceEqDiff,reduceCtorEq,decide_true,decide_false, he5]
        · clear he0 he3 he6 he7 he5 p2a
          rintro e3 w5 ⟨⟨g45, s, A3, c3, he8, hbs, hv3⟩, ⟨he0, he3⟩, he6, he7, he5⟩
          have g5 := g4.trans g45
          have up : ∀ {w'}, Keep (fpV v2) w5 w' → Grow w w' := fun k => g5.above k (fun q hq e => by have := hF q e; omega)
          have q2 : ∀ w', Keep (fpV v2) w5 w' → w'.cell? ((ad.add (k * 4)).add 2) = some (.slice (some fd) x.k x.d) := fun w' g => p2 w' (up g)
          have q3 : ∀ w', Keep (fpV v2) w5 w' → w'.cell? ((ad.add (k * 4)).add 3) = some (.int .i64 x.p.t) := fun w' g => p3 w' (up g)
          have q4 : ∀ w', Keep (fpV v2) w5 w' → w'.cell? ((fd.add (j * 2)).add 1) = some (.int .i64 f.2) := fun w' g => f1 w' (up g)
          have hsne := LRow.blk_ne (hv.grow g45) hbs (by decide)
          obtain ⟨y, hy⟩ : ∃ y : WrV, y = ⟨⟨⟨x.p.m, srtT x.p.tags, f.1⟩, A3, (srtT x.p.tags).length, c3⟩, (x.p.t, 0, f.2)⟩ := ⟨_, rfl⟩
          refine wpDraw_by (Keep (fpV v2) w5 ·) [(0, true), (1, true), (2, true), (3, true), (4, true), (5, true), (6, true), (7, true), (8, true), (9, true), (10, true), (11, true), (12, true), (13, true), (14, true), (15, true), (16, true), (17, true), (18, true), (19, false), (20, false), (21, true)] (by kernel_rfl) ((Grow.drew w5).mono (fun _ _ h => h.elim)) ?_
          simp only [planL, List.getElem?_toArray, List.getElem?_cons_zero, List.getElem?_cons_succ, Option.toList_some, List.map_cons, List.map_nil, List.cons_append, List.nil_append]
          repeat (first | rw [c_seq] | simp -dsimp only [↓RE,RU,RL,if_true,if_false,forall_const,implies_true,Nat.reduceLeDiff,Nat.reduceLT,pureOp,binPure,intBin,strBin,eqPure,isConstO,lenPure,buildP,resK,endV,↓reduceIte,Nat.reduceEqDiff,reduceCtorEq,Nat.reduceAdd,Nat.reduceMul,Int.reduceLT,Int.reduceLE,Int.reduceToNat,Int.reduceAdd,ne_eq,decide_true,decide_false,tf22, he0, he5, he6, he7, he8])
          refine ⟨[.string x.p.m, .slice A3 (srtT x.p.tags).length c3, .string f.1], rfl, fun w' g j v hv => by rw [add_lit', Nat.zero_add, (hbs.keep g hsne).cell]; exact hv, ?_⟩
          simp -dsimp only [↓RE,RU,RL,if_true,if_false,forall_const,implies_true,Nat.reduceLeDiff,Nat.reduceLT,pureOp,binPure,intBin,strBin,eqPure,isConstO,lenPure,buildP,resK,endV,↓reduceIte,Nat.reduceEqDiff,reduceCtorEq,Nat.reduceAdd,Nat.reduceMul,Int.reduceLT,Int.reduceLE,Int.reduceToNat,Int.reduceAdd,ne_eq,decide_true,decide_false,tf22, he0, he5, he6, he7, he8, Int.toNat_natCast]
          refine ⟨⟨by omega, by omega⟩, _, q3, ?_⟩
          simp -dsimp only [↓RE,RU,RL,if_true,if_false,forall_const,implies_true,Nat.reduceLeDiff,Nat.reduceLT,pureOp,binPure,intBin,strBin,eqPure,isConstO,lenPure,buildP,resK,endV,↓reduceIte,Nat.reduceEqDiff,reduceCtorEq,Nat.reduceAdd,Nat.reduceMul,Int.reduceLT,Int.reduceLE,Int.reduceToNat,Int.reduceAdd,ne_eq,decide_true,decide_false,tf22, he0, he5, he6, he7, he8, Int.toNat_natCast]
          refine ⟨⟨by omega, by omega⟩, _, q2, ?_⟩
          simp -dsimp only [↓RE,RU,RL,if_true,if_false,forall_const,implies_true,Nat.reduceLeDiff,Nat.reduceLT,pureOp,binPure,intBin,strBin,eqPure,isConstO,lenPure,buildP,resK,endV,↓reduceIte,Nat.reduceEqDiff,reduceCtorEq,Nat.reduceAdd,Nat.reduceMul,Int.reduceLT,Int.reduceLE,Int.reduceToNat,Int.reduceAdd,ne_eq,decide_true,decide_false,tf22, he0, he5, he6, he7, he8, Int.toNat_natCast]
          refine ⟨⟨by omega, by omega⟩, _, q4, ?_⟩
          simp -dsimp only [↓RE,RU,RL,if_true,if_false,forall_const,implies_true,Nat.reduceLeDiff,Nat.reduceLT,pureOp,binPure,intBin,strBin,eqPure,isConstO,lenPure,buildP,resK,endV,↓reduceIte,Nat.reduceEqDiff,reduceCtorEq,Nat.reduceAdd,Nat.reduceMul,Int.reduceLT,Int.reduceLE,Int.reduceToNat,Int.reduceAdd,ne_eq,decide_true,decide_false,tf22, he0, he5, he6, he7, he8, add_zero']
          have ga := Grow.alloc w5.drew (.cells y.cells.toArray 60)
          have hrow := one_row w5.drew y
          rw [hy] at ga hrow
          have gda := (Grow.drew w5).trans ga
          have hva := (hv.grow g45).grow gda
          refine ⟨gda.mono (fun _ _ h => h.elim), app_w hva hrow (by omega) (fun A' c' w7 hL7 k7 f7 => ?_)⟩
          rw [← hy] at hL7
          have gG := g5.trans gda
          have hs7 := g5.size
          have hsa := ga.size
          have hsd : w5.drew.heap.size = w5.heap.size := rfl
          have g57 : Keep (fpV v2) w5 w7 := gda.then k7
          have g7 : Grow w w7 := gG.above k7 (fun q hq e => by have := hF q e; omega)
          have hyw : y.wr = wrOf x.p f := by rw [hy]; rfl
          have hne2 : ∀ {z : WrV} {w' : World}, TRow w' z → LRow w' 60 6 v2 Out2.length (Out2.flatMap WrV.cells) → ∀ q, fpA z.s.A q → ¬ fpV v2 q := fun ht hv q hq hq2 => LRow.ne ht hv (by decide) q ((fpV_fpA _ _ _ _).2 hq) hq2
          have hty0 : TRow (w5.drew.alloc (.cells #[.string x.p.m, .slice A3 (srtT x.p.tags).length c3, .string f.1, .int .i64 x.p.t, .int .u8 0, .int .i64 f.2] 60)) y := by
            rw [hy]
            exact hv3.grow gda
          have hty : TRow w7 y := TRow.keep hty0 k7 (hne2 hty0 hva)
          have hyo : y.Ok w7 := by
            refine ⟨⟨?_, ?_⟩, ?_⟩
            · exact LRow.rd hty
            · rw [hy]
              show (srtT x.p.tags).length ≤ _
              omega
            · rw [hy]
              exact ⟨hox.time, ⟨(by decide : (0 : Int) ≤ 0), (by decide : (0 : Int) < 256)⟩, hnum⟩
          have hoks : ∀ z ∈ Out2 ++ [y], z.Ok w7 ∧ TRow w7 z := fun z hz => by
            rcases List.mem_append.1 hz with hz | hz
            · have ht := LRow.grow (LRow.grow (hok z hz).2 g45) gda
              exact ⟨(((hok z hz).1.grow g45).grow gda).keep0 k7 (fun _ => hne2 ht hva), TRow.keep ht k7 (hne2 ht hva)⟩
            · rw [List.mem_singleton.1 hz]; exact ⟨hyo, hty⟩
          have hbz7 := ((hbz.grow g45).grow gda).keep k7 (LRow.blk_ne hva ((hbz.grow g45).grow gda) (by decide))
          refine ⟨g57, ?_⟩
          repeat (first | rw [c_seq] | simp -dsimp only [↓RE,RU,RL,if_true,if_false,forall_const,implies_true,Nat.reduceLeDiff,Nat.reduceLT,pureOp,binPure,intBin,strBin,eqPure,isConstO,lenPure,buildP,resK,endV,↓reduceIte,Nat.reduceEqDiff,reduceCtorEq,Nat.reduceAdd,Nat.reduceMul,Int.reduceLT,Int.reduceLE,Int.reduceToNat,Int.reduceAdd,ne_eq,decide_true,decide_false,tf22, he7, hw2])
          refine hold_intro ⟨⟨⟨g7, hbz7⟩, ⟨?_, ?_⟩, ?_, j + 1, Out2 ++ [y], .slice A' (Out2.length + 1) c', hjl, ?_, ?_, by rw [List.map_append, hout, hsn2, List.map_append, List.append_assoc]; exact congrArg _ (congrArg _ (congrArg (· :: []) hyw)), hL7, hoks, fun q hq => ?_⟩, ?_⟩
          · simp -dsimp only [↓RE,RU,RL,if_true,if_false,↓reduceIte,Nat.reduceEqDiff,reduceCtorEq,decide_true,decide_false, he0]
          · simp -dsimp only [↓RE,RU,RL,if_true,if_false,↓reduceIte,Nat.reduceEqDiff,reduceCtorEq,decide_true,decide_false, he3]
          · simp -dsimp only [↓RE,RU,RL,if_true,if_false,↓reduceIte,Nat.reduceEqDiff,reduceCtorEq,decide_true,decide_false, he6]
          · simp -dsimp only [↓RE,RU,RL,if_true,if_false,↓reduceIte,Nat.reduceEqDiff,reduceCtorEq,decide_true,decide_false, hw2]
          · simp -dsimp only [↓RE,RU,RL,if_true,if_false,↓reduceIte,Nat.reduceEqDiff,reduceCtorEq,decide_true,decide_false, he5]
          · rcases f7 q hq with e | e
            · exact hF q e
            · omega
          · rw [hmu2]
            simp -dsimp only [↓RE,↓c_seq,RU,RL,if_true,if_false,forall_const,implies_true,Nat.reduceLeDiff,Nat.reduceLT,pureOp,binPure,intBin,strBin,eqPure,isConstO,lenPure,buildP,resK,endV,↓reduceIte,Nat.reduceEqDiff,reduceCtorEq,Nat.reduceAdd,Nat.reduceMul,Int.reduceLT,Int.reduceLE,Int.reduceToNat,Int.reduceAdd,ne_eq,decide_true,decide_false,tf22, hw2]
            simp only [envInt_int]; omega
      · have hdj : decide ((j : Int) < (x.k : Int)) = false := decide_eq_false (by omega)
        rw [List.take_of_length_le (l := x.p.fields) (by omega)] at hout
        repeat (first | rw [c_seq] | simp -dsimp only [↓RE,RU,RL,if_true,if_false,forall_const,implies_true,Nat.reduceLeDiff,Nat.reduceLT,pureOp,binPure,intBin,strBin,eqPure,isConstO,lenPure,buildP,resK,endV,↓reduceIte,Nat.reduceEqDiff,reduceCtorEq,Nat.reduceAdd,Nat.reduceMul,Int.reduceLT,Int.reduceLE,Int.reduceToNat,Int.reduceAdd,ne_eq,decide_true,decide_false,tf22, he0, he6, he7, p2a, hdj, Int.toNat_natCast])
        refine ⟨⟨by omega, by omega⟩, ?_⟩
        repeat (first | rw [c_seq] | simp -dsimp only [↓RE,RU,RL,if_true,if_false,forall_const,implies_true,Nat.reduceLeDiff,Nat.reduceLT,pureOp,binPure,intBin,strBin,eqPure,isConstO,lenPure,buildP,resK,endV,↓reduceIte,Nat.reduceEqDiff,reduceCtorEq,Nat.reduceAdd,Nat.reduceMul,Int.reduceLT,Int.reduceLE,Int.reduceToNat,Int.reduceAdd,ne_eq,decide_true,decide_false,tf22, he6, he7, hdj, hw1])
        refine hold_intro ⟨⟨⟨g4, hbz⟩, ⟨?_, ?_⟩, k + 1, Out2, v2, hlt, ?_, ?_, by rw [hout, hsn, flatW_snoc]; rfl, hv, hok, hF⟩, ?_⟩
        · simp -dsimp only [↓RE,RU,RL,if_true,if_false,↓reduceIte,Nat.reduceEqDiff,reduceCtorEq,decide_true,decide_false, he0]
        · simp -dsimp only [↓RE,RU,RL,if_true,if_false,↓reduceIte,Nat.reduceEqDiff,reduceCtorEq,decide_true,decide_false, he3]
        · simp -dsimp only [↓RE,RU,RL,if_true,if_false,↓reduceIte,Nat.reduceEqDiff,reduceCtorEq,decide_true,decide_false, hw1]
        · simp -dsimp only [↓RE,RU,RL,if_true,if_false,↓reduceIte,Nat.reduceEqDiff,reduceCtorEq,decide_true,decide_false, he5]
        · rw [hmu]
          simp -dsimp only [↓RE,↓c_seq,RU,RL,if_true,if_false,forall_const,implies_true,Nat.reduceLeDiff,Nat.reduceLT,pureOp,binPure,intBin,strBin,eqPure,isConstO,lenPure,buildP,resK,endV,↓reduceIte,Nat.reduceEqDiff,reduceCtorEq,Nat.reduceAdd,Nat.reduceMul,Int.reduceLT,Int.reduceLE,Int.reduceToNat,Int.reduceAdd,ne_eq,decide_true,decide_false,tf22, hw1]
          simp only [envInt_int]; omega
    · have hdk : decide ((k : Int) < (n : Int)) = false := decide_eq_false (by omega)
      rw [List.take_of_length_le (by omega)] at hout
      have hol : Out.length ≤ 16 * k := by
        have := congrArg List.length hout
        have h2 := flat_few hall
        rw [List.length_map] at this h2; omega
      obtain ⟨A1, c1, rfl, hAc, _⟩ := hv.form
      repeat (first | rw [c_seq] | simp -dsimp only [↓RE,RU,RL,if_true,if_false,forall_const,implies_true,Nat.reduceLeDiff,Nat.reduceLT,pureOp,binPure,intBin,strBin,eqPure,isConstO,lenPure,buildP,resK,endV,↓reduceIte,Nat.reduceEqDiff,reduceCtorEq,Nat.reduceAdd,Nat.reduceMul,Int.reduceLT,Int.reduceLE,Int.reduceToNat,Int.reduceAdd,ne_eq,decide_true,decide_false,tf22, he0, he5, he6, hdk])
      refine rorder_ok _ hv.rd (fun y hy => (hok y hy).1) (by omega) hAc (fun w2 v2 D hD g2 => ?_)
      rw [hout] at hD
      have hs := g1.size
      repeat (first | rw [c_seq] | simp -dsimp only [↓RE,RU,RL,if_true,if_false,forall_const,implies_true,Nat.reduceLeDiff,Nat.reduceLT,pureOp,binPure,intBin,strBin,eqPure,isConstO,lenPure,buildP,resK,endV,↓reduceIte,Nat.reduceEqDiff,reduceCtorEq,Nat.reduceAdd,Nat.reduceMul,Int.reduceLT,Int.reduceLE,Int.reduceToNat,Int.reduceAdd,ne_eq,decide_true,decide_false,tf22, he3])
      refine (hbz.grow g2).stAgg (by simp [badZ]) (by simp [Value.oneCell', badZ]) (fun w3 hB3 k3 => ?_)
      repeat (first | rw [c_seq] | simp -dsimp only [↓RE,RU,RL,if_true,if_false,forall_const,implies_true,Nat.reduceLeDiff,Nat.reduceLT,pureOp,binPure,intBin,strBin,eqPure,isConstO,lenPure,buildP,resK,endV,↓reduceIte,Nat.reduceEqDiff,reduceCtorEq,Nat.reduceAdd,Nat.reduceMul,Int.reduceLT,Int.reduceLE,Int.reduceToNat,Int.reduceAdd,ne_eq,decide_true,decide_false,tf22, he3])
      refine hB3.aggK (cs := badZ) (by simp [badZ]) ?_
      try simp -dsimp only [↓RE,↓c_seq,RU,RL,if_true,if_false,forall_const,implies_true,Nat.reduceLeDiff,Nat.reduceLT,pureOp,binPure,intBin,strBin,eqPure,isConstO,lenPure,buildP,resK,endV,↓reduceIte,Nat.reduceEqDiff,reduceCtorEq,Nat.reduceAdd,Nat.reduceMul,Int.reduceLT,Int.reduceLE,Int.reduceToNat,Int.reduceAdd,ne_eq,decide_true,decide_false,tf22, he3]
      refine h w3 v2 D ⟨hD.eq, hD.row.keep k3 (fun q hq e => ?_), fun x hx => (hD.ok x hx).keep0 k3 (fun hpos q hq e => ?_), fun q hq => by have := hD.fresh q hq; omega⟩ ?_
      · have := hD.fresh q hq
        have := hbz.lt
        omega
      · exact tags_ne (hD.ok x hx).1.1 (hbz.grow g2) (by simp [badZ]) (by assumption) q hq e
      · exact (g1.trans g2).above k3 (fun q hq e => by omega)

end Go.Proofs.YtljgnocpijniiaaGreatDoor
