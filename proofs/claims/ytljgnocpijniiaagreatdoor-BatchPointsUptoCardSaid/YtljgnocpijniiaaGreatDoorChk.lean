/- What is wrong with a batch: batch.Check, and the document's. -/
import Derived.Test.YtljgnocpijniiaaGreatDoorPtR
set_option linter.unusedVariables false
set_option linter.unusedSimpArgs false
set_option maxRecDepth 100000
namespace Go.Proofs.YtljgnocpijniiaaGreatDoor
open Go

def p00 : PtV := ⟨⟨.empty, [], [], 0⟩, none, 0, 0, none, 0, 0⟩
instance : Inhabited PtV := ⟨p00⟩
abbrev RdP (w : World) (A : Option Addr) (n : Nat) (l : List PtV) : Prop := Rd w A n 4 (l.flatMap PtV.cells)
theorem Rd.plen {w : World} {A : Option Addr} {n : Nat} {l : List PtV} (h : RdP w A n l) : l.length = n := by
  have h1 := h.1
  rw [flat_len PtV.cells (size := 4) l (fun _ _ => rfl)] at h1
  omega
theorem getP_some {l : List PtV} {k : Nat} (h : k < l.length) : l[k]? = some (l.getD k p00) := by rw [List.getD_eq_getElem?_getD, List.getElem?_eq_getElem h]; rfl
theorem getP_mem {l : List PtV} {k : Nat} (h : k < l.length) : l.getD k p00 ∈ l := by rw [List.getD_eq_getElem?_getD, List.getElem?_eq_getElem h]; exact List.getElem_mem _
theorem Rd.pt {w : World} {ad : Addr} {n : Nat} {l : List PtV} (h : RdP w (some ad) n l) {k : Nat} (hk : k < n) : ∀ j v, (l.getD k p00).cells[j]? = some v → w.cell? ((ad.add (k * 4)).add j) = some v := by
  have hl := h.plen
  obtain ⟨_, ad', hA, hc⟩ := h.flat (size := 4) (fun _ _ => rfl) (getP_some (l := l) (k := k) (by omega)) (by omega)
  injection hA with hA
  subst hA
  exact fun j v hv => hc j v hv
/-- the first point that is wrong. -/
def firstE : Nat → List Pt → Option Er
  | _, [] => none
  | i, p :: r => match rightE p with
    | none => firstE (i + 1) r
    | some x => some (.ins (i : Int) x)
def checkE (l : List Pt) : Option Er := if 10000 < l.length then some (.no 6) else firstE 0 l
theorem firstE_at : ∀ {l : List Pt} {i k : Nat} {p : Pt} {x : Er}, (∀ j q, j < k → l[j]? = some q → rightE q = none) → l[k]? = some p → rightE p = some x → firstE i l = some (.ins ((i + k : Nat) : Int) x)
  | [], i, k, p, x, _, h, _ => by cases h
  | a :: l, i, 0, p, x, h0, h, hx => by
    have h : a = p := by simpa using h
    subst h
    rw [firstE, hx]
    rfl
  | a :: l, i, k + 1, p, x, h0, h, hx => by
    have ha := h0 0 a (by omega) rfl
    rw [firstE, ha]
    have := firstE_at (i := i + 1) (fun j q hj hq => h0 (j + 1) q (by omega) hq) h hx
    rw [show i + 1 + k = i + (k + 1) by omega] at this
    exact this
theorem firstE_none : ∀ {l : List Pt} {i : Nat}, (∀ q ∈ l, rightE q = none) → firstE i l = none
  | [], i, _ => rfl
  | a :: l, i, h => by
    rw [firstE, h a List.mem_cons_self]
    exact firstE_none (fun q hq => h q (List.mem_cons_of_mem _ hq))
theorem firstE_code : ∀ {l : List Pt} {i : Nat} {x : Er}, firstE i l = some x → x.code ≠ 0
  | [], i, x, h => by cases h
  | a :: l, i, x, h => by
    rw [firstE] at h
    cases hr : rightE a with
    | none => rw [hr] at h; exact firstE_code h
    | some y =>
      rw [hr] at h
      injection h with h
      subst h
      show y.code ≠ 0
      exact rightE_code hr
theorem checkE_code {l : List Pt} {x : Er} (h : checkE l = some x) : x.code ≠ 0 := by
  unfold checkE at h
  split at h
  · injection h with h; subst h; decide
  · exact firstE_code h
theorem fin_ok {w : World} {i : Int} {x : Er} {R : VWK} (h : R (Er.ins i x).v w) : CallsV Tryz.prog 48 [.int .i64 i, x.v] w R := by
  refine calls_of_wpC mixed Tryz.func48 rfl (by kernel_rfl) ?_
  intro e he
  have he0 := he 0
  have he1 := he 1
  simp only [List.getD_cons_zero, List.getD_cons_succ] at he0 he1
  clear he
  repeat (first | rw [c_seq] | simp -dsimp only [↓RE,RU,RL,Nat.reduceLeDiff,Nat.reduceLT,pureOp,binPure,intBin,strBin,eqPure,isConstO,buildP,resK,endV,↓reduceIte,Nat.reduceEqDiff,reduceCtorEq,Nat.reduceAdd,Nat.reduceMul,Int.reduceLT,Int.reduceLE,Int.reduceToNat,Int.reduceAdd,decide_true,decide_false,tf48, he0, he1, Er.v])
  exact h
theorem rin_ok {w : World} {i : Int} {x : Er} (hx : x.code ≠ 0) {R : VWK} (h : ∀ w', Grow w w' → R (Er.ins i x).bad.v w') : CallsV Tryz.prog 49 [.int .i64 i, x.bad.v] w R := by
  have hd : decide (x.code = 0) = false := decide_eq_false hx
  refine calls_of_wpC mixed Tryz.func49 rfl (by kernel_rfl) ?_
  intro e he
  have he0 := he 0
  have he1 := he 1
  simp only [List.getD_cons_zero, List.getD_cons_succ] at he0 he1
  clear he
  rw [c_seq]
  simp -dsimp only [↓RE,RU,RL,Nat.reduceLeDiff,Nat.reduceLT,pureOp,binPure,intBin,strBin,eqPure,isConstO,buildP,resK,endV,↓reduceIte,Nat.reduceEqDiff,reduceCtorEq,Nat.reduceAdd,Nat.reduceMul,Int.reduceLT,Int.reduceLE,Int.reduceToNat,Int.reduceAdd,decide_true,decide_false,tf49, he0, he1, BadV.v]
  refine c_gen2 (fun e' w' => e' 0 = .int .i64 i ∧ ∃ b z, e' 3 = .pointer (some ⟨b, 0, none⟩) ∧ e' 4 = .pointer (some ⟨z, 0, none⟩) ∧ Blk w' b 33 x.bad.cells ∧ Blk w' z 33 [.int .i64 0, .int .i64 0, .int .i64 0, .bool false, .bool false] ∧ w.heap.size ≤ b ∧ b < z ∧ Grow w w')
    ⟨?_, w.heap.size, _, ?_, ?_, (two_new w _ _ x.bad.cells.toArray #[.int .i64 0, .int .i64 0, .int .i64 0, .bool false, .bool false]).1, (two_new w 33 _ x.bad.cells.toArray #[.int .i64 0, .int .i64 0, .int .i64 0, .bool false, .bool false]).2.1, Nat.le_refl _, by rw [szA]; omega, (two_new w 33 33 x.bad.cells.toArray #[.int .i64 0, .int .i64 0, .int .i64 0, .bool false, .bool false]).2.2⟩ ?_
  · simp -dsimp only [↓RE,RU,RL,↓reduceIte,Nat.reduceEqDiff,reduceCtorEq,decide_true,decide_false, he0]
  · simp -dsimp only [↓RE,RU,RL,↓reduceIte,Nat.reduceEqDiff,reduceCtorEq,decide_true,decide_false, he0]
  · simp -dsimp only [↓RE,RU,RL,↓reduceIte,Nat.reduceEqDiff,reduceCtorEq,decide_true,decide_false, he0]
  clear he0 he1 e
  rintro e w1 ⟨he0, b, z, he3, he4, hb, hbz, hbw, hbz2, g1⟩
  have hc0 : w1.cell? ⟨b, 0, none⟩ = some (.int .i64 x.code) := (hb.cell 0).trans rfl
  repeat (first | rw [c_seq] | simp -dsimp only [↓RE,RU,RL,Nat.reduceLeDiff,Nat.reduceLT,pureOp,binPure,intBin,strBin,eqPure,isConstO,buildP,resK,endV,↓reduceIte,Nat.reduceEqDiff,reduceCtorEq,Nat.reduceAdd,Nat.reduceMul,Int.reduceLT,Int.reduceLE,Int.reduceToNat,Int.reduceAdd,decide_true,decide_false,tf49, he0, he3, hc0, hd, add_lit', Nat.zero_add])
  have hb1 := hb.set 2 (.int .i64 i)
  have k1 := Keep.set1 w1 b 2 (.int .i64 i)
  refine hb.st (i := 2) (by simp [BadV.cells]) ?_
  have hz1 := hbz.keep k1 (by omega)
  generalize w1.setCell ⟨b, 2, none⟩ (.int .i64 i) = w2 at hb1 k1 hz1
  repeat (first | rw [c_seq] | simp -dsimp only [↓RE,RU,RL,Nat.reduceLeDiff,Nat.reduceLT,pureOp,binPure,intBin,strBin,eqPure,isConstO,buildP,resK,endV,↓reduceIte,Nat.reduceEqDiff,reduceCtorEq,Nat.reduceAdd,Nat.reduceMul,Int.reduceLT,Int.reduceLE,Int.reduceToNat,Int.reduceAdd,decide_true,decide_false,tf49, he3, add_lit', Nat.zero_add])
  refine hb1.st (i := 4) (by simp [BadV.cells]) ?_
  have hb2 := hb1.set 4 (.bool true)
  have k2 := Keep.set1 w2 b 4 (.bool true)
  have hz2 := hz1.keep k2 (by omega)
  generalize w2.setCell ⟨b, 4, none⟩ (.bool true) = w3 at hb2 k2 hz2
  have hb3 : Blk w3 b 33 (Er.ins i x).bad.cells := hb2
  have g3 : Grow w w3 := (g1.above k1 (fun q hq e => by omega)).above k2 (fun q hq e => by omega)
  repeat (first | rw [c_seq] | simp -dsimp only [↓RE,RU,RL,Nat.reduceLeDiff,Nat.reduceLT,pureOp,binPure,intBin,strBin,eqPure,isConstO,buildP,resK,endV,↓reduceIte,Nat.reduceEqDiff,reduceCtorEq,Nat.reduceAdd,Nat.reduceMul,Int.reduceLT,Int.reduceLE,Int.reduceToNat,Int.reduceAdd,decide_true,decide_false,tf49, he3, he4])
  refine ⟨(Er.ins i x).bad.cells, rfl, fun j v hv => by rw [add_lit', Nat.zero_add, hb3.cell]; exact hv, ?_⟩
  repeat (first | rw [c_seq] | simp -dsimp only [↓RE,RU,RL,Nat.reduceLeDiff,Nat.reduceLT,pureOp,binPure,intBin,strBin,eqPure,isConstO,buildP,resK,endV,↓reduceIte,Nat.reduceEqDiff,reduceCtorEq,Nat.reduceAdd,Nat.reduceMul,Int.reduceLT,Int.reduceLE,Int.reduceToNat,Int.reduceAdd,decide_true,decide_false,tf49, he4])
  refine ⟨rfl, bad_ret (b := (Er.ins i x).bad) hz2 (by omega) g3 (fun w4 hB4 g4 => ?_)⟩
  repeat (first | rw [c_seq] | simp -dsimp only [↓RE,RU,RL,Nat.reduceLeDiff,Nat.reduceLT,pureOp,binPure,intBin,strBin,eqPure,isConstO,buildP,resK,endV,↓reduceIte,Nat.reduceEqDiff,reduceCtorEq,Nat.reduceAdd,Nat.reduceMul,Int.reduceLT,Int.reduceLE,Int.reduceToNat,Int.reduceAdd,decide_true,decide_false,tf49, he4])
  refine hB4.aggK (by simp [BadV.cells]) ?_
  exact h w4 g4
set_option maxHeartbeats 1000000 in
theorem bcheck_ok {w : World} {A : Option Addr} {n c : Nat} {l : List PtV} (hR : RdP w A n l) (ho : ∀ x ∈ l, x.Ok w) (hn : n ≤ 100000000000) (hT : Tabs w) {R : VWK}
    (h : ∀ w', Grow w w' → R (errOf (checkE (l.map PtV.p))) w') : CallsV Tryz.prog 18 [.slice A n c] w R := by
  have hl := hR.plen
  unfold checkE at h
  rw [List.length_map, hl] at h
  refine calls_of_wpC mixed Tryz.func18 rfl (by kernel_rfl) ?_
  intro e he
  have he0 := he 0
  simp only [List.getD_cons_zero, List.getD_cons_succ] at he0
  clear he
  rcases Nat.lt_or_ge 10000 n with hbig | hbig
  · have hd : decide ((10000 : Int) < (n : Int)) = true := decide_eq_true (by omega)
    rw [if_pos hbig] at h
    repeat (first | rw [c_seq] | simp -dsimp only [↓RE,RU,RL,Nat.reduceLeDiff,Nat.reduceLT,pureOp,binPure,intBin,strBin,eqPure,isConstO,lenPure,resK,endV,↓reduceIte,Nat.reduceEqDiff,reduceCtorEq,Nat.reduceAdd,Nat.reduceMul,Int.reduceLT,Int.reduceLE,Int.reduceToNat,Int.reduceAdd,ne_eq,decide_true,decide_false,tf18, he0, hd])
    refine fnew_ok (by decide) ?_
    repeat (first | rw [c_seq] | simp -dsimp only [↓RE,RU,RL,Nat.reduceLeDiff,Nat.reduceLT,pureOp,binPure,intBin,strBin,eqPure,isConstO,lenPure,resK,endV,↓reduceIte,Nat.reduceEqDiff,reduceCtorEq,Nat.reduceAdd,Nat.reduceMul,Int.reduceLT,Int.reduceLE,Int.reduceToNat,Int.reduceAdd,ne_eq,decide_true,decide_false,tf18, he0])
    exact h w (Keep.refl _ _)
  have hd : decide ((10000 : Int) < (n : Int)) = false := decide_eq_false (by omega)
  rw [if_neg (by omega)] at h
  repeat (first | rw [c_seq] | simp -dsimp only [↓RE,RU,RL,Nat.reduceLeDiff,Nat.reduceLT,pureOp,binPure,intBin,strBin,eqPure,isConstO,lenPure,resK,endV,↓reduceIte,Nat.reduceEqDiff,reduceCtorEq,Nat.reduceAdd,Nat.reduceMul,Int.reduceLT,Int.reduceLE,Int.reduceToNat,Int.reduceAdd,ne_eq,decide_true,decide_false,tf18, he0, hd])
  refine wpLoop_intro (fun e' w' => Grow w w' ∧ (e' 10 = .slice A n c ∧ e' 11 = .int .i64 (n : Int)) ∧ ∃ k : Nat, k ≤ n ∧ e' 12 = .int .i64 (k : Int) ∧ ∀ j, j < k → rightE (l.getD j p00).p = none)
    (fun e' _ => n - (envInt (e' 12)).toNat) ⟨Keep.refl _ _, ⟨?_, ?_⟩, 0, Nat.zero_le _, ?_, fun j hj => absurd hj (by omega)⟩ ?_
  · simp -dsimp only [↓RE,RU,RL,↓reduceIte,Nat.reduceEqDiff,reduceCtorEq,decide_true,decide_false, he0]
  · simp -dsimp only [↓RE,RU,RL,↓reduceIte,Nat.reduceEqDiff,reduceCtorEq,decide_true,decide_false, he0]
  · simp -dsimp only [↓RE,RU,RL,↓reduceIte,Nat.reduceEqDiff,reduceCtorEq,decide_true,decide_false, Int.cast_ofNat_Int]
  clear he0 e
  rintro e w1 ⟨g1, ⟨he10, he11⟩, k, hk, he12, hno⟩
  rcases Nat.lt_or_ge k n with hlt | hge
  · have hdk : decide ((k : Int) < (n : Int)) = true := decide_eq_true (by omega)
    have hw1 : IntKind.i64.wrap ((k : Int) + 1) = ((k + 1 : Nat) : Int) := by rw [wrap_i64_in (by omega) (by omega)]; omega
    have hRg := hR.grow g1
    obtain ⟨ad, rfl⟩ : ∃ ad, A = some ad := by
      obtain ⟨ad, e, _⟩ := hRg.2 (by omega)
      exact ⟨ad, e⟩
    have hcs := hRg.pt hlt
    have hox := ho _ (getP_mem (l := l) (k := k) (by omega))
    have hgs := getP_some (l := l) (k := k) (by omega)
    have hfa : ∀ y, rightE (l.getD k p00).p = some y → firstE 0 (l.map PtV.p) = some (.ins (k : Int) y) := fun y hy => by
      have := firstE_at (l := l.map PtV.p) (i := 0) (k := k) (p := (l.getD k p00).p) (x := y) (fun j q hj hq => by
        rw [List.getElem?_map, getP_some (by omega)] at hq
        injection hq with hq
        rw [← hq]
        exact hno j hj) (by rw [List.getElem?_map, hgs]; rfl) hy
      rwa [Nat.zero_add] at this
    have hmu : (envInt (e 12)).toNat = k := by rw [he12]; exact Int.toNat_natCast k
    have hno1 : rightE (l.getD k p00).p = none → ∀ j, j < k + 1 → rightE (l.getD j p00).p = none := fun hq j hj => by
      rcases Nat.lt_or_eq_of_le (Nat.lt_succ_iff.1 hj) with hj | rfl
      · exact hno j hj
      · exact hq
    generalize l.getD k p00 = x at hcs hox hfa hno1
    repeat (first | rw [c_seq] | simp -dsimp only [↓RE,RU,RL,Nat.reduceLeDiff,Nat.reduceLT,pureOp,binPure,intBin,strBin,eqPure,isConstO,lenPure,resK,endV,↓reduceIte,Nat.reduceEqDiff,reduceCtorEq,Nat.reduceAdd,Nat.reduceMul,Int.reduceLT,Int.reduceLE,Int.reduceToNat,Int.reduceAdd,ne_eq,decide_true,decide_false,tf18, he10, he11, he12, hdk, Int.toNat_natCast])
    refine ⟨⟨by omega, by omega⟩, x.cells, rfl, hcs, ?_⟩
    repeat (first | rw [c_seq] | simp -dsimp only [↓RE,RU,RL,Nat.reduceLeDiff,Nat.reduceLT,pureOp,binPure,intBin,strBin,eqPure,isConstO,lenPure,resK,endV,↓reduceIte,Nat.reduceEqDiff,reduceCtorEq,Nat.reduceAdd,Nat.reduceMul,Int.reduceLT,Int.reduceLE,Int.reduceToNat,Int.reduceAdd,ne_eq,decide_true,decide_false,tf18, he12])
    refine ⟨rfl, newN (cs := x.cells) rfl (pcells_one x) (fun w2 hb g2 => ?_)⟩
    generalize w1.heap.size = b at hb
    refine os_gen (fun e' => (e' 10 = .slice (some ad) n c ∧ e' 11 = .int .i64 (n : Int)) ∧ e' 3 = .int .i64 (k : Int) ∧ e' 4 = .pointer (some ⟨b, 0, none⟩) ∧ e' 12 = .int .i64 (k : Int)) ⟨⟨?_, ?_⟩, ?_, ?_, ?_⟩ ?_
    · simp -dsimp only [↓RE,RU,RL,↓reduceIte,Nat.reduceEqDiff,reduceCtorEq,decide_true,decide_false, he10]
    · simp -dsimp only [↓RE,RU,RL,↓reduceIte,Nat.reduceEqDiff,reduceCtorEq,decide_true,decide_false, he11]
    · simp -dsimp only [↓RE,RU,RL,↓reduceIte,Nat.reduceEqDiff,reduceCtorEq,decide_true,decide_false, he12]
    · simp -dsimp only [↓RE,RU,RL,↓reduceIte,Nat.reduceEqDiff,reduceCtorEq,decide_true,decide_false, he12]
    · simp -dsimp only [↓RE,RU,RL,↓reduceIte,Nat.reduceEqDiff,reduceCtorEq,decide_true,decide_false, he12]
    clear he10 he11 he12
    rintro e1 ⟨⟨he10, he11⟩, he3, he4, he12⟩
    have g12 := g1.trans g2
    repeat (first | rw [c_seq] | simp -dsimp only [↓RE,RU,RL,Nat.reduceLeDiff,Nat.reduceLT,pureOp,binPure,intBin,strBin,eqPure,isConstO,lenPure,resK,endV,↓reduceIte,Nat.reduceEqDiff,reduceCtorEq,Nat.reduceAdd,Nat.reduceMul,Int.reduceLT,Int.reduceLE,Int.reduceToNat,Int.reduceAdd,ne_eq,decide_true,decide_false,tf18, he4])
    refine ⟨x.cells, rfl, fun j v hv => by rw [add_lit', Nat.zero_add, hb.cell]; exact hv, ?_⟩
    repeat (first | rw [c_seq] | simp -dsimp only [↓RE,RU,RL,Nat.reduceLeDiff,Nat.reduceLT,pureOp,binPure,intBin,strBin,eqPure,isConstO,lenPure,resK,endV,↓reduceIte,Nat.reduceEqDiff,reduceCtorEq,Nat.reduceAdd,Nat.reduceMul,Int.reduceLT,Int.reduceLE,Int.reduceToNat,Int.reduceAdd,ne_eq,decide_true,decide_false,tf18, he4])
    refine bright_ok (hox.grow g12) (hT.grow g12) (fun w3 g3 => ?_)
    cases hr : rightE x.p with
    | none =>
      repeat (first | rw [c_seq] | simp -dsimp only [↓RE,RU,RL,Nat.reduceLeDiff,Nat.reduceLT,pureOp,binPure,intBin,strBin,eqPure,isConstO,lenPure,resK,endV,↓reduceIte,Nat.reduceEqDiff,reduceCtorEq,Nat.reduceAdd,Nat.reduceMul,Int.reduceLT,Int.reduceLE,Int.reduceToNat,Int.reduceAdd,ne_eq,decide_true,decide_false,tf18, errOf, he12, hw1])
      refine hold_intro ⟨⟨g12.trans g3, ⟨?_, ?_⟩, k + 1, hlt, ?_, hno1 hr⟩, ?_⟩
      · simp -dsimp only [↓RE,RU,RL,↓reduceIte,Nat.reduceEqDiff,reduceCtorEq,decide_true,decide_false, he10]
      · simp -dsimp only [↓RE,RU,RL,↓reduceIte,Nat.reduceEqDiff,reduceCtorEq,decide_true,decide_false, he11]
      · simp -dsimp only [↓RE,RU,RL,↓reduceIte,Nat.reduceEqDiff,reduceCtorEq,decide_true,decide_false, hw1]
      · rw [hmu]
        simp -dsimp only [↓RE,↓c_seq,RU,RL,Nat.reduceLeDiff,Nat.reduceLT,pureOp,binPure,intBin,strBin,eqPure,isConstO,lenPure,resK,endV,↓reduceIte,Nat.reduceEqDiff,reduceCtorEq,Nat.reduceAdd,Nat.reduceMul,Int.reduceLT,Int.reduceLE,Int.reduceToNat,Int.reduceAdd,ne_eq,decide_true,decide_false,tf18, hw1]
        simp only [envInt_int]; omega
    | some y =>
      rw [hfa y hr] at h
      repeat (first | rw [c_seq] | simp -dsimp only [↓RE,RU,RL,Nat.reduceLeDiff,Nat.reduceLT,pureOp,binPure,intBin,strBin,eqPure,isConstO,lenPure,resK,endV,↓reduceIte,Nat.reduceEqDiff,reduceCtorEq,Nat.reduceAdd,Nat.reduceMul,Int.reduceLT,Int.reduceLE,Int.reduceToNat,Int.reduceAdd,ne_eq,decide_true,decide_false,tf18, errOf, Er.v, he3])
      refine fin_ok ?_
      repeat (first | rw [c_seq] | simp -dsimp only [↓RE,RU,RL,Nat.reduceLeDiff,Nat.reduceLT,pureOp,binPure,intBin,strBin,eqPure,isConstO,lenPure,resK,endV,↓reduceIte,Nat.reduceEqDiff,reduceCtorEq,Nat.reduceAdd,Nat.reduceMul,Int.reduceLT,Int.reduceLE,Int.reduceToNat,Int.reduceAdd,ne_eq,decide_true,decide_false,tf18, he3])
      exact h w3 (g12.trans g3)
  · have hdk : decide ((k : Int) < (n : Int)) = false := decide_eq_false (by omega)
    rw [firstE_none (fun q hq => by
      obtain ⟨x, hx, rfl⟩ := List.mem_map.1 hq
      obtain ⟨j, hj, rfl⟩ := List.getElem_of_mem hx
      have := hno j (by omega)
      rwa [List.getD_eq_getElem?_getD, List.getElem?_eq_getElem hj] at this)] at h
    repeat (first | rw [c_seq] | simp -dsimp only [↓RE,RU,RL,Nat.reduceLeDiff,Nat.reduceLT,pureOp,binPure,intBin,strBin,eqPure,isConstO,lenPure,resK,endV,↓reduceIte,Nat.reduceEqDiff,reduceCtorEq,Nat.reduceAdd,Nat.reduceMul,Int.reduceLT,Int.reduceLE,Int.reduceToNat,Int.reduceAdd,ne_eq,decide_true,decide_false,tf18, he10, he11, he12, hdk])
    exact h w1 g1
set_option maxHeartbeats 1000000 in
theorem qcheck_ok {w : World} {A : Option Addr} {n c : Nat} {l : List PtV} (hR : RdP w A n l) (ho : ∀ x ∈ l, x.Ok w) (hn : n ≤ 100000000000) {R : VWK}
    (h : ∀ w', Grow w w' → R (badOf (checkE (l.map PtV.p))).v w') : CallsV Tryz.prog 19 [.slice A n c] w R := by
  have hl := hR.plen
  unfold checkE at h
  rw [List.length_map, hl] at h
  refine calls_of_wpC mixed Tryz.func19 rfl (by kernel_rfl) ?_
  intro e he
  have he0 := he 0
  simp only [List.getD_cons_zero, List.getD_cons_succ] at he0
  clear he
  rw [c_seq]
  simp -dsimp only [↓RE,RU,RL,Nat.reduceLeDiff,Nat.reduceLT,pureOp,binPure,intBin,strBin,eqPure,isConstO,lenPure,buildP,resK,endV,↓reduceIte,Nat.reduceEqDiff,reduceCtorEq,Nat.reduceAdd,Nat.reduceMul,Int.reduceLT,Int.reduceLE,Int.reduceToNat,Int.reduceAdd,ne_eq,decide_true,decide_false,tf19, he0]
  refine c_gen2 (fun e' w' => e' 0 = .slice A n c ∧ ∃ z, e' 2 = .pointer (some ⟨z, 0, none⟩) ∧ Blk w' z 33 [.int .i64 0, .int .i64 0, .int .i64 0, .bool false, .bool false] ∧ w.heap.size ≤ z ∧ Grow w w') ⟨?_, w.heap.size, ?_, Blk.new' w _ #[.int .i64 0, .int .i64 0, .int .i64 0, .bool false, .bool false], Nat.le_refl _, Grow.alloc w _⟩ ?_
  · simp -dsimp only [↓RE,RU,RL,↓reduceIte,Nat.reduceEqDiff,reduceCtorEq,decide_true,decide_false, he0]
  · simp -dsimp only [↓RE,RU,RL,↓reduceIte,Nat.reduceEqDiff,reduceCtorEq,decide_true,decide_false, he0]
  clear he0 e
  rintro e w0 ⟨he0, z, he2, hbz, hzw, g0⟩
  rcases Nat.lt_or_ge 10000 n with hbig | hbig
  · have hd : decide ((10000 : Int) < (n : Int)) = true := decide_eq_true (by omega)
    rw [if_pos hbig] at h
    repeat (first | rw [c_seq] | simp -dsimp only [↓RE,RU,RL,Nat.reduceLeDiff,Nat.reduceLT,pureOp,binPure,intBin,strBin,eqPure,isConstO,lenPure,buildP,resK,endV,↓reduceIte,Nat.reduceEqDiff,reduceCtorEq,Nat.reduceAdd,Nat.reduceMul,Int.reduceLT,Int.reduceLE,Int.reduceToNat,Int.reduceAdd,ne_eq,decide_true,decide_false,tf19, he0, hd])
    refine rnew_ok (fun w2 g2 => ?_)
    repeat (first | rw [c_seq] | simp -dsimp only [↓RE,RU,RL,Nat.reduceLeDiff,Nat.reduceLT,pureOp,binPure,intBin,strBin,eqPure,isConstO,lenPure,buildP,resK,endV,↓reduceIte,Nat.reduceEqDiff,reduceCtorEq,Nat.reduceAdd,Nat.reduceMul,Int.reduceLT,Int.reduceLE,Int.reduceToNat,Int.reduceAdd,ne_eq,decide_true,decide_false,tf19, he2, BadV.v, BadV.cells])
    refine bad_ret (b := badC 6) (hbz.grow g2) hzw (g0.trans g2) (fun w3 hB3 g3 => ?_)
    repeat (first | rw [c_seq] | simp -dsimp only [↓RE,RU,RL,Nat.reduceLeDiff,Nat.reduceLT,pureOp,binPure,intBin,strBin,eqPure,isConstO,lenPure,buildP,resK,endV,↓reduceIte,Nat.reduceEqDiff,reduceCtorEq,Nat.reduceAdd,Nat.reduceMul,Int.reduceLT,Int.reduceLE,Int.reduceToNat,Int.reduceAdd,ne_eq,decide_true,decide_false,tf19, he2])
    refine hB3.aggK (by simp [BadV.cells]) ?_
    exact h w3 g3
  have hd : decide ((10000 : Int) < (n : Int)) = false := decide_eq_false (by omega)
  rw [if_neg (by omega)] at h
  repeat (first | rw [c_seq] | simp -dsimp only [↓RE,RU,RL,Nat.reduceLeDiff,Nat.reduceLT,pureOp,binPure,intBin,strBin,eqPure,isConstO,lenPure,buildP,resK,endV,↓reduceIte,Nat.reduceEqDiff,reduceCtorEq,Nat.reduceAdd,Nat.reduceMul,Int.reduceLT,Int.reduceLE,Int.reduceToNat,Int.reduceAdd,ne_eq,decide_true,decide_false,tf19, he0, hd])
  refine wpLoop_intro (fun e' w' => Grow w0 w' ∧ (e' 0 = .slice A n c ∧ e' 2 = .pointer (some ⟨z, 0, none⟩)) ∧ ∃ k : Nat, k ≤ n ∧ e' 3 = .int .i64 (k : Int) ∧ ∀ j, j < k → rightE (l.getD j p00).p = none)
    (fun e' _ => n - (envInt (e' 3)).toNat) ⟨Keep.refl _ _, ⟨?_, ?_⟩, 0, Nat.zero_le _, ?_, fun j hj => absurd hj (by omega)⟩ ?_
  · simp -dsimp only [↓RE,RU,RL,↓reduceIte,Nat.reduceEqDiff,reduceCtorEq,decide_true,decide_false, he0]
  · simp -dsimp only [↓RE,RU,RL,↓reduceIte,Nat.reduceEqDiff,reduceCtorEq,decide_true,decide_false, he2]
  · simp -dsimp only [↓RE,RU,RL,↓reduceIte,Nat.reduceEqDiff,reduceCtorEq,decide_true,decide_false, Int.cast_ofNat_Int]
  clear he0 he2 e
  rintro e w1 ⟨g1, ⟨he0, he2⟩, k, hk, he3, hno⟩
  rcases Nat.lt_or_ge k n with hlt | hge
  · have hdk : decide ((k : Int) < (n : Int)) = true := decide_eq_true (by omega)
    have hw1 : IntKind.i64.wrap ((k : Int) + 1) = ((k + 1 : Nat) : Int) := by rw [wrap_i64_in (by omega) (by omega)]; omega
    have g01 := g0.trans g1
    have hRg := hR.grow g01
    obtain ⟨ad, rfl⟩ : ∃ ad, A = some ad := by
      obtain ⟨ad, e, _⟩ := hRg.2 (by omega)
      exact ⟨ad, e⟩
    have hcs := hRg.pt hlt
    have hox := ho _ (getP_mem (l := l) (k := k) (by omega))
    have hgs := getP_some (l := l) (k := k) (by omega)
    have hfa : ∀ y, rightE (l.getD k p00).p = some y → firstE 0 (l.map PtV.p) = some (.ins (k : Int) y) := fun y hy => by
      have := firstE_at (l := l.map PtV.p) (i := 0) (k := k) (p := (l.getD k p00).p) (x := y) (fun j q hj hq => by
        rw [List.getElem?_map, getP_some (by omega)] at hq
        injection hq with hq
        rw [← hq]
        exact hno j hj) (by rw [List.getElem?_map, hgs]; rfl) hy
      rwa [Nat.zero_add] at this
    have hmu : (envInt (e 3)).toNat = k := by rw [he3]; exact Int.toNat_natCast k
    have hno1 : rightE (l.getD k p00).p = none → ∀ j, j < k + 1 → rightE (l.getD j p00).p = none := fun hq j hj => by
      rcases Nat.lt_or_eq_of_le (Nat.lt_succ_iff.1 hj) with hj | rfl
      · exact hno j hj
      · exact hq
    generalize l.getD k p00 = x at hcs hox hfa hno1
    repeat (first | rw [c_seq] | simp -dsimp only [↓RE,RU,RL,Nat.reduceLeDiff,Nat.reduceLT,pureOp,binPure,intBin,strBin,eqPure,isConstO,lenPure,buildP,resK,endV,↓reduceIte,Nat.reduceEqDiff,reduceCtorEq,Nat.reduceAdd,Nat.reduceMul,Int.reduceLT,Int.reduceLE,Int.reduceToNat,Int.reduceAdd,ne_eq,decide_true,decide_false,tf19, he0, he3, hdk, Int.toNat_natCast])
    refine ⟨⟨by omega, by omega⟩, x.cells, rfl, hcs, ?_⟩
    repeat (first | rw [c_seq] | simp -dsimp only [↓RE,RU,RL,Nat.reduceLeDiff,Nat.reduceLT,pureOp,binPure,intBin,strBin,eqPure,isConstO,lenPure,buildP,resK,endV,↓reduceIte,Nat.reduceEqDiff,reduceCtorEq,Nat.reduceAdd,Nat.reduceMul,Int.reduceLT,Int.reduceLE,Int.reduceToNat,Int.reduceAdd,ne_eq,decide_true,decide_false,tf19, he3])
    refine qright_ok (hox.grow g01) (fun w2 g2 => ?_)
    have hbz2 := (hbz.grow g1).grow g2
    have hbzl := hbz2.lt
    cases hr : rightE x.p with
    | none =>
      have hc0 : decide ((0 : Int) = 0) = true := rfl
      repeat (first | rw [c_seq] | simp -dsimp only [↓RE,RU,RL,Nat.reduceLeDiff,Nat.reduceLT,pureOp,binPure,intBin,strBin,eqPure,isConstO,lenPure,buildP,resK,endV,↓reduceIte,Nat.reduceEqDiff,reduceCtorEq,Nat.reduceAdd,Nat.reduceMul,Int.reduceLT,Int.reduceLE,Int.reduceToNat,Int.reduceAdd,ne_eq,decide_true,decide_false,tf19, he3, badOf, BadV.none, BadV.v, BadV.cells])
      refine newN (cs := BadV.none.cells) rfl (by simp [BadV.cells, Value.oneCell']) (fun w3 hb g3 => ?_)
      have hb0 : w3.cell? ⟨w2.heap.size, 0, none⟩ = some (.int .i64 0) := (hb.cell 0).trans rfl
      repeat (first | rw [c_seq] | simp -dsimp only [↓RE,RU,RL,Nat.reduceLeDiff,Nat.reduceLT,pureOp,binPure,intBin,strBin,eqPure,isConstO,lenPure,buildP,resK,endV,↓reduceIte,Nat.reduceEqDiff,reduceCtorEq,Nat.reduceAdd,Nat.reduceMul,Int.reduceLT,Int.reduceLE,Int.reduceToNat,Int.reduceAdd,ne_eq,decide_true,decide_false,tf19, he3, hb0, hw1, hc0, add_lit', Nat.zero_add])
      refine hold_intro ⟨⟨(g1.trans g2).trans g3, ⟨?_, ?_⟩, k + 1, hlt, ?_, hno1 hr⟩, ?_⟩
      · simp -dsimp only [↓RE,RU,RL,↓reduceIte,Nat.reduceEqDiff,reduceCtorEq,decide_true,decide_false, he0]
      · simp -dsimp only [↓RE,RU,RL,↓reduceIte,Nat.reduceEqDiff,reduceCtorEq,decide_true,decide_false, he2]
      · simp -dsimp only [↓RE,RU,RL,↓reduceIte,Nat.reduceEqDiff,reduceCtorEq,decide_true,decide_false, hw1]
      · rw [hmu]
        simp -dsimp only [↓RE,↓c_seq,RU,RL,Nat.reduceLeDiff,Nat.reduceLT,pureOp,binPure,intBin,strBin,eqPure,isConstO,lenPure,buildP,resK,endV,↓reduceIte,Nat.reduceEqDiff,reduceCtorEq,Nat.reduceAdd,Nat.reduceMul,Int.reduceLT,Int.reduceLE,Int.reduceToNat,Int.reduceAdd,ne_eq,decide_true,decide_false,tf19, hw1]
        simp only [envInt_int]; omega
    | some y =>
      have hyc := rightE_code hr
      rw [hfa y hr] at h
      have hc0 : decide (y.code = 0) = false := decide_eq_false hyc
      repeat (first | rw [c_seq] | simp -dsimp only [↓RE,RU,RL,Nat.reduceLeDiff,Nat.reduceLT,pureOp,binPure,intBin,strBin,eqPure,isConstO,lenPure,buildP,resK,endV,↓reduceIte,Nat.reduceEqDiff,reduceCtorEq,Nat.reduceAdd,Nat.reduceMul,Int.reduceLT,Int.reduceLE,Int.reduceToNat,Int.reduceAdd,ne_eq,decide_true,decide_false,tf19, he3, badOf, BadV.v])
      refine ⟨rfl, newN (cs := y.bad.cells) rfl (by simp [BadV.cells, Value.oneCell']) (fun w3 hb g3 => ?_)⟩
      have hb0 : w3.cell? ⟨w2.heap.size, 0, none⟩ = some (.int .i64 y.code) := (hb.cell 0).trans rfl
      repeat (first | rw [c_seq] | simp -dsimp only [↓RE,RU,RL,Nat.reduceLeDiff,Nat.reduceLT,pureOp,binPure,intBin,strBin,eqPure,isConstO,lenPure,buildP,resK,endV,↓reduceIte,Nat.reduceEqDiff,reduceCtorEq,Nat.reduceAdd,Nat.reduceMul,Int.reduceLT,Int.reduceLE,Int.reduceToNat,Int.reduceAdd,ne_eq,decide_true,decide_false,tf19, he3, hb0, hc0, add_lit', Nat.zero_add, Bool.not_false])
      refine ⟨y.bad.cells, rfl, fun j v hv => by rw [add_lit', Nat.zero_add, hb.cell]; exact hv, ?_⟩
      repeat (first | rw [c_seq] | simp -dsimp only [↓RE,RU,RL,Nat.reduceLeDiff,Nat.reduceLT,pureOp,binPure,intBin,strBin,eqPure,isConstO,lenPure,buildP,resK,endV,↓reduceIte,Nat.reduceEqDiff,reduceCtorEq,Nat.reduceAdd,Nat.reduceMul,Int.reduceLT,Int.reduceLE,Int.reduceToNat,Int.reduceAdd,ne_eq,decide_true,decide_false,tf19, he3])
      refine rin_ok hyc (fun w4 g4 => ?_)
      repeat (first | rw [c_seq] | simp -dsimp only [↓RE,RU,RL,Nat.reduceLeDiff,Nat.reduceLT,pureOp,binPure,intBin,strBin,eqPure,isConstO,lenPure,buildP,resK,endV,↓reduceIte,Nat.reduceEqDiff,reduceCtorEq,Nat.reduceAdd,Nat.reduceMul,Int.reduceLT,Int.reduceLE,Int.reduceToNat,Int.reduceAdd,ne_eq,decide_true,decide_false,tf19, he2, BadV.v])
      refine ⟨rfl, bad_ret (b := (Er.ins (k : Int) y).bad) ((hbz2.grow g3).grow g4) hzw ((((g0.trans g1).trans g2).trans g3).trans g4) (fun w5 hB5 g5 => ?_)⟩
      repeat (first | rw [c_seq] | simp -dsimp only [↓RE,RU,RL,Nat.reduceLeDiff,Nat.reduceLT,pureOp,binPure,intBin,strBin,eqPure,isConstO,lenPure,buildP,resK,endV,↓reduceIte,Nat.reduceEqDiff,reduceCtorEq,Nat.reduceAdd,Nat.reduceMul,Int.reduceLT,Int.reduceLE,Int.reduceToNat,Int.reduceAdd,ne_eq,decide_true,decide_false,tf19, he2])
      refine hB5.aggK (by simp [BadV.cells]) ?_
      exact h w5 g5
  · have hdk : decide ((k : Int) < (n : Int)) = false := decide_eq_false (by omega)
    rw [firstE_none (fun q hq => by
      obtain ⟨x, hx, rfl⟩ := List.mem_map.1 hq
      obtain ⟨j, hj, rfl⟩ := List.getElem_of_mem hx
      have := hno j (by omega)
      rwa [List.getD_eq_getElem?_getD, List.getElem?_eq_getElem hj] at this)] at h
    repeat (first | rw [c_seq] | simp -dsimp only [↓RE,RU,RL,Nat.reduceLeDiff,Nat.reduceLT,pureOp,binPure,intBin,strBin,eqPure,isConstO,lenPure,buildP,resK,endV,↓reduceIte,Nat.reduceEqDiff,reduceCtorEq,Nat.reduceAdd,Nat.reduceMul,Int.reduceLT,Int.reduceLE,Int.reduceToNat,Int.reduceAdd,ne_eq,decide_true,decide_false,tf19, he0, he2, he3, hdk])
    refine bad_ret (b := BadV.none) (hbz.grow g1) hzw (g0.trans g1) (fun w3 hB3 g3 => ?_)
    repeat (first | rw [c_seq] | simp -dsimp only [↓RE,RU,RL,Nat.reduceLeDiff,Nat.reduceLT,pureOp,binPure,intBin,strBin,eqPure,isConstO,lenPure,buildP,resK,endV,↓reduceIte,Nat.reduceEqDiff,reduceCtorEq,Nat.reduceAdd,Nat.reduceMul,Int.reduceLT,Int.reduceLE,Int.reduceToNat,Int.reduceAdd,ne_eq,decide_true,decide_false,tf19, he2])
    refine hB3.aggK (by simp [BadV.cells]) ?_
    exact h w3 g3

end Go.Proofs.YtljgnocpijniiaaGreatDoor
