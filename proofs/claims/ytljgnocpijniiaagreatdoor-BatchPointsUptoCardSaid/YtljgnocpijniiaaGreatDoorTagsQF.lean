/- Points: are their tags, their fields as they must be; of the program. -/
/- Points: are their tags, their fields as they must be; of the document. -/
/- The document's fields, and its tags. -/
import Derived.Test.YtljgnocpijniiaaGreatDoorRightP
import Derived.Test.YtljgnocpijniiaaGreatDoorSorts
import Derived.Test.YtljgnocpijniiaaGreatDoorInsSrt
import Derived.Test.YtljgnocpijniiaaGreatDoorPureS
import Derived.Test.YtljgnocpijniiaaGreatDoorBadV
set_option linter.unusedVariables false
set_option linter.unusedSimpArgs false
set_option maxRecDepth 100000
namespace Go.Proofs.YtljgnocpijniiaaGreatDoor
open Go

theorem Tabs.keep {F : Nat → Prop} {w w' : World} (h : Tabs w) (k : Keep F w w') (h3 : ¬ F (validRen.g 3)) (h4 : ¬ F (validRen.g 4)) : Tabs w' :=
  ⟨fun c hc => k.cell (h.1 c hc) h3, fun i hi => ⟨k.cell (h.2 i hi).1 h4, k.cell (h.2 i hi).2 h4⟩⟩
theorem Tabs.grow {w w' : World} (h : Tabs w) (k : Grow w w') : Tabs w' := h.keep k (fun h => h) (fun h => h)
abbrev Fd := ByteArray × Int
def f00 : Fd := (.empty, 0)
instance : Inhabited Fd := ⟨f00⟩
def fcells (f : Fd) : List Value := [.string f.1, .int .i64 f.2]
abbrev RdF (w : World) (A : Option Addr) (n : Nat) (l : List Fd) : Prop := Rd w A n 2 (l.flatMap fcells)
theorem Rd.flen {w : World} {A : Option Addr} {n : Nat} {l : List Fd} (h : RdF w A n l) : l.length = n := by
  have h1 := h.1
  rw [flat_len fcells (size := 2) l (fun _ _ => rfl)] at h1
  omega
theorem getF_some {l : List Fd} {k : Nat} (h : k < l.length) : l[k]? = some (l.getD k f00) := by rw [List.getD_eq_getElem?_getD, List.getElem?_eq_getElem h]; rfl
theorem Rd.fd {w : World} {ad : Addr} {n : Nat} {l : List Fd} (h : RdF w (some ad) n l) {k : Nat} (hk : k < n) :
    w.cell? (ad.add (k * 2)) = some (.string (l.getD k f00).1) ∧ w.cell? ((ad.add (k * 2)).add 1) = some (.int .i64 (l.getD k f00).2) ∧
      (∀ {K : VK} {tk : Tok K}, K (.agg #[.string (l.getD k f00).1, .int .i64 (l.getD k f00).2]) → aggK w (ad.add (k * 2)) (some 2) K tk) := by
  have hl := h.flen
  obtain ⟨_, ad', hA, hc⟩ := h.flat (size := 2) (fun _ _ => rfl) (getF_some (l := l) (k := k) (by omega)) (by omega)
  injection hA with hA
  subst hA
  refine ⟨?_, hc 1 _ rfl, fun hK => ⟨fcells (l.getD k f00), rfl, fun j v hv => hc j v hv, hK⟩⟩
  have := hc 0 _ rfl
  rwa [add_zero'] at this
theorem fk_snoc {l : List Fd} {k : Nat} (h : k < l.length) : l.take (k + 1) = l.take k ++ [l.getD k f00] := by
  rw [List.take_succ_eq_append_getElem h, List.getD_eq_getElem?_getD, List.getElem?_eq_getElem h]; rfl
/-- a text that can be looked at. -/
abbrev Szb (s : ByteArray) : Prop := s.size ≤ 4611686018427387904
def okT (t : Tg) : Bool := wordB t.1 && rightB t.2 256
def tagsB (l : List Tg) : Bool := l.all okT && (decide (l.length ≤ 8) && !twiceB (l.map Prod.fst))
def okFd (f : Fd) : Bool := wordB f.1
def fieldsB (l : List Fd) : Bool := l.all okFd && ((decide (1 ≤ l.length) && decide (l.length ≤ 16)) && !twiceB (l.map Prod.fst))
/-- one text more. -/
theorem app_b {w : World} {v : Value} {L : List ByteArray} (h : BRow w v L) {A : Option Addr} {n c : Nat} {xs : List ByteArray} (hX : Rd w A n 1 (xs.map Value.string)) (hn : L.length + n ≤ 1000000000000) {ty : TypeId} {K : VWK} {tk : Tok K}
    (hK : ∀ A' c' w', BRow w' (.slice A' (L.length + n) c') (L ++ xs) → Keep (fpV v) w w' → (∀ q, fpV (.slice A' (L.length + n) c') q → fpV v q ∨ q = w.heap.size) → K (.slice A' (L.length + n) c') w') :
    appK Tryz.prog [147, 147] ty [v, .slice A n c] w K tk := by
  have hl : xs.length = n := by have := hX.1; simpa using this
  refine appK_l (bytes := 16) (by kernel_rfl) h hX (by simp [Value.oneCell']) (by simp only [maxLen]; omega) (by omega) (fun A' c' w' hL k1 f1 _ => hK A' c' w' ?_ k1 f1)
  unfold BRow
  rw [List.map_append, List.length_append, hl]
  exact hL
theorem one_brow (w : World) (x : ByteArray) : Rd (w.alloc (.cells #[.string x] 9)) (some ⟨w.heap.size, 0, none⟩) 1 1 ([x].map Value.string) := by
  have := Rd.of_own (own_new w 9 1 1 #[.string x] rfl (by simp [maxLen]))
  exact this
theorem all_take_false {α : Type} {l : List α} {p : α → Bool} {k : Nat} (hk : k < l.length) (d : α) (h : p (l.getD k d) = false) : l.all p = false := by
  rw [List.all_eq_false]
  refine ⟨l[k], List.getElem_mem _, ?_⟩
  rw [List.getD_eq_getElem?_getD, List.getElem?_eq_getElem hk] at h
  have h : p l[k] = false := h
  rw [h]
  decide
set_option maxHeartbeats 1000000 in
theorem ptags_ok {w : World} {A : Option Addr} {n c : Nat} {l : List Tg} (hR : RdT w A n l) (hn : n ≤ 100000000000) (hz : ∀ t ∈ l, Szb t.1 ∧ Szb t.2) (hT : Tabs w) {R : VWK}
    (h : ∀ w', Grow w w' → R (.bool (tagsB l)) w') : CallsV Tryz.prog 42 [.slice A n c] w R := by
  have hl := hR.tlen
  refine calls_of_wpC mixed Tryz.func42 rfl (by kernel_rfl) ?_
  intro e he
  have he0 := he 0
  simp only [List.getD_cons_zero, List.getD_cons_succ] at he0
  clear he
  repeat (first | rw [c_seq] | simp -dsimp only [↓RE,RU,RL,forall_const,implies_true,Nat.reduceLeDiff,Nat.reduceLT,pureOp,binPure,intBin,strBin,eqPure,isConstO,unPure,lenPure,resK,endV,yieldE,↓reduceIte,Nat.reduceEqDiff,reduceCtorEq,Nat.reduceAdd,Nat.reduceMul,Int.reduceLT,Int.reduceLE,Int.reduceToNat,Int.reduceAdd,ne_eq,decide_true,decide_false,tf42, he0])
  refine wpLoop_intro (fun e' w' => Grow w w' ∧ (e' 0 = .slice A n c ∧ e' 6 = .slice A n c ∧ e' 7 = .int .i64 (n : Int)) ∧ ∃ (k : Nat) (v : Value), k ≤ n ∧ e' 8 = .int .i64 (k : Int) ∧ e' 3 = v ∧ BRow w' v ((l.take k).map Prod.fst) ∧ (∀ q, fpV v q → w.heap.size ≤ q) ∧ (l.take k).all okT = true)
    (fun e' _ => n - (envInt (e' 8)).toNat) ⟨Keep.refl _ _, ⟨?_, ?_, ?_⟩, 0, .slice none 0 0, Nat.zero_le _, ?_, ?_, LRow.nil _ _ _, fun q hq => (fpV_none _ hq).elim, rfl⟩ ?_
  · simp -dsimp only [↓RE,RU,RL,↓reduceIte,Nat.reduceEqDiff,reduceCtorEq,decide_true,decide_false, he0]
  · simp -dsimp only [↓RE,RU,RL,↓reduceIte,Nat.reduceEqDiff,reduceCtorEq,decide_true,decide_false, he0]
  · simp -dsimp only [↓RE,RU,RL,↓reduceIte,Nat.reduceEqDiff,reduceCtorEq,decide_true,decide_false, he0]
  · simp -dsimp only [↓RE,RU,RL,↓reduceIte,Nat.reduceEqDiff,reduceCtorEq,decide_true,decide_false, Int.cast_ofNat_Int]
  · simp -dsimp only [↓RE,RU,RL,↓reduceIte,Nat.reduceEqDiff,reduceCtorEq,decide_true,decide_false, he0]
  clear he0 e
  rintro e w1 ⟨g1, ⟨he0, he6, he7⟩, k, v, hk, he8, he3, hv, hF, hall⟩
  rcases Nat.lt_or_ge k n with hlt | hge
  · have hd : decide ((k : Int) < (n : Int)) = true := decide_eq_true (by omega)
    have hw1 : IntKind.i64.wrap ((k : Int) + 1) = ((k + 1 : Nat) : Int) := by rw [wrap_i64_in (by omega) (by omega)]; omega
    have hRg := hR.grow g1
    obtain ⟨ad, rfl⟩ : ∃ ad, A = some ad := by
      obtain ⟨ad, e, _⟩ := hRg.2 (by omega)
      exact ⟨ad, e⟩
    obtain ⟨_, _, hag⟩ := hRg.tag' hlt
    have hsn := tk_snoc (l := l) (k := k) (by omega)
    have hall1 := fun hf => all_take_false (l := l) (p := okT) (k := k) (by omega) t00 hf
    have hzt : Szb (l.getD k t00).1 ∧ Szb (l.getD k t00).2 := hz _ (by rw [List.getD_eq_getElem?_getD, List.getElem?_eq_getElem (by omega)]; exact List.getElem_mem _)
    generalize l.getD k t00 = t at hag hsn hall1 hzt
    have hmu : (envInt (e 8)).toNat = k := by rw [he8]; exact Int.toNat_natCast k
    repeat (first | rw [c_seq] | simp -dsimp only [↓RE,RU,RL,forall_const,implies_true,Nat.reduceLeDiff,Nat.reduceLT,pureOp,binPure,intBin,strBin,eqPure,isConstO,unPure,lenPure,resK,endV,yieldE,↓reduceIte,Nat.reduceEqDiff,reduceCtorEq,Nat.reduceAdd,Nat.reduceMul,Int.reduceLT,Int.reduceLE,Int.reduceToNat,Int.reduceAdd,ne_eq,decide_true,decide_false,tf42, he6, he7, he8, hd, Int.toNat_natCast])
    refine ⟨⟨by omega, by omega⟩, hag ?_⟩
    repeat (first | rw [c_seq] | simp -dsimp only [↓RE,RU,RL,forall_const,implies_true,Nat.reduceLeDiff,Nat.reduceLT,pureOp,binPure,intBin,strBin,eqPure,isConstO,unPure,lenPure,resK,endV,yieldE,↓reduceIte,Nat.reduceEqDiff,reduceCtorEq,Nat.reduceAdd,Nat.reduceMul,Int.reduceLT,Int.reduceLE,Int.reduceToNat,Int.reduceAdd,ne_eq,decide_true,decide_false,tf42, he8])
    refine new2 (fun w2 hb g2 => ?_) rfl rfl
    have hbw : w.heap.size ≤ w1.heap.size := g1.size
    have hv2 := hv.grow g2
    have hg2 := g1.trans g2
    have hc0 : ∀ w', Grow w2 w' → w'.cell? ⟨w1.heap.size, 0, none⟩ = some (.string t.1) := fun w' g => ((hb.grow g).cell 0).trans rfl
    have hc1 : ∀ w', Grow w2 w' → w'.cell? ⟨w1.heap.size, 1, none⟩ = some (.string t.2) := fun w' g => ((hb.grow g).cell 1).trans rfl
    generalize w1.heap.size = b at hb hc0 hc1 hbw
    clear hv hag hRg
    refine os_gen (fun e' => (e' 0 = .slice (some ad) n c ∧ e' 6 = .slice (some ad) n c ∧ e' 7 = .int .i64 (n : Int)) ∧ e' 3 = v ∧ e' 5 = .pointer (some ⟨b, 0, none⟩) ∧ e' 8 = .int .i64 (k : Int)) ⟨⟨?_, ?_, ?_⟩, ?_, ?_, ?_⟩ ?_
    · simp -dsimp only [↓RE,RU,RL,↓reduceIte,Nat.reduceEqDiff,reduceCtorEq,decide_true,decide_false, he0]
    · simp -dsimp only [↓RE,RU,RL,↓reduceIte,Nat.reduceEqDiff,reduceCtorEq,decide_true,decide_false, he6]
    · simp -dsimp only [↓RE,RU,RL,↓reduceIte,Nat.reduceEqDiff,reduceCtorEq,decide_true,decide_false, he7]
    · simp -dsimp only [↓RE,RU,RL,↓reduceIte,Nat.reduceEqDiff,reduceCtorEq,decide_true,decide_false, he3]
    · simp -dsimp only [↓RE,RU,RL,↓reduceIte,Nat.reduceEqDiff,reduceCtorEq,decide_true,decide_false, he3]
    · simp -dsimp only [↓RE,RU,RL,↓reduceIte,Nat.reduceEqDiff,reduceCtorEq,decide_true,decide_false, he8]
    clear he0 he3 he6 he7 he8
    rintro e1 ⟨⟨he0, he6, he7⟩, he3, he5, he8⟩
    have hc0a := hc0 w2 (Keep.refl _ _)
    repeat (first | rw [c_seq] | simp -dsimp only [↓RE,RU,RL,forall_const,implies_true,Nat.reduceLeDiff,Nat.reduceLT,pureOp,binPure,intBin,strBin,eqPure,isConstO,unPure,lenPure,resK,endV,yieldE,↓reduceIte,Nat.reduceEqDiff,reduceCtorEq,Nat.reduceAdd,Nat.reduceMul,Int.reduceLT,Int.reduceLE,Int.reduceToNat,Int.reduceAdd,ne_eq,decide_true,decide_false,tf42, he5, hc0a, add_lit', Nat.zero_add, add_zero'])
    refine word_ok hzt.1 (hT.grow hg2) (fun w3 g3 => ?_)
    cases hwd : wordB t.1 with
    | false =>
      have hfa := hall1 (by unfold okT; rw [hwd]; rfl)
      have h := h w3 (hg2.trans g3)
      rw [tagsB, hfa, Bool.false_and] at h
      repeat (first | rw [c_seq] | simp -dsimp only [↓RE,RU,RL,forall_const,implies_true,Nat.reduceLeDiff,Nat.reduceLT,pureOp,binPure,intBin,strBin,eqPure,isConstO,unPure,lenPure,resK,endV,yieldE,↓reduceIte,Nat.reduceEqDiff,reduceCtorEq,Nat.reduceAdd,Nat.reduceMul,Int.reduceLT,Int.reduceLE,Int.reduceToNat,Int.reduceAdd,ne_eq,decide_true,decide_false,tf42, he5, undef])
      exact h
    | true =>
      have hc1a := hc1 w3 g3
      repeat (first | rw [c_seq] | simp -dsimp only [↓RE,RU,RL,forall_const,implies_true,Nat.reduceLeDiff,Nat.reduceLT,pureOp,binPure,intBin,strBin,eqPure,isConstO,unPure,lenPure,resK,endV,yieldE,↓reduceIte,Nat.reduceEqDiff,reduceCtorEq,Nat.reduceAdd,Nat.reduceMul,Int.reduceLT,Int.reduceLE,Int.reduceToNat,Int.reduceAdd,ne_eq,decide_true,decide_false,tf42, he5, hc1a, add_lit', Nat.zero_add])
      refine ktext_ok hzt.2 (hT.grow (hg2.trans g3)) (fun w4 g4 => ?_)
      have g24 := g3.trans g4
      cases htx : rightB t.2 256 with
      | false =>
        have hfa := hall1 (by unfold okT; rw [hwd, htx]; rfl)
        have h := h w4 (hg2.trans g24)
        rw [tagsB, hfa, Bool.false_and] at h
        repeat (first | rw [c_seq] | simp -dsimp only [↓RE,RU,RL,forall_const,implies_true,Nat.reduceLeDiff,Nat.reduceLT,pureOp,binPure,intBin,strBin,eqPure,isConstO,unPure,lenPure,resK,endV,yieldE,↓reduceIte,Nat.reduceEqDiff,reduceCtorEq,Nat.reduceAdd,Nat.reduceMul,Int.reduceLT,Int.reduceLE,Int.reduceToNat,Int.reduceAdd,ne_eq,decide_true,decide_false,tf42, he5, errO, Bool.false_eq_true, if_false])
        exact h
      | true =>
        have hc0b := hc0 w4 g24
        have hv4 := hv2.grow g24
        have ga := Grow.alloc w4 (.cells #[.string t.1] 9)
        have hlk : ((l.take k).map Prod.fst).length = k := by simp; omega
        repeat (first | rw [c_seq] | simp -dsimp only [↓RE,RU,RL,forall_const,implies_true,Nat.reduceLeDiff,Nat.reduceLT,pureOp,binPure,intBin,strBin,eqPure,isConstO,unPure,lenPure,resK,endV,yieldE,↓reduceIte,Nat.reduceEqDiff,reduceCtorEq,Nat.reduceAdd,Nat.reduceMul,Int.reduceLT,Int.reduceLE,Int.reduceToNat,Int.reduceAdd,ne_eq,decide_true,decide_false,tf42, he3, he5, errO, if_true, hc0b, add_lit', Nat.zero_add, add_zero'])
        refine app_b (hv4.grow ga) (one_brow w4 t.1) (by omega) (fun A' c' w5 hL5 k5 f5 => ?_)
        have hg4 := (hg2.trans g24).trans ga
        have hs4 := (hg2.trans g24).size
        have hsa := ga.size
        have hg5 : Grow w w5 := hg4.above k5 (fun q hq e => by have := hF q e; omega)
        repeat (first | rw [c_seq] | simp -dsimp only [↓RE,RU,RL,forall_const,implies_true,Nat.reduceLeDiff,Nat.reduceLT,pureOp,binPure,intBin,strBin,eqPure,isConstO,unPure,lenPure,resK,endV,yieldE,↓reduceIte,Nat.reduceEqDiff,reduceCtorEq,Nat.reduceAdd,Nat.reduceMul,Int.reduceLT,Int.reduceLE,Int.reduceToNat,Int.reduceAdd,ne_eq,decide_true,decide_false,tf42, he8, hw1])
        refine hold_intro ⟨⟨hg5, ⟨?_, ?_, ?_⟩, k + 1, _, hlt, ?_, ?_, by rw [hsn, List.map_append]; exact hL5, fun q hq => ?_, ?_⟩, ?_⟩
        · simp -dsimp only [↓RE,RU,RL,↓reduceIte,Nat.reduceEqDiff,reduceCtorEq,decide_true,decide_false, he0]
        · simp -dsimp only [↓RE,RU,RL,↓reduceIte,Nat.reduceEqDiff,reduceCtorEq,decide_true,decide_false, he6]
        · simp -dsimp only [↓RE,RU,RL,↓reduceIte,Nat.reduceEqDiff,reduceCtorEq,decide_true,decide_false, he7]
        · simp -dsimp only [↓RE,RU,RL,↓reduceIte,Nat.reduceEqDiff,reduceCtorEq,decide_true,decide_false, hw1]
        · simp -dsimp only [↓RE,RU,RL,↓reduceIte,Nat.reduceEqDiff,reduceCtorEq,decide_true,decide_false, he3]
        · rcases f5 q hq with e | e
          · exact hF q e
          · omega
        · rw [hsn, List.all_append, hall]
          unfold okT
          simp [hwd, htx]
        · rw [hmu]
          simp -dsimp only [↓RE,↓c_seq,RU,RL,forall_const,implies_true,Nat.reduceLeDiff,Nat.reduceLT,pureOp,binPure,intBin,strBin,eqPure,isConstO,unPure,lenPure,resK,endV,yieldE,↓reduceIte,Nat.reduceEqDiff,reduceCtorEq,Nat.reduceAdd,Nat.reduceMul,Int.reduceLT,Int.reduceLE,Int.reduceToNat,Int.reduceAdd,ne_eq,decide_true,decide_false,tf42, hw1]
          simp only [envInt_int]; omega
  · have hd : decide ((k : Int) < (n : Int)) = false := decide_eq_false (by omega)
    rw [List.take_of_length_le (by omega)] at hv hall
    rw [tagsB, hall, Bool.true_and, hl] at h
    rcases Nat.lt_or_ge 8 n with h8 | h8
    · have hd8 : decide ((n : Int) ≤ 8) = false := decide_eq_false (by omega)
      rw [decide_eq_false (by omega : ¬ n ≤ 8)] at h
      repeat (first | rw [c_seq] | simp -dsimp only [↓RE,RU,RL,forall_const,implies_true,Nat.reduceLeDiff,Nat.reduceLT,pureOp,binPure,intBin,strBin,eqPure,isConstO,unPure,lenPure,resK,endV,yieldE,↓reduceIte,Nat.reduceEqDiff,reduceCtorEq,Nat.reduceAdd,Nat.reduceMul,Int.reduceLT,Int.reduceLE,Int.reduceToNat,Int.reduceAdd,ne_eq,decide_true,decide_false,tf42, he0, he6, he7, he8, hd, hd8, undef])
      exact h w1 g1
    · have hd8 : decide ((n : Int) ≤ 8) = true := decide_eq_true (by omega)
      rw [decide_eq_true (by omega : n ≤ 8), Bool.true_and] at h
      repeat (first | rw [c_seq] | simp -dsimp only [↓RE,RU,RL,forall_const,implies_true,Nat.reduceLeDiff,Nat.reduceLT,pureOp,binPure,intBin,strBin,eqPure,isConstO,unPure,lenPure,resK,endV,yieldE,↓reduceIte,Nat.reduceEqDiff,reduceCtorEq,Nat.reduceAdd,Nat.reduceMul,Int.reduceLT,Int.reduceLE,Int.reduceToNat,Int.reduceAdd,ne_eq,decide_true,decide_false,tf42, he0, he3, he6, he7, he8, hd, hd8])
      refine twice_ok hv (by simp; omega) (fun w2 k2 => ?_)
      have g2 : Grow w w2 := g1.above k2 (fun q hq e => by have := hF q e; omega)
      repeat (first | rw [c_seq] | simp -dsimp only [↓RE,RU,RL,forall_const,implies_true,Nat.reduceLeDiff,Nat.reduceLT,pureOp,binPure,intBin,strBin,eqPure,isConstO,unPure,lenPure,resK,endV,yieldE,↓reduceIte,Nat.reduceEqDiff,reduceCtorEq,Nat.reduceAdd,Nat.reduceMul,Int.reduceLT,Int.reduceLE,Int.reduceToNat,Int.reduceAdd,ne_eq,decide_true,decide_false,tf42, he0, hd8])
      exact h w2 g2

set_option maxHeartbeats 1000000 in
theorem pfields_ok {w : World} {A : Option Addr} {n c : Nat} {l : List Fd} (hR : RdF w A n l) (hn : n ≤ 100000000000) (hz : ∀ t ∈ l, Szb t.1) (hT : Tabs w) {R : VWK}
    (h : ∀ w', Grow w w' → R (.bool (fieldsB l)) w') : CallsV Tryz.prog 43 [.slice A n c] w R := by
  have hl := hR.flen
  refine calls_of_wpC mixed Tryz.func43 rfl (by kernel_rfl) ?_
  intro e he
  have he0 := he 0
  simp only [List.getD_cons_zero, List.getD_cons_succ] at he0
  clear he
  repeat (first | rw [c_seq] | simp -dsimp only [↓RE,RU,RL,forall_const,implies_true,Nat.reduceLeDiff,Nat.reduceLT,pureOp,binPure,intBin,strBin,unPure,lenPure,resK,endV,yieldE,↓reduceIte,Nat.reduceEqDiff,reduceCtorEq,Nat.reduceAdd,Nat.reduceMul,Int.reduceLT,Int.reduceLE,Int.reduceToNat,Int.reduceAdd,decide_true,decide_false,tf43, he0])
  refine wpLoop_intro (fun e' w' => Grow w w' ∧ (e' 0 = .slice A n c ∧ e' 6 = .slice A n c ∧ e' 7 = .int .i64 (n : Int)) ∧ ∃ (k : Nat) (v : Value), k ≤ n ∧ e' 8 = .int .i64 (k : Int) ∧ e' 3 = v ∧ BRow w' v ((l.take k).map Prod.fst) ∧ (∀ q, fpV v q → w.heap.size ≤ q) ∧ (l.take k).all okFd = true)
    (fun e' _ => n - (envInt (e' 8)).toNat) ⟨Keep.refl _ _, ⟨?_, ?_, ?_⟩, 0, .slice none 0 0, Nat.zero_le _, ?_, ?_, LRow.nil _ _ _, fun q hq => (fpV_none _ hq).elim, rfl⟩ ?_
  · simp -dsimp only [↓RE,RU,RL,↓reduceIte,Nat.reduceEqDiff,reduceCtorEq,decide_true,decide_false, he0]
  · simp -dsimp only [↓RE,RU,RL,↓reduceIte,Nat.reduceEqDiff,reduceCtorEq,decide_true,decide_false, he0]
  · simp -dsimp only [↓RE,RU,RL,↓reduceIte,Nat.reduceEqDiff,reduceCtorEq,decide_true,decide_false, he0]
  · simp -dsimp only [↓RE,RU,RL,↓reduceIte,Nat.reduceEqDiff,reduceCtorEq,decide_true,decide_false, Int.cast_ofNat_Int]
  · simp -dsimp only [↓RE,RU,RL,↓reduceIte,Nat.reduceEqDiff,reduceCtorEq,decide_true,decide_false, he0]
  clear he0 e
  rintro e w1 ⟨g1, ⟨he0, he6, he7⟩, k, v, hk, he8, he3, hv, hF, hall⟩
  rcases Nat.lt_or_ge k n with hlt | hge
  · have hd : decide ((k : Int) < (n : Int)) = true := decide_eq_true (by omega)
    have hw1 : IntKind.i64.wrap ((k : Int) + 1) = ((k + 1 : Nat) : Int) := by rw [wrap_i64_in (by omega) (by omega)]; omega
    have hRg := hR.grow g1
    obtain ⟨ad, rfl⟩ : ∃ ad, A = some ad := by
      obtain ⟨ad, e, _⟩ := hRg.2 (by omega)
      exact ⟨ad, e⟩
    obtain ⟨_, _, hag⟩ := hRg.fd hlt
    have hsn := fk_snoc (l := l) (k := k) (by omega)
    have hall1 := fun hf => all_take_false (l := l) (p := okFd) (k := k) (by omega) f00 hf
    have hzt : Szb (l.getD k f00).1 := hz _ (by rw [List.getD_eq_getElem?_getD, List.getElem?_eq_getElem (by omega)]; exact List.getElem_mem _)
    generalize l.getD k f00 = t at hag hsn hall1 hzt
    have hmu : (envInt (e 8)).toNat = k := by rw [he8]; exact Int.toNat_natCast k
    repeat (first | rw [c_seq] | simp -dsimp only [↓RE,RU,RL,forall_const,implies_true,Nat.reduceLeDiff,Nat.reduceLT,pureOp,binPure,intBin,strBin,unPure,lenPure,resK,endV,yieldE,↓reduceIte,Nat.reduceEqDiff,reduceCtorEq,Nat.reduceAdd,Nat.reduceMul,Int.reduceLT,Int.reduceLE,Int.reduceToNat,Int.reduceAdd,decide_true,decide_false,tf43, he6, he7, he8, hd, Int.toNat_natCast])
    refine ⟨⟨by omega, by omega⟩, hag ?_⟩
    repeat (first | rw [c_seq] | simp -dsimp only [↓RE,RU,RL,forall_const,implies_true,Nat.reduceLeDiff,Nat.reduceLT,pureOp,binPure,intBin,strBin,unPure,lenPure,resK,endV,yieldE,↓reduceIte,Nat.reduceEqDiff,reduceCtorEq,Nat.reduceAdd,Nat.reduceMul,Int.reduceLT,Int.reduceLE,Int.reduceToNat,Int.reduceAdd,decide_true,decide_false,tf43, he8])
    refine new2 (fun w2 hb g2 => ?_) rfl rfl
    have hbw : w.heap.size ≤ w1.heap.size := g1.size
    have hv2 := hv.grow g2
    have hg2 := g1.trans g2
    have hc0 : ∀ w', Grow w2 w' → w'.cell? ⟨w1.heap.size, 0, none⟩ = some (.string t.1) := fun w' g => ((hb.grow g).cell 0).trans rfl
    generalize w1.heap.size = b at hb hc0 hbw
    clear hv hag hRg
    refine os_gen (fun e' => (e' 0 = .slice (some ad) n c ∧ e' 6 = .slice (some ad) n c ∧ e' 7 = .int .i64 (n : Int)) ∧ e' 3 = v ∧ e' 5 = .pointer (some ⟨b, 0, none⟩) ∧ e' 8 = .int .i64 (k : Int)) ⟨⟨?_, ?_, ?_⟩, ?_, ?_, ?_⟩ ?_
    · simp -dsimp only [↓RE,RU,RL,↓reduceIte,Nat.reduceEqDiff,reduceCtorEq,decide_true,decide_false, he0]
    · simp -dsimp only [↓RE,RU,RL,↓reduceIte,Nat.reduceEqDiff,reduceCtorEq,decide_true,decide_false, he6]
    · simp -dsimp only [↓RE,RU,RL,↓reduceIte,Nat.reduceEqDiff,reduceCtorEq,decide_true,decide_false, he7]
    · simp -dsimp only [↓RE,RU,RL,↓reduceIte,Nat.reduceEqDiff,reduceCtorEq,decide_true,decide_false, he3]
    · simp -dsimp only [↓RE,RU,RL,↓reduceIte,Nat.reduceEqDiff,reduceCtorEq,decide_true,decide_false, he3]
    · simp -dsimp only [↓RE,RU,RL,↓reduceIte,Nat.reduceEqDiff,reduceCtorEq,decide_true,decide_false, he8]
    clear he0 he3 he6 he7 he8
    rintro e1 ⟨⟨he0, he6, he7⟩, he3, he5, he8⟩
    have hc0a := hc0 w2 (Keep.refl _ _)
    repeat (first | rw [c_seq] | simp -dsimp only [↓RE,RU,RL,forall_const,implies_true,Nat.reduceLeDiff,Nat.reduceLT,pureOp,binPure,intBin,strBin,unPure,lenPure,resK,endV,yieldE,↓reduceIte,Nat.reduceEqDiff,reduceCtorEq,Nat.reduceAdd,Nat.reduceMul,Int.reduceLT,Int.reduceLE,Int.reduceToNat,Int.reduceAdd,decide_true,decide_false,tf43, he5, hc0a, add_lit', Nat.zero_add, add_zero'])
    refine word_ok hzt (hT.grow hg2) (fun w3 g3 => ?_)
    cases hwd : wordB t.1 with
    | false =>
      have hfa := hall1 (by unfold okFd; rw [hwd])
      have h := h w3 (hg2.trans g3)
      rw [fieldsB, hfa, Bool.false_and] at h
      repeat (first | rw [c_seq] | simp -dsimp only [↓RE,RU,RL,forall_const,implies_true,Nat.reduceLeDiff,Nat.reduceLT,pureOp,binPure,intBin,strBin,unPure,lenPure,resK,endV,yieldE,↓reduceIte,Nat.reduceEqDiff,reduceCtorEq,Nat.reduceAdd,Nat.reduceMul,Int.reduceLT,Int.reduceLE,Int.reduceToNat,Int.reduceAdd,decide_true,decide_false,tf43, he5, undef])
      exact h
    | true =>
      have hc0b := hc0 w3 g3
      have hv4 := hv2.grow g3
      have ga := Grow.alloc w3 (.cells #[.string t.1] 9)
      have hlk : ((l.take k).map Prod.fst).length = k := by simp; omega
      repeat (first | rw [c_seq] | simp -dsimp only [↓RE,RU,RL,forall_const,implies_true,Nat.reduceLeDiff,Nat.reduceLT,pureOp,binPure,intBin,strBin,unPure,lenPure,resK,endV,yieldE,↓reduceIte,Nat.reduceEqDiff,reduceCtorEq,Nat.reduceAdd,Nat.reduceMul,Int.reduceLT,Int.reduceLE,Int.reduceToNat,Int.reduceAdd,decide_true,decide_false,tf43, he3, he5, hc0b, add_lit', Nat.zero_add, add_zero'])
      refine app_b (hv4.grow ga) (one_brow w3 t.1) (by omega) (fun A' c' w5 hL5 k5 f5 => ?_)
      have hg4 := (hg2.trans g3).trans ga
      have hs4 := (hg2.trans g3).size
      have hsa := ga.size
      have hg5 : Grow w w5 := hg4.above k5 (fun q hq e => by have := hF q e; omega)
      repeat (first | rw [c_seq] | simp -dsimp only [↓RE,RU,RL,forall_const,implies_true,Nat.reduceLeDiff,Nat.reduceLT,pureOp,binPure,intBin,strBin,unPure,lenPure,resK,endV,yieldE,↓reduceIte,Nat.reduceEqDiff,reduceCtorEq,Nat.reduceAdd,Nat.reduceMul,Int.reduceLT,Int.reduceLE,Int.reduceToNat,Int.reduceAdd,decide_true,decide_false,tf43, he8, hw1])
      refine hold_intro ⟨⟨hg5, ⟨?_, ?_, ?_⟩, k + 1, _, hlt, ?_, ?_, by rw [hsn, List.map_append]; exact hL5, fun q hq => ?_, ?_⟩, ?_⟩
      · simp -dsimp only [↓RE,RU,RL,↓reduceIte,Nat.reduceEqDiff,reduceCtorEq,decide_true,decide_false, he0]
      · simp -dsimp only [↓RE,RU,RL,↓reduceIte,Nat.reduceEqDiff,reduceCtorEq,decide_true,decide_false, he6]
      · simp -dsimp only [↓RE,RU,RL,↓reduceIte,Nat.reduceEqDiff,reduceCtorEq,decide_true,decide_false, he7]
      · simp -dsimp only [↓RE,RU,RL,↓reduceIte,Nat.reduceEqDiff,reduceCtorEq,decide_true,decide_false, hw1]
      · simp -dsimp only [↓RE,RU,RL,↓reduceIte,Nat.reduceEqDiff,reduceCtorEq,decide_true,decide_false, he3]
      · rcases f5 q hq with e | e
        · exact hF q e
        · omega
      · rw [hsn, List.all_append, hall]
        unfold okFd
        simp [hwd]
      · rw [hmu]
        simp -dsimp only [↓RE,↓c_seq,RU,RL,forall_const,implies_true,Nat.reduceLeDiff,Nat.reduceLT,pureOp,binPure,intBin,strBin,unPure,lenPure,resK,endV,yieldE,↓reduceIte,Nat.reduceEqDiff,reduceCtorEq,Nat.reduceAdd,Nat.reduceMul,Int.reduceLT,Int.reduceLE,Int.reduceToNat,Int.reduceAdd,decide_true,decide_false,tf43, hw1]
        simp only [envInt_int]; omega
  · have hd : decide ((k : Int) < (n : Int)) = false := decide_eq_false (by omega)
    rw [List.take_of_length_le (by omega)] at hv hall
    rw [fieldsB, hall, Bool.true_and, hl] at h
    rcases Nat.lt_or_ge n 1 with h1 | h1
    · have hd1 : decide ((1 : Int) ≤ (n : Int)) = false := decide_eq_false (by omega)
      rw [decide_eq_false (by omega : ¬ 1 ≤ n)] at h
      repeat (first | rw [c_seq] | simp -dsimp only [↓RE,RU,RL,forall_const,implies_true,Nat.reduceLeDiff,Nat.reduceLT,pureOp,binPure,intBin,strBin,unPure,lenPure,resK,endV,yieldE,↓reduceIte,Nat.reduceEqDiff,reduceCtorEq,Nat.reduceAdd,Nat.reduceMul,Int.reduceLT,Int.reduceLE,Int.reduceToNat,Int.reduceAdd,decide_true,decide_false,tf43, he0, he6, he7, he8, hd, hd1, undef])
      exact h w1 g1
    have hd1 : decide ((1 : Int) ≤ (n : Int)) = true := decide_eq_true (by omega)
    rw [decide_eq_true h1, Bool.true_and] at h
    rcases Nat.lt_or_ge 16 n with h8 | h8
    · have hd8 : decide ((n : Int) ≤ 16) = false := decide_eq_false (by omega)
      rw [decide_eq_false (by omega : ¬ n ≤ 16)] at h
      repeat (first | rw [c_seq] | simp -dsimp only [↓RE,RU,RL,forall_const,implies_true,Nat.reduceLeDiff,Nat.reduceLT,pureOp,binPure,intBin,strBin,unPure,lenPure,resK,endV,yieldE,↓reduceIte,Nat.reduceEqDiff,reduceCtorEq,Nat.reduceAdd,Nat.reduceMul,Int.reduceLT,Int.reduceLE,Int.reduceToNat,Int.reduceAdd,decide_true,decide_false,tf43, he0, he6, he7, he8, hd, hd1, hd8, undef])
      exact h w1 g1
    · have hd8 : decide ((n : Int) ≤ 16) = true := decide_eq_true (by omega)
      rw [decide_eq_true (by omega : n ≤ 16), Bool.true_and] at h
      repeat (first | rw [c_seq] | simp -dsimp only [↓RE,RU,RL,forall_const,implies_true,Nat.reduceLeDiff,Nat.reduceLT,pureOp,binPure,intBin,strBin,unPure,lenPure,resK,endV,yieldE,↓reduceIte,Nat.reduceEqDiff,reduceCtorEq,Nat.reduceAdd,Nat.reduceMul,Int.reduceLT,Int.reduceLE,Int.reduceToNat,Int.reduceAdd,decide_true,decide_false,tf43, he0, he3, he6, he7, he8, hd, hd1, hd8])
      refine twice_ok hv (by simp; omega) (fun w2 k2 => ?_)
      have g2 : Grow w w2 := g1.above k2 (fun q hq e => by have := hF q e; omega)
      repeat (first | rw [c_seq] | simp -dsimp only [↓RE,RU,RL,forall_const,implies_true,Nat.reduceLeDiff,Nat.reduceLT,pureOp,binPure,intBin,strBin,unPure,lenPure,resK,endV,yieldE,↓reduceIte,Nat.reduceEqDiff,reduceCtorEq,Nat.reduceAdd,Nat.reduceMul,Int.reduceLT,Int.reduceLE,Int.reduceToNat,Int.reduceAdd,decide_true,decide_false,tf43, he0, hd1, hd8])
      exact h w2 g2

end Go.Proofs.YtljgnocpijniiaaGreatDoor

namespace Go.Proofs.YtljgnocpijniiaaGreatDoor
open Go

theorem uniqT (l : List Tg) : Uniq kT l ↔ (l.map Prod.fst).Nodup := by
  unfold Uniq List.Nodup
  rw [List.pairwise_map]
  refine ⟨fun h => h.imp (fun {a b} q e => q ((cmpS_eq _ _).2 e)), fun h => h.imp (fun {a b} q e => q ((cmpS_eq _ _).1 e))⟩
theorem tags_eq (l : List Tg) : ((decide ((srtT l).length ≤ 8) && (srtT l).all okT) && decide ((srtT l).length = l.length)) = tagsB l := by
  have hf := load_full kT_cmp l
  unfold tagsB twiceB
  by_cases hu : Uniq kT l
  · have hp := load_perm kT_cmp l hu
    have hl : (srtT l).length = l.length := hp.length_eq
    have ha : (srtT l).all okT = l.all okT := hp.all_eq
    rw [decide_eq_true ((uniqT l).1 hu), ha, hl, decide_eq_true rfl]
    simp [Bool.and_comm]
  · have hl : ¬ (srtT l).length = l.length := fun e => hu (hf.1 e)
    rw [decide_eq_false (fun q => hu ((uniqT l).2 q)), decide_eq_false hl]
    simp
def badC (c : Int) : BadV := ⟨c, 0, 0, false, false⟩
set_option maxHeartbeats 6000000 in
theorem rtags5_ok {w : World} {A : Option Addr} {n c : Nat} {S : List Tg} (hR : RdT w A n S) (hn : n ≤ 100000000000) (hz : ∀ t ∈ S, Szb t.1 ∧ Szb t.2) (hs : StrictC kT S) {R : VWK}
    (h : ∀ w', Grow w w' → R (badC (if (decide (S.length ≤ 8) && S.all okT) = true then 0 else 52)).v w') : CallsV Tryz.prog 107 [.slice A n c] w R := by
  have hl := hR.tlen
  refine calls_of_wpC mixed Tryz.func107 rfl (by kernel_rfl) ?_
  intro e he
  have he0 := he 0
  simp only [List.getD_cons_zero, List.getD_cons_succ] at he0
  clear he
  rw [c_seq]
  simp -dsimp only [↓RE,RU,RL,forall_const,implies_true,Nat.reduceLeDiff,Nat.reduceLT,pureOp,binPure,intBin,strBin,eqPure,isConstO,unPure,lenPure,buildP,resK,endV,yieldE,↓reduceIte,Nat.reduceEqDiff,reduceCtorEq,Nat.reduceAdd,Nat.reduceMul,Int.reduceLT,Int.reduceLE,Int.reduceToNat,Int.reduceAdd,Int.reduceSub,decide_true,decide_false,tf107, he0]
  refine c_gen2 (fun e' w' => e' 0 = .slice A n c ∧ ∃ z, e' 2 = .pointer (some ⟨z, 0, none⟩) ∧ Blk w' z 33 [.int .i64 0, .int .i64 0, .int .i64 0, .bool false, .bool false] ∧ w.heap.size ≤ z ∧ Grow w w') ⟨?_, w.heap.size, ?_, Blk.new' w _ #[.int .i64 0, .int .i64 0, .int .i64 0, .bool false, .bool false], Nat.le_refl _, Grow.alloc w _⟩ ?_
  · simp -dsimp only [↓RE,RU,RL,↓reduceIte,Nat.reduceEqDiff,reduceCtorEq,decide_true,decide_false, he0]
  · simp -dsimp only [↓RE,RU,RL,↓reduceIte,Nat.reduceEqDiff,reduceCtorEq,decide_true,decide_false, he0]
  clear he0 e
  rintro e w1 ⟨he0, z, he2, hbz, hzw, g1⟩
  rw [c_seq]
  simp -dsimp only [↓RE,RU,RL,forall_const,implies_true,Nat.reduceLeDiff,Nat.reduceLT,pureOp,binPure,intBin,strBin,eqPure,isConstO,unPure,lenPure,buildP,resK,endV,yieldE,↓reduceIte,Nat.reduceEqDiff,reduceCtorEq,Nat.reduceAdd,Nat.reduceMul,Int.reduceLT,Int.reduceLE,Int.reduceToNat,Int.reduceAdd,Int.reduceSub,decide_true,decide_false,tf107, he0]
  refine c_seq_cut (fun e' w' => e' 2 = .pointer (some ⟨z, 0, none⟩) ∧ Grow w1 w' ∧ e' 3 = .bool (decide (S.length ≤ 8) && S.all okT)) ?_ ?_
  · have hd8 : decide ((n : Int) ≤ 8) = decide (S.length ≤ 8) := by
      rcases Nat.lt_or_ge 8 n with q | q
      · rw [decide_eq_false (by omega), decide_eq_false (by omega)]
      · rw [decide_eq_true (by omega), decide_eq_true (by omega)]
    repeat (first | rw [c_seq] | simp -dsimp only [↓RE,RU,RL,forall_const,implies_true,Nat.reduceLeDiff,Nat.reduceLT,pureOp,binPure,intBin,strBin,eqPure,isConstO,unPure,lenPure,buildP,resK,endV,yieldE,↓reduceIte,Nat.reduceEqDiff,reduceCtorEq,Nat.reduceAdd,Nat.reduceMul,Int.reduceLT,Int.reduceLE,Int.reduceToNat,Int.reduceAdd,Int.reduceSub,decide_true,decide_false,tf107, he0])
    refine wpLoop_intro (fun e' w' => Grow w1 w' ∧ (e' 0 = .slice A n c ∧ e' 2 = .pointer (some ⟨z, 0, none⟩)) ∧ ∃ k : Nat, k ≤ n ∧ e' 4 = .int .i64 (k : Int) ∧ e' 3 = .bool (decide (S.length ≤ 8) && (S.take k).all okT))
      (fun e' _ => n - (envInt (e' 4)).toNat) ⟨Keep.refl _ _, ⟨?_, ?_⟩, 0, Nat.zero_le _, ?_, ?_⟩ ?_
    · simp -dsimp only [↓RE,RU,RL,↓reduceIte,Nat.reduceEqDiff,reduceCtorEq,decide_true,decide_false, he0]
    · simp -dsimp only [↓RE,RU,RL,↓reduceIte,Nat.reduceEqDiff,reduceCtorEq,decide_true,decide_false, he2]
    · simp -dsimp only [↓RE,RU,RL,↓reduceIte,Nat.reduceEqDiff,reduceCtorEq,decide_true,decide_false, Int.cast_ofNat_Int]
    · simp -dsimp only [↓RE,RU,RL,↓reduceIte,Nat.reduceEqDiff,reduceCtorEq,decide_true,decide_false, he0, hd8, List.take_zero, List.all_nil, Bool.and_true]
    clear he0 he2 e
    rintro e w2 ⟨g2, ⟨he0, he2⟩, k, hk, he4, he3⟩
    rcases Nat.lt_or_ge k n with hlt | hge
    · have hd : decide ((k : Int) < (n : Int)) = true := decide_eq_true (by omega)
      have hw1 : IntKind.i64.wrap ((k : Int) + 1) = ((k + 1 : Nat) : Int) := by rw [wrap_i64_in (by omega) (by omega)]; omega
      have hRg := hR.grow (g1.trans g2)
      obtain ⟨ad, rfl⟩ : ∃ ad, A = some ad := by
        obtain ⟨ad, e, _⟩ := hRg.2 (by omega)
        exact ⟨ad, e⟩
      have hmu : (envInt (e 4)).toNat = k := by rw [he4]; exact Int.toNat_natCast k
      have x0 : ∀ w', Grow w2 w' → w'.cell? (ad.add (k * 2)) = some (.string (S.getD k t00).1) := fun w' g => ((hRg.grow g).tag' hlt).1
      have x1 : ∀ w', Grow w2 w' → w'.cell? ((ad.add (k * 2)).add 1) = some (.string (S.getD k t00).2) := fun w' g => ((hRg.grow g).tag' hlt).2.1
      have hsn := tk_snoc (l := S) (k := k) (by omega)
      have hzt : Szb (S.getD k t00).1 ∧ Szb (S.getD k t00).2 := hz _ (by rw [List.getD_eq_getElem?_getD, List.getElem?_eq_getElem (by omega)]; exact List.getElem_mem _)
      have hall : ∀ b : Bool, okT (S.getD k t00) = b → (decide (S.length ≤ 8) && (S.take (k + 1)).all okT) = ((decide (S.length ≤ 8) && (S.take k).all okT) && b) := fun b hb => by
        rw [hsn, List.all_append, List.all_cons, List.all_nil, Bool.and_true, hb, Bool.and_assoc]
      generalize hacc : (decide (S.length ≤ 8) && (S.take k).all okT) = acc at he3 hall
      have hend : ∀ {w' : World} {b : Bool} {e' : Env}, Grow w1 w' → (decide (S.length ≤ 8) && (S.take (k + 1)).all okT) = b → e' 0 = .slice (some ad) n c → e' 2 = .pointer (some ⟨z, 0, none⟩) → e' 4 = .int .i64 ((k + 1 : Nat) : Int) → e' 3 = .bool b →
          Grow w1 w' ∧ (e' 0 = .slice (some ad) n c ∧ e' 2 = .pointer (some ⟨z, 0, none⟩)) ∧ ∃ k : Nat, k ≤ n ∧ e' 4 = .int .i64 (k : Int) ∧ e' 3 = .bool (decide (S.length ≤ 8) && (S.take k).all okT) := fun g hb h0 h2 h4 h3 => ⟨g, ⟨h0, h2⟩, k + 1, hlt, h4, by rw [h3, hb]⟩
      cases acc with
      | false =>
        have hh := hall (okT (S.getD k t00)) rfl
        rw [Bool.false_and] at hh
        repeat (first | rw [c_seq] | simp -dsimp only [↓RE,RU,RL,forall_const,implies_true,Nat.reduceLeDiff,Nat.reduceLT,pureOp,binPure,intBin,strBin,eqPure,isConstO,unPure,lenPure,buildP,resK,endV,yieldE,↓reduceIte,Nat.reduceEqDiff,reduceCtorEq,Nat.reduceAdd,Nat.reduceMul,Int.reduceLT,Int.reduceLE,Int.reduceToNat,Int.reduceAdd,Int.reduceSub,decide_true,decide_false,tf107, he0, he4, hd])
        refine wpDraw_by (Grow w2 ·) [(0, true), (1, true), (2, true), (3, true), (4, true), (5, true), (6, true), (7, false), (8, true), (9, true), (10, true), (11, true), (12, true), (13, true), (14, true), (15, false), (16, true), (17, true), (18, true), (19, true), (20, true), (21, true), (22, true), (23, true), (24, true), (25, true), (26, true), (27, true), (28, true), (29, true), (30, true), (31, true), (32, true), (33, true), (34, true), (35, true)] (by kernel_rfl) (Grow.drew w2) ?_
        simp only [planL, List.getElem?_toArray, List.getElem?_cons_zero, List.getElem?_cons_succ, Option.toList_some, List.map_cons, List.map_nil, List.cons_append, List.nil_append]
        repeat (first | rw [c_seq] | simp -dsimp only [↓RE,RU,RL,forall_const,implies_true,Nat.reduceLeDiff,Nat.reduceLT,pureOp,binPure,intBin,strBin,eqPure,isConstO,unPure,lenPure,buildP,resK,endV,yieldE,↓reduceIte,Nat.reduceEqDiff,reduceCtorEq,Nat.reduceAdd,Nat.reduceMul,Int.reduceLT,Int.reduceLE,Int.reduceToNat,Int.reduceAdd,Int.reduceSub,decide_true,decide_false,tf107, he3, undef])
        refine ⟨Grow.drew w2, ?_⟩
        repeat (first | rw [c_seq] | simp -dsimp only [↓RE,RU,RL,forall_const,implies_true,Nat.reduceLeDiff,Nat.reduceLT,pureOp,binPure,intBin,strBin,eqPure,isConstO,unPure,lenPure,buildP,resK,endV,yieldE,↓reduceIte,Nat.reduceEqDiff,reduceCtorEq,Nat.reduceAdd,Nat.reduceMul,Int.reduceLT,Int.reduceLE,Int.reduceToNat,Int.reduceAdd,Int.reduceSub,decide_true,decide_false,tf107, he3, undef])
        refine ⟨Grow.drew w2, ?_⟩
        simp -dsimp only [↓RE,RU,RL,forall_const,implies_true,Nat.reduceLeDiff,Nat.reduceLT,pureOp,binPure,intBin,strBin,eqPure,isConstO,unPure,lenPure,buildP,resK,endV,yieldE,↓reduceIte,Nat.reduceEqDiff,reduceCtorEq,Nat.reduceAdd,Nat.reduceMul,Int.reduceLT,Int.reduceLE,Int.reduceToNat,Int.reduceAdd,Int.reduceSub,decide_true,decide_false,tf107, he3, he4, hw1, undef]
        refine hold_intro ⟨hend (g2.trans (Grow.drew w2)) hh ?_ ?_ ?_ ?_, ?_⟩
        · simp -dsimp only [↓RE,RU,RL,↓reduceIte,Nat.reduceEqDiff,reduceCtorEq,decide_true,decide_false, he0]
        · simp -dsimp only [↓RE,RU,RL,↓reduceIte,Nat.reduceEqDiff,reduceCtorEq,decide_true,decide_false, he2]
        · simp -dsimp only [↓RE,RU,RL,↓reduceIte,Nat.reduceEqDiff,reduceCtorEq,decide_true,decide_false, hw1]
        · simp -dsimp only [↓RE,RU,RL,↓reduceIte,Nat.reduceEqDiff,reduceCtorEq,decide_true,decide_false, he3]
        · rw [hmu]
          simp -dsimp only [↓RE,↓c_seq,RU,RL,forall_const,implies_true,Nat.reduceLeDiff,Nat.reduceLT,pureOp,binPure,intBin,strBin,eqPure,isConstO,unPure,lenPure,buildP,resK,endV,yieldE,↓reduceIte,Nat.reduceEqDiff,reduceCtorEq,Nat.reduceAdd,Nat.reduceMul,Int.reduceLT,Int.reduceLE,Int.reduceToNat,Int.reduceAdd,Int.reduceSub,decide_true,decide_false,tf107, hw1]
          simp only [envInt_int]; omega
      | true =>
        repeat (first | rw [c_seq] | simp -dsimp only [↓RE,RU,RL,forall_const,implies_true,Nat.reduceLeDiff,Nat.reduceLT,pureOp,binPure,intBin,strBin,eqPure,isConstO,unPure,lenPure,buildP,resK,endV,yieldE,↓reduceIte,Nat.reduceEqDiff,reduceCtorEq,Nat.reduceAdd,Nat.reduceMul,Int.reduceLT,Int.reduceLE,Int.reduceToNat,Int.reduceAdd,Int.reduceSub,decide_true,decide_false,tf107, he0, he4, hd])
        refine wpDraw_by (Grow w2 ·) [(0, true), (1, true), (2, true), (3, true), (4, true), (5, true), (6, true), (7, false), (8, true), (9, true), (10, true), (11, true), (12, true), (13, true), (14, true), (15, false), (16, true), (17, true), (18, true), (19, true), (20, true), (21, true), (22, true), (23, true), (24, true), (25, true), (26, true), (27, true), (28, true), (29, true), (30, true), (31, true), (32, true), (33, true), (34, true), (35, true)] (by kernel_rfl) (Grow.drew w2) ?_
        simp only [planL, List.getElem?_toArray, List.getElem?_cons_zero, List.getElem?_cons_succ, Option.toList_some, List.map_cons, List.map_nil, List.cons_append, List.nil_append]
        repeat (first | rw [c_seq] | simp -dsimp only [↓RE,RU,RL,forall_const,implies_true,Nat.reduceLeDiff,Nat.reduceLT,pureOp,binPure,intBin,strBin,eqPure,isConstO,unPure,lenPure,buildP,resK,endV,yieldE,↓reduceIte,Nat.reduceEqDiff,reduceCtorEq,Nat.reduceAdd,Nat.reduceMul,Int.reduceLT,Int.reduceLE,Int.reduceToNat,Int.reduceAdd,Int.reduceSub,decide_true,decide_false,tf107, he0, he3, he4, Int.toNat_natCast, add_zero'])
        refine ⟨⟨by omega, by omega⟩, ?_⟩
        repeat (first | rw [c_seq] | simp -dsimp only [↓RE,RU,RL,forall_const,implies_true,Nat.reduceLeDiff,Nat.reduceLT,pureOp,binPure,intBin,strBin,eqPure,isConstO,unPure,lenPure,buildP,resK,endV,yieldE,↓reduceIte,Nat.reduceEqDiff,reduceCtorEq,Nat.reduceAdd,Nat.reduceMul,Int.reduceLT,Int.reduceLE,Int.reduceToNat,Int.reduceAdd,Int.reduceSub,decide_true,decide_false,tf107, he0, he3, he4, Int.toNat_natCast, add_zero'])
        refine ⟨_, x0, ?_⟩
        repeat (first | rw [c_seq] | simp -dsimp only [↓RE,RU,RL,forall_const,implies_true,Nat.reduceLeDiff,Nat.reduceLT,pureOp,binPure,intBin,strBin,eqPure,isConstO,unPure,lenPure,buildP,resK,endV,yieldE,↓reduceIte,Nat.reduceEqDiff,reduceCtorEq,Nat.reduceAdd,Nat.reduceMul,Int.reduceLT,Int.reduceLE,Int.reduceToNat,Int.reduceAdd,Int.reduceSub,decide_true,decide_false,tf107, he0, he3, he4])
        refine isword_ok hzt.1 ?_
        refine ⟨Grow.drew w2, ?_⟩
        cases hwd : wordB (S.getD k t00).1 with
        | false =>
          have hh := hall false (by unfold okT; rw [hwd]; rfl)
          repeat (first | rw [c_seq] | simp -dsimp only [↓RE,RU,RL,forall_const,implies_true,Nat.reduceLeDiff,Nat.reduceLT,pureOp,binPure,intBin,strBin,eqPure,isConstO,unPure,lenPure,buildP,resK,endV,yieldE,↓reduceIte,Nat.reduceEqDiff,reduceCtorEq,Nat.reduceAdd,Nat.reduceMul,Int.reduceLT,Int.reduceLE,Int.reduceToNat,Int.reduceAdd,Int.reduceSub,decide_true,decide_false,tf107, he3, undef])
          refine ⟨Grow.drew w2, ?_⟩
          simp -dsimp only [↓RE,RU,RL,forall_const,implies_true,Nat.reduceLeDiff,Nat.reduceLT,pureOp,binPure,intBin,strBin,eqPure,isConstO,unPure,lenPure,buildP,resK,endV,yieldE,↓reduceIte,Nat.reduceEqDiff,reduceCtorEq,Nat.reduceAdd,Nat.reduceMul,Int.reduceLT,Int.reduceLE,Int.reduceToNat,Int.reduceAdd,Int.reduceSub,decide_true,decide_false,tf107, he3, he4, hw1, undef]
          refine hold_intro ⟨hend (g2.trans (Grow.drew w2)) hh ?_ ?_ ?_ ?_, ?_⟩
          · simp -dsimp only [↓RE,RU,RL,↓reduceIte,Nat.reduceEqDiff,reduceCtorEq,decide_true,decide_false, he0]
          · simp -dsimp only [↓RE,RU,RL,↓reduceIte,Nat.reduceEqDiff,reduceCtorEq,decide_true,decide_false, he2]
          · simp -dsimp only [↓RE,RU,RL,↓reduceIte,Nat.reduceEqDiff,reduceCtorEq,decide_true,decide_false, hw1]
          · simp -dsimp only [↓RE,RU,RL,↓reduceIte,Nat.reduceEqDiff,reduceCtorEq,decide_true,decide_false, he3]
          · rw [hmu]
            simp -dsimp only [↓RE,↓c_seq,RU,RL,forall_const,implies_true,Nat.reduceLeDiff,Nat.reduceLT,pureOp,binPure,intBin,strBin,eqPure,isConstO,unPure,lenPure,buildP,resK,endV,yieldE,↓reduceIte,Nat.reduceEqDiff,reduceCtorEq,Nat.reduceAdd,Nat.reduceMul,Int.reduceLT,Int.reduceLE,Int.reduceToNat,Int.reduceAdd,Int.reduceSub,decide_true,decide_false,tf107, hw1]
            simp only [envInt_int]; omega
        | true =>
          repeat (first | rw [c_seq] | simp -dsimp only [↓RE,RU,RL,forall_const,implies_true,Nat.reduceLeDiff,Nat.reduceLT,pureOp,binPure,intBin,strBin,eqPure,isConstO,unPure,lenPure,buildP,resK,endV,yieldE,↓reduceIte,Nat.reduceEqDiff,reduceCtorEq,Nat.reduceAdd,Nat.reduceMul,Int.reduceLT,Int.reduceLE,Int.reduceToNat,Int.reduceAdd,Int.reduceSub,decide_true,decide_false,tf107, he0, he3, he4, Int.toNat_natCast])
          refine ⟨⟨by omega, by omega⟩, ?_⟩
          repeat (first | rw [c_seq] | simp -dsimp only [↓RE,RU,RL,forall_const,implies_true,Nat.reduceLeDiff,Nat.reduceLT,pureOp,binPure,intBin,strBin,eqPure,isConstO,unPure,lenPure,buildP,resK,endV,yieldE,↓reduceIte,Nat.reduceEqDiff,reduceCtorEq,Nat.reduceAdd,Nat.reduceMul,Int.reduceLT,Int.reduceLE,Int.reduceToNat,Int.reduceAdd,Int.reduceSub,decide_true,decide_false,tf107, he0, he3, he4, Int.toNat_natCast])
          refine ⟨_, x1, ?_⟩
          repeat (first | rw [c_seq] | simp -dsimp only [↓RE,RU,RL,forall_const,implies_true,Nat.reduceLeDiff,Nat.reduceLT,pureOp,binPure,intBin,strBin,eqPure,isConstO,unPure,lenPure,buildP,resK,endV,yieldE,↓reduceIte,Nat.reduceEqDiff,reduceCtorEq,Nat.reduceAdd,Nat.reduceMul,Int.reduceLT,Int.reduceLE,Int.reduceToNat,Int.reduceAdd,Int.reduceSub,decide_true,decide_false,tf107, he0, he3, he4])
          refine istext_ok hzt.2 ?_
          refine ⟨Grow.drew w2, ?_⟩
          cases htx : rightB (S.getD k t00).2 256 with
          | false =>
            have hh := hall false (by unfold okT; rw [hwd, htx]; rfl)
            simp -dsimp only [↓RE,RU,RL,forall_const,implies_true,Nat.reduceLeDiff,Nat.reduceLT,pureOp,binPure,intBin,strBin,eqPure,isConstO,unPure,lenPure,buildP,resK,endV,yieldE,↓reduceIte,Nat.reduceEqDiff,reduceCtorEq,Nat.reduceAdd,Nat.reduceMul,Int.reduceLT,Int.reduceLE,Int.reduceToNat,Int.reduceAdd,Int.reduceSub,decide_true,decide_false,tf107, he3, he4, hw1, undef]
            refine hold_intro ⟨hend (g2.trans (Grow.drew w2)) hh ?_ ?_ ?_ ?_, ?_⟩
            · simp -dsimp only [↓RE,RU,RL,↓reduceIte,Nat.reduceEqDiff,reduceCtorEq,decide_true,decide_false, he0]
            · simp -dsimp only [↓RE,RU,RL,↓reduceIte,Nat.reduceEqDiff,reduceCtorEq,decide_true,decide_false, he2]
            · simp -dsimp only [↓RE,RU,RL,↓reduceIte,Nat.reduceEqDiff,reduceCtorEq,decide_true,decide_false, hw1]
            · simp -dsimp only [↓RE,RU,RL,↓reduceIte,Nat.reduceEqDiff,reduceCtorEq,decide_true,decide_false, he3]
            · rw [hmu]
              simp -dsimp only [↓RE,↓c_seq,RU,RL,forall_const,implies_true,Nat.reduceLeDiff,Nat.reduceLT,pureOp,binPure,intBin,strBin,eqPure,isConstO,unPure,lenPure,buildP,resK,endV,yieldE,↓reduceIte,Nat.reduceEqDiff,reduceCtorEq,Nat.reduceAdd,Nat.reduceMul,Int.reduceLT,Int.reduceLE,Int.reduceToNat,Int.reduceAdd,Int.reduceSub,decide_true,decide_false,tf107, hw1]
              simp only [envInt_int]; omega
          | true =>
            have hh := hall true (by unfold okT; rw [hwd, htx]; rfl)
            rcases Nat.eq_zero_or_pos k with hk0 | hk0
            · have hdk : decide ((k : Int) = 0) = true := decide_eq_true (by omega)
              simp -dsimp only [↓RE,RU,RL,forall_const,implies_true,Nat.reduceLeDiff,Nat.reduceLT,pureOp,binPure,intBin,strBin,eqPure,isConstO,unPure,lenPure,buildP,resK,endV,yieldE,↓reduceIte,Nat.reduceEqDiff,reduceCtorEq,Nat.reduceAdd,Nat.reduceMul,Int.reduceLT,Int.reduceLE,Int.reduceToNat,Int.reduceAdd,Int.reduceSub,decide_true,decide_false,tf107, he3, he4, hdk, hw1, undef]
              refine hold_intro ⟨hend (g2.trans (Grow.drew w2)) hh ?_ ?_ ?_ ?_, ?_⟩
              · simp -dsimp only [↓RE,RU,RL,↓reduceIte,Nat.reduceEqDiff,reduceCtorEq,decide_true,decide_false, he0]
              · simp -dsimp only [↓RE,RU,RL,↓reduceIte,Nat.reduceEqDiff,reduceCtorEq,decide_true,decide_false, he2]
              · simp -dsimp only [↓RE,RU,RL,↓reduceIte,Nat.reduceEqDiff,reduceCtorEq,decide_true,decide_false, hw1]
              · simp -dsimp only [↓RE,RU,RL,↓reduceIte,Nat.reduceEqDiff,reduceCtorEq,decide_true,decide_false, he3]
              · rw [hmu]
                simp -dsimp only [↓RE,↓c_seq,RU,RL,forall_const,implies_true,Nat.reduceLeDiff,Nat.reduceLT,pureOp,binPure,intBin,strBin,eqPure,isConstO,unPure,lenPure,buildP,resK,endV,yieldE,↓reduceIte,Nat.reduceEqDiff,reduceCtorEq,Nat.reduceAdd,Nat.reduceMul,Int.reduceLT,Int.reduceLE,Int.reduceToNat,Int.reduceAdd,Int.reduceSub,decide_true,decide_false,tf107, hw1]
                simp only [envInt_int]; omega
            · have hdk : decide ((k : Int) = 0) = false := decide_eq_false (by omega)
              have hwm : IntKind.i64.wrap ((k : Int) - 1) = ((k - 1 : Nat) : Int) := by rw [wrap_i64_in (by omega) (by omega)]; omega
              have y0 : ∀ w', Grow w2 w' → w'.cell? (ad.add ((k - 1) * 2)) = some (.string (S.getD (k - 1) t00).1) := fun w' g => ((hRg.grow g).tag' (by omega)).1
              have hls : Op.bytesLess (S.getD (k - 1) t00).1.toList (S.getD k t00).1.toList = true := cmpS_ltT (ltK (a := t00) (b := t00) (t := t00) hs (by omega) (by omega))
              repeat (first | rw [c_seq] | simp -dsimp only [↓RE,RU,RL,forall_const,implies_true,Nat.reduceLeDiff,Nat.reduceLT,pureOp,binPure,intBin,strBin,eqPure,isConstO,unPure,lenPure,buildP,resK,endV,yieldE,↓reduceIte,Nat.reduceEqDiff,reduceCtorEq,Nat.reduceAdd,Nat.reduceMul,Int.reduceLT,Int.reduceLE,Int.reduceToNat,Int.reduceAdd,Int.reduceSub,decide_true,decide_false,tf107, he0, he3, he4, hdk, hwm, Int.toNat_natCast, add_zero'])
              refine ⟨⟨by omega, by omega⟩, ?_⟩
              repeat (first | rw [c_seq] | simp -dsimp only [↓RE,RU,RL,forall_const,implies_true,Nat.reduceLeDiff,Nat.reduceLT,pureOp,binPure,intBin,strBin,eqPure,isConstO,unPure,lenPure,buildP,resK,endV,yieldE,↓reduceIte,Nat.reduceEqDiff,reduceCtorEq,Nat.reduceAdd,Nat.reduceMul,Int.reduceLT,Int.reduceLE,Int.reduceToNat,Int.reduceAdd,Int.reduceSub,decide_true,decide_false,tf107, he0, he3, he4, hdk, hwm, Int.toNat_natCast, add_zero'])
              refine ⟨_, y0, ?_⟩
              repeat (first | rw [c_seq] | simp -dsimp only [↓RE,RU,RL,forall_const,implies_true,Nat.reduceLeDiff,Nat.reduceLT,pureOp,binPure,intBin,strBin,eqPure,isConstO,unPure,lenPure,buildP,resK,endV,yieldE,↓reduceIte,Nat.reduceEqDiff,reduceCtorEq,Nat.reduceAdd,Nat.reduceMul,Int.reduceLT,Int.reduceLE,Int.reduceToNat,Int.reduceAdd,Int.reduceSub,decide_true,decide_false,tf107, he0, he3, he4, hdk, hwm, Int.toNat_natCast, add_zero'])
              refine ⟨⟨by omega, by omega⟩, ?_⟩
              repeat (first | rw [c_seq] | simp -dsimp only [↓RE,RU,RL,forall_const,implies_true,Nat.reduceLeDiff,Nat.reduceLT,pureOp,binPure,intBin,strBin,eqPure,isConstO,unPure,lenPure,buildP,resK,endV,yieldE,↓reduceIte,Nat.reduceEqDiff,reduceCtorEq,Nat.reduceAdd,Nat.reduceMul,Int.reduceLT,Int.reduceLE,Int.reduceToNat,Int.reduceAdd,Int.reduceSub,decide_true,decide_false,tf107, he0, he3, he4, hdk, hwm, Int.toNat_natCast, add_zero'])
              refine ⟨_, x0, ?_⟩
              simp -dsimp only [↓RE,RU,RL,forall_const,implies_true,Nat.reduceLeDiff,Nat.reduceLT,pureOp,binPure,intBin,strBin,eqPure,isConstO,unPure,lenPure,buildP,resK,endV,yieldE,↓reduceIte,Nat.reduceEqDiff,reduceCtorEq,Nat.reduceAdd,Nat.reduceMul,Int.reduceLT,Int.reduceLE,Int.reduceToNat,Int.reduceAdd,Int.reduceSub,decide_true,decide_false,tf107, he3, he4, hls, hw1]
              refine hold_intro ⟨hend (g2.trans (Grow.drew w2)) hh ?_ ?_ ?_ ?_, ?_⟩
              · simp -dsimp only [↓RE,RU,RL,↓reduceIte,Nat.reduceEqDiff,reduceCtorEq,decide_true,decide_false, he0]
              · simp -dsimp only [↓RE,RU,RL,↓reduceIte,Nat.reduceEqDiff,reduceCtorEq,decide_true,decide_false, he2]
              · simp -dsimp only [↓RE,RU,RL,↓reduceIte,Nat.reduceEqDiff,reduceCtorEq,decide_true,decide_false, hw1]
              · simp -dsimp only [↓RE,RU,RL,↓reduceIte,Nat.reduceEqDiff,reduceCtorEq,decide_true,decide_false, he3]
              · rw [hmu]
                simp -dsimp only [↓RE,↓c_seq,RU,RL,forall_const,implies_true,Nat.reduceLeDiff,Nat.reduceLT,pureOp,binPure,intBin,strBin,eqPure,isConstO,unPure,lenPure,buildP,resK,endV,yieldE,↓reduceIte,Nat.reduceEqDiff,reduceCtorEq,Nat.reduceAdd,Nat.reduceMul,Int.reduceLT,Int.reduceLE,Int.reduceToNat,Int.reduceAdd,Int.reduceSub,decide_true,decide_false,tf107, hw1]
                simp only [envInt_int]; omega
    · have hd : decide ((k : Int) < (n : Int)) = false := decide_eq_false (by omega)
      rw [List.take_of_length_le (by omega)] at he3
      repeat (first | rw [c_seq] | simp -dsimp only [↓RE,RU,RL,forall_const,implies_true,Nat.reduceLeDiff,Nat.reduceLT,pureOp,binPure,intBin,strBin,eqPure,isConstO,unPure,lenPure,buildP,resK,endV,yieldE,↓reduceIte,Nat.reduceEqDiff,reduceCtorEq,Nat.reduceAdd,Nat.reduceMul,Int.reduceLT,Int.reduceLE,Int.reduceToNat,Int.reduceAdd,Int.reduceSub,decide_true,decide_false,tf107, he0, he4, hd])
      refine hold_intro ⟨?_, g2, ?_⟩
      · simp -dsimp only [↓RE,RU,RL,↓reduceIte,Nat.reduceEqDiff,reduceCtorEq,decide_true,decide_false, he2]
      · simp -dsimp only [↓RE,RU,RL,↓reduceIte,Nat.reduceEqDiff,reduceCtorEq,decide_true,decide_false, he3]
  · clear he0 he2 e
    rintro e w2 ⟨he2, g2, he3⟩
    have hbz2 := hbz.grow g2
    have hlz := hbz2.lt
    cases hv : (decide (S.length ≤ 8) && S.all okT) with
    | true =>
      rw [hv] at he3 h
      repeat (first | rw [c_seq] | simp -dsimp only [↓RE,RU,RL,forall_const,implies_true,Nat.reduceLeDiff,Nat.reduceLT,pureOp,binPure,intBin,strBin,eqPure,isConstO,unPure,lenPure,buildP,resK,endV,yieldE,↓reduceIte,Nat.reduceEqDiff,reduceCtorEq,Nat.reduceAdd,Nat.reduceMul,Int.reduceLT,Int.reduceLE,Int.reduceToNat,Int.reduceAdd,Int.reduceSub,decide_true,decide_false,tf107, he2, he3, Bool.not_true])
      refine hbz2.stAgg (by simp) (by simp [Value.oneCell']) (fun w3 hB3 k3 => ?_)
      have hB3 : Blk w3 z 33 (badC 0).cells := by simpa [badC, BadV.cells] using hB3
      repeat (first | rw [c_seq] | simp -dsimp only [↓RE,RU,RL,forall_const,implies_true,Nat.reduceLeDiff,Nat.reduceLT,pureOp,binPure,intBin,strBin,eqPure,isConstO,unPure,lenPure,buildP,resK,endV,yieldE,↓reduceIte,Nat.reduceEqDiff,reduceCtorEq,Nat.reduceAdd,Nat.reduceMul,Int.reduceLT,Int.reduceLE,Int.reduceToNat,Int.reduceAdd,Int.reduceSub,decide_true,decide_false,tf107, he2])
      refine hB3.aggK (by simp [BadV.cells]) ?_
      exact h w3 ((g1.trans g2).above k3 (fun q hq e => by omega))
    | false =>
      rw [hv] at he3 h
      repeat (first | rw [c_seq] | simp -dsimp only [↓RE,RU,RL,forall_const,implies_true,Nat.reduceLeDiff,Nat.reduceLT,pureOp,binPure,intBin,strBin,eqPure,isConstO,unPure,lenPure,buildP,resK,endV,yieldE,↓reduceIte,Nat.reduceEqDiff,reduceCtorEq,Nat.reduceAdd,Nat.reduceMul,Int.reduceLT,Int.reduceLE,Int.reduceToNat,Int.reduceAdd,Int.reduceSub,decide_true,decide_false,tf107, he2, he3, Bool.not_false])
      refine rnew_ok (fun w3 g3 => ?_)
      repeat (first | rw [c_seq] | simp -dsimp only [↓RE,RU,RL,forall_const,implies_true,Nat.reduceLeDiff,Nat.reduceLT,pureOp,binPure,intBin,strBin,eqPure,isConstO,unPure,lenPure,buildP,resK,endV,yieldE,↓reduceIte,Nat.reduceEqDiff,reduceCtorEq,Nat.reduceAdd,Nat.reduceMul,Int.reduceLT,Int.reduceLE,Int.reduceToNat,Int.reduceAdd,Int.reduceSub,decide_true,decide_false,tf107, he2, BadV.v, BadV.cells])
      refine (hbz2.grow g3).stAgg (by simp) (by simp [Value.oneCell']) (fun w4 hB4 k4 => ?_)
      have hB4 : Blk w4 z 33 (badC 52).cells := by simpa [badC, BadV.cells] using hB4
      repeat (first | rw [c_seq] | simp -dsimp only [↓RE,RU,RL,forall_const,implies_true,Nat.reduceLeDiff,Nat.reduceLT,pureOp,binPure,intBin,strBin,eqPure,isConstO,unPure,lenPure,buildP,resK,endV,yieldE,↓reduceIte,Nat.reduceEqDiff,reduceCtorEq,Nat.reduceAdd,Nat.reduceMul,Int.reduceLT,Int.reduceLE,Int.reduceToNat,Int.reduceAdd,Int.reduceSub,decide_true,decide_false,tf107, he2])
      refine hB4.aggK (by simp [BadV.cells]) ?_
      exact h w4 (((g1.trans g2).trans g3).above k4 (fun q hq e => by omega))

end Go.Proofs.YtljgnocpijniiaaGreatDoor

namespace Go.Proofs.YtljgnocpijniiaaGreatDoor
open Go

theorem rtags_ok {w : World} {A : Option Addr} {n c : Nat} {l : List Tg} (hR : RdT w A n l) (hn : n ≤ 100000000000) (hz : ∀ t ∈ l, Szb t.1 ∧ Szb t.2) {R : VWK}
    (h : ∀ w', Grow w w' → R (.bool (tagsB l)) w') : CallsV Tryz.prog 46 [.slice A n c] w R := by
  have hl := hR.tlen
  rw [← tags_eq] at h
  have hzs : ∀ t ∈ srtT l, Szb t.1 ∧ Szb t.2 := fun t ht => by
    rcases gLoad_mem ht with q | q
    · exact hz t q
    · cases q
  have hsl := srtT_len l
  refine calls_of_wpC mixed Tryz.func46 rfl (by kernel_rfl) ?_
  intro e he
  have he0 := he 0
  simp only [List.getD_cons_zero, List.getD_cons_succ] at he0
  clear he
  repeat (first | rw [c_seq] | simp -dsimp only [↓RE,RU,RL,forall_const,implies_true,Nat.reduceLeDiff,Nat.reduceLT,pureOp,binPure,intBin,strBin,eqPure,isConstO,lenPure,resK,endV,yieldE,↓reduceIte,Nat.reduceEqDiff,reduceCtorEq,Nat.reduceAdd,Nat.reduceMul,Int.reduceLT,Int.reduceLE,Int.reduceToNat,Int.reduceAdd,decide_true,decide_false,tf46, he0])
  refine rsort_ok hR hn (fun w1 v1 hv1 g1 hF1 => ?_)
  obtain ⟨A1, c1, rfl, _, _⟩ := hv1.form
  repeat (first | rw [c_seq] | simp -dsimp only [↓RE,RU,RL,forall_const,implies_true,Nat.reduceLeDiff,Nat.reduceLT,pureOp,binPure,intBin,strBin,eqPure,isConstO,lenPure,resK,endV,yieldE,↓reduceIte,Nat.reduceEqDiff,reduceCtorEq,Nat.reduceAdd,Nat.reduceMul,Int.reduceLT,Int.reduceLE,Int.reduceToNat,Int.reduceAdd,decide_true,decide_false,tf46, he0])
  have d52 : decide ((52 : Int) = 0) = false := rfl
  have d00 : decide ((0 : Int) = 0) = true := rfl
  refine rtags5_ok hv1.rd (by omega) hzs (srtT_strict l) (fun w2 g2 => ?_)
  cases hv : (decide ((srtT l).length ≤ 8) && (srtT l).all okT) with
  | false =>
    rw [hv] at h
    repeat (first | rw [c_seq] | simp -dsimp only [↓RE,RU,RL,forall_const,implies_true,Nat.reduceLeDiff,Nat.reduceLT,pureOp,binPure,intBin,strBin,eqPure,isConstO,lenPure,resK,endV,yieldE,↓reduceIte,Nat.reduceEqDiff,reduceCtorEq,Nat.reduceAdd,Nat.reduceMul,Int.reduceLT,Int.reduceLE,Int.reduceToNat,Int.reduceAdd,decide_true,decide_false,tf46, he0, BadV.v, BadV.cells, badC, Bool.false_eq_true, if_false, d52, undef])
    exact h w2 (g1.trans g2)
  | true =>
    rw [hv, Bool.true_and] at h
    repeat (first | rw [c_seq] | simp -dsimp only [↓RE,RU,RL,forall_const,implies_true,Nat.reduceLeDiff,Nat.reduceLT,pureOp,binPure,intBin,strBin,eqPure,isConstO,lenPure,resK,endV,yieldE,↓reduceIte,Nat.reduceEqDiff,reduceCtorEq,Nat.reduceAdd,Nat.reduceMul,Int.reduceLT,Int.reduceLE,Int.reduceToNat,Int.reduceAdd,decide_true,decide_false,tf46, he0, BadV.v, BadV.cells, badC, if_true, d00])
    refine rsort_ok (hR.grow (g1.trans g2)) hn (fun w3 v3 hv3 g3 hF3 => ?_)
    obtain ⟨A3, c3, rfl, _, _⟩ := hv3.form
    have he : decide (((srtT l).length : Int) = (n : Int)) = decide ((srtT l).length = l.length) := by
      by_cases q : (srtT l).length = l.length
      · rw [decide_eq_true q, decide_eq_true (by omega)]
      · rw [decide_eq_false q, decide_eq_false (by omega)]
    repeat (first | rw [c_seq] | simp -dsimp only [↓RE,RU,RL,forall_const,implies_true,Nat.reduceLeDiff,Nat.reduceLT,pureOp,binPure,intBin,strBin,eqPure,isConstO,lenPure,resK,endV,yieldE,↓reduceIte,Nat.reduceEqDiff,reduceCtorEq,Nat.reduceAdd,Nat.reduceMul,Int.reduceLT,Int.reduceLE,Int.reduceToNat,Int.reduceAdd,decide_true,decide_false,tf46, he0, he])
    exact h w3 ((g1.trans g2).trans g3)
theorem fields_no {l : List Fd} {i q : Nat} (hq : q < i) (hi : i < l.length) (e : cmpS (l.getD q f00).1 (l.getD i f00).1 = 0) : fieldsB l = false := by
  have : ¬ (l.map Prod.fst).Nodup := fun hn => by
    have h1 := (List.pairwise_iff_getElem.1 hn) q i (by simp; omega) (by simpa using hi) hq
    rw [List.getElem_map, List.getElem_map] at h1
    rw [List.getD_eq_getElem?_getD, List.getD_eq_getElem?_getD, List.getElem?_eq_getElem hi, List.getElem?_eq_getElem (by omega)] at e
    exact h1 ((cmpS_eq _ _).1 e)
  unfold fieldsB twiceB
  rw [decide_eq_false this]
  simp
theorem fields_yes {l : List Fd} (h1 : l.all okFd = true) (h2 : 1 ≤ l.length) (h3 : l.length ≤ 16) (h4 : ∀ i q, q < i → i < l.length → cmpS (l.getD q f00).1 (l.getD i f00).1 ≠ 0) : fieldsB l = true := by
  have : (l.map Prod.fst).Nodup := by
    refine List.pairwise_iff_getElem.2 (fun q i hq hi hlt e => ?_)
    rw [List.length_map] at hq hi
    have h5 := h4 i q hlt hi
    rw [List.getD_eq_getElem?_getD, List.getD_eq_getElem?_getD, List.getElem?_eq_getElem hi, List.getElem?_eq_getElem hq] at h5
    rw [List.getElem_map, List.getElem_map] at e
    exact h5 ((cmpS_eq _ _).2 e)
  unfold fieldsB twiceB
  rw [h1, decide_eq_true h2, decide_eq_true h3, decide_eq_true this]
  rfl
set_option maxHeartbeats 1000000 in
theorem rfields_ok {w : World} {A : Option Addr} {n c : Nat} {l : List Fd} (hR : RdF w A n l) (hn : n ≤ 100000000000) (hz : ∀ t ∈ l, Szb t.1) {R : VWK}
    (h : ∀ w', Grow w w' → R (.bool (fieldsB l)) w') : CallsV Tryz.prog 47 [.slice A n c] w R := by
  have hl := hR.flen
  refine calls_of_wpC mixed Tryz.func47 rfl (by kernel_rfl) ?_
  intro e he
  have he0 := he 0
  simp only [List.getD_cons_zero, List.getD_cons_succ] at he0
  clear he
  rcases Nat.lt_or_ge n 1 with h1 | h1
  · have hd1 : decide ((n : Int) < 1) = true := decide_eq_true (by omega)
    have hf : fieldsB l = false := by
      unfold fieldsB
      rw [decide_eq_false (by omega : ¬ 1 ≤ l.length)]
      simp
    rw [hf] at h
    repeat (first | rw [c_seq] | simp -dsimp only [↓RE,RU,RL,forall_const,implies_true,Nat.reduceLeDiff,Nat.reduceLT,pureOp,binPure,intBin,strBin,eqPure,isConstO,unPure,lenPure,resK,endV,yieldE,↓reduceIte,Nat.reduceEqDiff,reduceCtorEq,Nat.reduceAdd,Nat.reduceMul,Int.reduceLT,Int.reduceLE,Int.reduceToNat,Int.reduceAdd,decide_true,decide_false,tf47, he0, hd1, undef])
    exact h w (Keep.refl _ _)
  have hd1 : decide ((n : Int) < 1) = false := decide_eq_false (by omega)
  rcases Nat.lt_or_ge 16 n with h16 | h16
  · have hd2 : decide ((16 : Int) < (n : Int)) = true := decide_eq_true (by omega)
    have hf : fieldsB l = false := by
      unfold fieldsB
      rw [decide_eq_false (by omega : ¬ l.length ≤ 16)]
      simp
    rw [hf] at h
    repeat (first | rw [c_seq] | simp -dsimp only [↓RE,RU,RL,forall_const,implies_true,Nat.reduceLeDiff,Nat.reduceLT,pureOp,binPure,intBin,strBin,eqPure,isConstO,unPure,lenPure,resK,endV,yieldE,↓reduceIte,Nat.reduceEqDiff,reduceCtorEq,Nat.reduceAdd,Nat.reduceMul,Int.reduceLT,Int.reduceLE,Int.reduceToNat,Int.reduceAdd,decide_true,decide_false,tf47, he0, hd1, hd2])
    exact h w (Keep.refl _ _)
  have hd2 : decide ((16 : Int) < (n : Int)) = false := decide_eq_false (by omega)
  repeat (first | rw [c_seq] | simp -dsimp only [↓RE,RU,RL,forall_const,implies_true,Nat.reduceLeDiff,Nat.reduceLT,pureOp,binPure,intBin,strBin,eqPure,isConstO,unPure,lenPure,resK,endV,yieldE,↓reduceIte,Nat.reduceEqDiff,reduceCtorEq,Nat.reduceAdd,Nat.reduceMul,Int.reduceLT,Int.reduceLE,Int.reduceToNat,Int.reduceAdd,decide_true,decide_false,tf47, he0, hd1, hd2])
  refine wpLoop_intro (fun e' w' => Grow w w' ∧ e' 0 = .slice A n c ∧ ∃ k : Nat, k ≤ n ∧ e' 3 = .int .i64 (k : Int) ∧ (l.take k).all okFd = true ∧ ∀ i q, q < i → i < k → cmpS (l.getD q f00).1 (l.getD i f00).1 ≠ 0)
    (fun e' _ => n - (envInt (e' 3)).toNat) ⟨Keep.refl _ _, ?_, 0, Nat.zero_le _, ?_, rfl, fun i q _ hi => absurd hi (by omega)⟩ ?_
  · simp -dsimp only [↓RE,RU,RL,↓reduceIte,Nat.reduceEqDiff,reduceCtorEq,decide_true,decide_false, he0]
  · simp -dsimp only [↓RE,RU,RL,↓reduceIte,Nat.reduceEqDiff,reduceCtorEq,decide_true,decide_false, Int.cast_ofNat_Int]
  clear he0 e
  rintro e w1 ⟨g1, he0, k, hk, he3, hall, hne⟩
  rcases Nat.lt_or_ge k n with hlt | hge
  · have hd : decide ((k : Int) < (n : Int)) = true := decide_eq_true (by omega)
    have hw1 : IntKind.i64.wrap ((k : Int) + 1) = ((k + 1 : Nat) : Int) := by rw [wrap_i64_in (by omega) (by omega)]; omega
    obtain ⟨ad, rfl⟩ : ∃ ad, A = some ad := by
      obtain ⟨ad, e, _⟩ := hR.2 (by omega)
      exact ⟨ad, e⟩
    have hmu : (envInt (e 3)).toNat = k := by rw [he3]; exact Int.toNat_natCast k
    have x0 : ∀ w', Grow w w' → ∀ i, i < n → w'.cell? (ad.add (i * 2)) = some (.string (l.getD i f00).1) := fun w' g i hi => ((hR.grow g).fd hi).1
    have hsn := fk_snoc (l := l) (k := k) (by omega)
    have hzt : Szb (l.getD k f00).1 := hz _ (by rw [List.getD_eq_getElem?_getD, List.getElem?_eq_getElem (by omega)]; exact List.getElem_mem _)
    have x0a := x0 w1 g1 k hlt
    have hall1 := fun hf => all_take_false (l := l) (p := okFd) (k := k) (by omega) f00 hf
    repeat (first | rw [c_seq] | simp -dsimp only [↓RE,RU,RL,forall_const,implies_true,Nat.reduceLeDiff,Nat.reduceLT,pureOp,binPure,intBin,strBin,eqPure,isConstO,unPure,lenPure,resK,endV,yieldE,↓reduceIte,Nat.reduceEqDiff,reduceCtorEq,Nat.reduceAdd,Nat.reduceMul,Int.reduceLT,Int.reduceLE,Int.reduceToNat,Int.reduceAdd,decide_true,decide_false,tf47, he0, he3, hd, x0a, Int.toNat_natCast, add_zero'])
    refine ⟨⟨by omega, by omega⟩, ?_⟩
    repeat (first | rw [c_seq] | simp -dsimp only [↓RE,RU,RL,forall_const,implies_true,Nat.reduceLeDiff,Nat.reduceLT,pureOp,binPure,intBin,strBin,eqPure,isConstO,unPure,lenPure,resK,endV,yieldE,↓reduceIte,Nat.reduceEqDiff,reduceCtorEq,Nat.reduceAdd,Nat.reduceMul,Int.reduceLT,Int.reduceLE,Int.reduceToNat,Int.reduceAdd,decide_true,decide_false,tf47, he0, he3, hd, x0a, Int.toNat_natCast, add_zero'])
    refine isword_ok hzt ?_
    cases hwd : wordB (l.getD k f00).1 with
    | false =>
      have hf : fieldsB l = false := by
        unfold fieldsB
        rw [hall1 hwd, Bool.false_and]
      rw [hf] at h
      repeat (first | rw [c_seq] | simp -dsimp only [↓RE,RU,RL,forall_const,implies_true,Nat.reduceLeDiff,Nat.reduceLT,pureOp,binPure,intBin,strBin,eqPure,isConstO,unPure,lenPure,resK,endV,yieldE,↓reduceIte,Nat.reduceEqDiff,reduceCtorEq,Nat.reduceAdd,Nat.reduceMul,Int.reduceLT,Int.reduceLE,Int.reduceToNat,Int.reduceAdd,decide_true,decide_false,tf47, he0, Bool.not_false])
      exact h w1 g1
    | true =>
      repeat (first | rw [c_seq] | simp -dsimp only [↓RE,RU,RL,forall_const,implies_true,Nat.reduceLeDiff,Nat.reduceLT,pureOp,binPure,intBin,strBin,eqPure,isConstO,unPure,lenPure,resK,endV,yieldE,↓reduceIte,Nat.reduceEqDiff,reduceCtorEq,Nat.reduceAdd,Nat.reduceMul,Int.reduceLT,Int.reduceLE,Int.reduceToNat,Int.reduceAdd,decide_true,decide_false,tf47, he0, Bool.not_true])
      refine wpLoop_intro (fun e' w' => Grow w w' ∧ e' 0 = .slice (some ad) n c ∧ e' 3 = .int .i64 (k : Int) ∧ ∃ j : Nat, j ≤ k ∧ e' 4 = .int .i64 (j : Int) ∧ ∀ q, q < j → cmpS (l.getD q f00).1 (l.getD k f00).1 ≠ 0)
        (fun e' _ => k - (envInt (e' 4)).toNat) ⟨g1, ?_, ?_, 0, Nat.zero_le _, ?_, fun q hq => absurd hq (by omega)⟩ ?_
      · simp -dsimp only [↓RE,RU,RL,↓reduceIte,Nat.reduceEqDiff,reduceCtorEq,decide_true,decide_false, he0]
      · simp -dsimp only [↓RE,RU,RL,↓reduceIte,Nat.reduceEqDiff,reduceCtorEq,decide_true,decide_false, he3]
      · simp -dsimp only [↓RE,RU,RL,↓reduceIte,Nat.reduceEqDiff,reduceCtorEq,decide_true,decide_false, Int.cast_ofNat_Int]
      clear he0 he3
      rintro e2 w2 ⟨g2, he0, he3, j, hj, he4, hnj⟩
      rcases Nat.lt_or_ge j k with hjk | hjk
      · have hdj : decide ((j : Int) < (k : Int)) = true := decide_eq_true (by omega)
        have hw2 : IntKind.i64.wrap ((j : Int) + 1) = ((j + 1 : Nat) : Int) := by rw [wrap_i64_in (by omega) (by omega)]; omega
        have gd := g2.trans (Grow.drew w2)
        have xj := x0 _ gd j (by omega)
        have xk := x0 _ gd k hlt
        repeat (first | rw [c_seq] | simp -dsimp only [↓RE,RU,RL,forall_const,implies_true,Nat.reduceLeDiff,Nat.reduceLT,pureOp,binPure,intBin,strBin,eqPure,isConstO,unPure,lenPure,resK,endV,yieldE,↓reduceIte,Nat.reduceEqDiff,reduceCtorEq,Nat.reduceAdd,Nat.reduceMul,Int.reduceLT,Int.reduceLE,Int.reduceToNat,Int.reduceAdd,decide_true,decide_false,tf47, he0, he3, he4, hdj])
        refine wpDraw_still (by kernel_rfl) ?_
        by_cases hc : cmpS (l.getD j f00).1 (l.getD k f00).1 = 0
        · have hbe : ((l.getD j f00).1.toList == (l.getD k f00).1.toList) = true := by rw [beqS]; exact decide_eq_true hc
          rw [fields_no hjk (by omega) hc] at h
          repeat (first | rw [c_seq] | simp -dsimp only [↓RE,RU,RL,forall_const,implies_true,Nat.reduceLeDiff,Nat.reduceLT,pureOp,binPure,intBin,strBin,eqPure,isConstO,unPure,lenPure,resK,endV,yieldE,↓reduceIte,Nat.reduceEqDiff,reduceCtorEq,Nat.reduceAdd,Nat.reduceMul,Int.reduceLT,Int.reduceLE,Int.reduceToNat,Int.reduceAdd,decide_true,decide_false,tf47, he0, he3, he4, xj, xk, hbe, Int.toNat_natCast, add_zero'])
          refine ⟨⟨by omega, by omega⟩, ?_⟩
          repeat (first | rw [c_seq] | simp -dsimp only [↓RE,RU,RL,forall_const,implies_true,Nat.reduceLeDiff,Nat.reduceLT,pureOp,binPure,intBin,strBin,eqPure,isConstO,unPure,lenPure,resK,endV,yieldE,↓reduceIte,Nat.reduceEqDiff,reduceCtorEq,Nat.reduceAdd,Nat.reduceMul,Int.reduceLT,Int.reduceLE,Int.reduceToNat,Int.reduceAdd,decide_true,decide_false,tf47, he0, he3, he4, xj, xk, hbe, Int.toNat_natCast, add_zero'])
          refine ⟨⟨by omega, by omega⟩, ?_⟩
          repeat (first | rw [c_seq] | simp -dsimp only [↓RE,RU,RL,forall_const,implies_true,Nat.reduceLeDiff,Nat.reduceLT,pureOp,binPure,intBin,strBin,eqPure,isConstO,unPure,lenPure,resK,endV,yieldE,↓reduceIte,Nat.reduceEqDiff,reduceCtorEq,Nat.reduceAdd,Nat.reduceMul,Int.reduceLT,Int.reduceLE,Int.reduceToNat,Int.reduceAdd,decide_true,decide_false,tf47, he0, he3, he4, xj, xk, hbe, Int.toNat_natCast, add_zero'])
          exact h _ gd
        · have hbe : ((l.getD j f00).1.toList == (l.getD k f00).1.toList) = false := by rw [beqS]; exact decide_eq_false hc
          repeat (first | rw [c_seq] | simp -dsimp only [↓RE,RU,RL,forall_const,implies_true,Nat.reduceLeDiff,Nat.reduceLT,pureOp,binPure,intBin,strBin,eqPure,isConstO,unPure,lenPure,resK,endV,yieldE,↓reduceIte,Nat.reduceEqDiff,reduceCtorEq,Nat.reduceAdd,Nat.reduceMul,Int.reduceLT,Int.reduceLE,Int.reduceToNat,Int.reduceAdd,decide_true,decide_false,tf47, he0, he3, he4, xj, xk, hbe, Int.toNat_natCast, add_zero'])
          refine ⟨⟨by omega, by omega⟩, ?_⟩
          repeat (first | rw [c_seq] | simp -dsimp only [↓RE,RU,RL,forall_const,implies_true,Nat.reduceLeDiff,Nat.reduceLT,pureOp,binPure,intBin,strBin,eqPure,isConstO,unPure,lenPure,resK,endV,yieldE,↓reduceIte,Nat.reduceEqDiff,reduceCtorEq,Nat.reduceAdd,Nat.reduceMul,Int.reduceLT,Int.reduceLE,Int.reduceToNat,Int.reduceAdd,decide_true,decide_false,tf47, he0, he3, he4, xj, xk, hbe, Int.toNat_natCast, add_zero'])
          refine ⟨⟨by omega, by omega⟩, ?_⟩
          repeat (first | rw [c_seq] | simp -dsimp only [↓RE,RU,RL,forall_const,implies_true,Nat.reduceLeDiff,Nat.reduceLT,pureOp,binPure,intBin,strBin,eqPure,isConstO,unPure,lenPure,resK,endV,yieldE,↓reduceIte,Nat.reduceEqDiff,reduceCtorEq,Nat.reduceAdd,Nat.reduceMul,Int.reduceLT,Int.reduceLE,Int.reduceToNat,Int.reduceAdd,decide_true,decide_false,tf47, he0, he3, he4, xj, xk, hbe, hw2, Int.toNat_natCast, add_zero'])
          refine hold_intro ⟨⟨gd, ?_, ?_, j + 1, hjk, ?_, fun q hq => ?_⟩, ?_⟩
          · simp -dsimp only [↓RE,RU,RL,↓reduceIte,Nat.reduceEqDiff,reduceCtorEq,decide_true,decide_false, he0]
          · simp -dsimp only [↓RE,RU,RL,↓reduceIte,Nat.reduceEqDiff,reduceCtorEq,decide_true,decide_false, he3]
          · simp -dsimp only [↓RE,RU,RL,↓reduceIte,Nat.reduceEqDiff,reduceCtorEq,decide_true,decide_false, hw2]
          · rcases Nat.lt_or_eq_of_le (Nat.lt_succ_iff.1 hq) with hq | rfl
            · exact hnj q hq
            · exact hc
          · rw [he4]
            simp -dsimp only [↓RE,↓c_seq,RU,RL,forall_const,implies_true,Nat.reduceLeDiff,Nat.reduceLT,pureOp,binPure,intBin,strBin,eqPure,isConstO,unPure,lenPure,resK,endV,yieldE,↓reduceIte,Nat.reduceEqDiff,reduceCtorEq,Nat.reduceAdd,Nat.reduceMul,Int.reduceLT,Int.reduceLE,Int.reduceToNat,Int.reduceAdd,decide_true,decide_false,tf47, hw2]
            simp only [envInt_int]; omega
      · have hdj : decide ((j : Int) < (k : Int)) = false := decide_eq_false (by omega)
        repeat (first | rw [c_seq] | simp -dsimp only [↓RE,RU,RL,forall_const,implies_true,Nat.reduceLeDiff,Nat.reduceLT,pureOp,binPure,intBin,strBin,eqPure,isConstO,unPure,lenPure,resK,endV,yieldE,↓reduceIte,Nat.reduceEqDiff,reduceCtorEq,Nat.reduceAdd,Nat.reduceMul,Int.reduceLT,Int.reduceLE,Int.reduceToNat,Int.reduceAdd,decide_true,decide_false,tf47, he0, he3, he4, hdj, hw1])
        refine hold_intro ⟨⟨g2, ?_, k + 1, hlt, ?_, ?_, fun i q hq hi => ?_⟩, ?_⟩
        · simp -dsimp only [↓RE,RU,RL,↓reduceIte,Nat.reduceEqDiff,reduceCtorEq,decide_true,decide_false, he0]
        · simp -dsimp only [↓RE,RU,RL,↓reduceIte,Nat.reduceEqDiff,reduceCtorEq,decide_true,decide_false, hw1]
        · rw [hsn, List.all_append, hall, List.all_cons, List.all_nil, Bool.and_true, Bool.true_and]
          exact hwd
        · rcases Nat.lt_or_eq_of_le (Nat.lt_succ_iff.1 hi) with hi | rfl
          · exact hne i q hq hi
          · exact hnj q (by omega)
        · rw [hmu]
          simp -dsimp only [↓RE,↓c_seq,RU,RL,forall_const,implies_true,Nat.reduceLeDiff,Nat.reduceLT,pureOp,binPure,intBin,strBin,eqPure,isConstO,unPure,lenPure,resK,endV,yieldE,↓reduceIte,Nat.reduceEqDiff,reduceCtorEq,Nat.reduceAdd,Nat.reduceMul,Int.reduceLT,Int.reduceLE,Int.reduceToNat,Int.reduceAdd,decide_true,decide_false,tf47, hw1]
          simp only [envInt_int]; omega
  · have hd : decide ((k : Int) < (n : Int)) = false := decide_eq_false (by omega)
    rw [List.take_of_length_le (by omega)] at hall
    rw [fields_yes hall (by omega) (by omega) (fun i q hq hi => hne i q hq (by omega))] at h
    repeat (first | rw [c_seq] | simp -dsimp only [↓RE,RU,RL,forall_const,implies_true,Nat.reduceLeDiff,Nat.reduceLT,pureOp,binPure,intBin,strBin,eqPure,isConstO,unPure,lenPure,resK,endV,yieldE,↓reduceIte,Nat.reduceEqDiff,reduceCtorEq,Nat.reduceAdd,Nat.reduceMul,Int.reduceLT,Int.reduceLE,Int.reduceToNat,Int.reduceAdd,decide_true,decide_false,tf47, he0, he3, hd])
    exact h w1 g1

end Go.Proofs.YtljgnocpijniiaaGreatDoor
