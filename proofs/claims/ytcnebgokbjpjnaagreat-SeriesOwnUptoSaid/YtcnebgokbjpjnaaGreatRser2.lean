/- The document's series: Put, Cut. -/
import Derived.Test.YtcnebgokbjpjnaaGreatRser
import Derived.Test.YtcnebgokbjpjnaaGreatLive8
set_option linter.unusedVariables false
set_option linter.unusedSimpArgs false
set_option maxRecDepth 100000
namespace Go.Proofs.YtcnebgokbjpjnaaGreat
open Go

theorem Stand.has {l : List Smp} (hr : Rise l) {t : Int} {i : Nat} (h : Stand l t i) : sHas l t = isAt l t i := by
  rw [sHas, h.get hr]
  cases isAt l t i <;> rfl
/-- what stands from a place on. -/
theorem LRow.cut {w : World} {A : Option Addr} {c n : Nat} {l : List Smp} (h : LRow w 89 3 (.slice A n c) l.length (l.flatMap scells)) {i : Nat} (hi : i ≤ l.length) (hn : n = l.length) :
    ∃ A', (if c = i then A else Option.map (fun x => x.add (i * 3)) A) = A' ∧ Rd w A' (n - i) 3 ((l.drop i).flatMap scells) := by
  subst hn
  obtain ⟨A', c', he, hnc, hA⟩ := h.form
  injection he with h1 _ h2
  subst h1 h2
  have := (h.rd).cut (k := i) (m := l.length) (cap := c) hi (Nat.le_refl _) hnc
  refine ⟨_, rfl, ?_⟩
  rw [flat_drop]
  have e : (l.flatMap scells).length = l.length * 3 := flat_length l
  rw [List.take_of_length_le (by rw [List.length_drop, e, Nat.sub_mul]; omega)] at this
  exact this
theorem app_smp {w : World} {v : Value} {xs ys : List Smp} (h : SRow w v xs) {A : Option Addr} {m c : Nat} (hr : Rd w A m 3 (ys.flatMap scells)) (hb : xs.length + ys.length ≤ 5864062014634) {K : VWK} {tk : Tok K} {ty : TypeId}
    (hK : ∀ A' c' w', SRow w' (.slice A' (xs.length + ys.length) c') (xs ++ ys) → Keep (fpV v) w w' → (∀ k, fpV (.slice A' (xs.length + ys.length) c') k → fpV v k ∨ k = w.heap.size) → K (.slice A' (xs.length + ys.length) c') w') :
    appK Tryz.prog [62, 62] ty [v, .slice A m c] w K tk := by
  have hm := hr.flat3
  subst hm
  refine appK_l (bytes := 24) (by kernel_rfl) h hr (fun u hu => scells_one _ u hu) (by simp only [maxLen]; omega) (by omega) (fun A' c' w' hL k1 f1 _ => hK A' c' w' ?_ k1 f1)
  unfold SRow
  rw [List.length_append, List.flatMap_append]
  exact hL
theorem Stand.ex {l : List Smp} (hr : Rise l) (t : Int) : ∃ i, Stand l t i := by
  induction l with
  | nil => exact ⟨0, Nat.le_refl _, fun j hj => by omega, fun j _ hj => by simp at hj⟩
  | cons a l ih =>
    obtain ⟨h1, h2⟩ := List.pairwise_cons.1 hr
    by_cases ha : a.1 < t
    · obtain ⟨i, hi⟩ := ih h2
      refine ⟨i + 1, by have := hi.le; simp; omega, fun j hj => ?_, fun j hj hjl => ?_⟩
      · cases j with
        | zero => exact ha
        | succ j => exact hi.lo j (by omega)
      · cases j with
        | zero => omega
        | succ j => exact hi.hi j (by omega) (by simpa using hjl)
    · refine ⟨0, Nat.zero_le _, fun j hj => by omega, fun j _ hjl => ?_⟩
      cases j with
      | zero => show t ≤ a.1; omega
      | succ j =>
        have hjl' : j < l.length := by simpa using hjl
        have := h1 l[j] (List.getElem_mem hjl')
        show t ≤ (l.getD j (0, 0, 0)).1
        rw [getD_lt hjl']; omega
theorem SRow_len {w w' : World} {v : Value} {l : List Smp} {n : Nat} (h : SRow w v l) (hn : l.length = n) (g : Grow w w') : SRow w' v l := h.grow g
theorem rput_ok {w : World} {g : Nat} {v : Value} {l : List Smp} (hS : RefAt w g v l) (hn : l.length < 5864062014634) {t k x : Int} {R : VWK}
    (h : ∀ w' v', RefAt w' g v' (sPut l t (k, x)) → Keep (fun i => i = g ∨ fpV v i) w w' → (∀ i, fpV v' i → fpV v i ∨ w.heap.size ≤ i) → R (.tuple #[cV (sOld l t), .bool (sHas l t)]) w') :
    CallsV Tryz.prog 30 [.pointer (some ⟨g, 0, none⟩), .int .i64 t, .agg #[.int .u8 k, .int .i64 x]] w R := by
  obtain ⟨A, c, rfl, hnc, hA⟩ := hS.row.form
  have hb1 := Blk.new' w 61 #[.int .u8 k, .int .i64 x]
  have g1 := Grow.alloc w (.cells #[.int .u8 k, .int .i64 x] 61)
  have hsz1 : (w.alloc (.cells #[.int .u8 k, .int .i64 x] 61)).heap.size = w.heap.size + 1 := by simp
  generalize hw1 : w.alloc (.cells #[.int .u8 k, .int .i64 x] 61) = w1 at hb1 g1 hsz1
  have hb2 := Blk.new' w1 61 #[.int .u8 0, .int .i64 0]
  have g2 := Grow.alloc w1 (.cells #[.int .u8 0, .int .i64 0] 61)
  have hS2 := hS.grow (g1.trans g2)
  have hgl := hS.b.lt
  have hrl := hS.row.lt
  refine calls_of_wpC mixed Tryz.func30 rfl (by kernel_rfl) ?_
  intro e he
  have he0 := he 0
  have he1 := he 1
  have he2 := he 2
  simp only [List.getD_cons_zero, List.getD_cons_succ] at he0 he1 he2
  clear he
  try simp -dsimp only [↓RE,↓c_seq,RU,RL,if_true,if_false,forall_const,implies_true,Nat.reduceLeDiff,Nat.reduceLT,pureOp,binPure,intBin,strBin,eqPure,isConstO,unPure,sliceLo,sliceHi,slicePure,slice3Pure,lenPure,capPure,minPure,maxPure,buildP,resK,endV,yieldE,↓reduceIte,Nat.reduceEqDiff,reduceCtorEq,Nat.reduceAdd,Nat.reduceMul,Nat.reduceSub,Int.reduceLT,Int.reduceLE,Int.reduceToNat,Int.reduceAdd,Int.reduceSub,Int.reduceMul,ne_eq,decide_true,decide_false,tf30, he0, he1, he2, hw1]
  refine rget_ok hS2 (by omega) (fun w3 g3 => ?_)
  try simp -dsimp only [↓RE,↓c_seq,RU,RL,if_true,if_false,forall_const,implies_true,Nat.reduceLeDiff,Nat.reduceLT,pureOp,binPure,intBin,strBin,eqPure,isConstO,unPure,sliceLo,sliceHi,slicePure,slice3Pure,lenPure,capPure,minPure,maxPure,buildP,resK,endV,yieldE,↓reduceIte,Nat.reduceEqDiff,reduceCtorEq,Nat.reduceAdd,Nat.reduceMul,Nat.reduceSub,Int.reduceLT,Int.reduceLE,Int.reduceToNat,Int.reduceAdd,Int.reduceSub,Int.reduceMul,ne_eq,decide_true,decide_false,tf30, he0]
  refine new2 (fun w4 hb4 g4 => ?_) rfl rfl
  have g04 : Grow w w4 := ((g1.trans g2).trans g3).trans g4
  have hS4 := hS.grow g04
  have hb14 := ((hb1.grow g2).grow g3).grow g4
  have hb24 := (hb2.grow g3).grow g4
  have hs4 := hb4.lt
  have hs3 := hb24.lt
  have hs23 := (hb2.grow g3).lt
  refine os_gen (fun e' => e' 0 = .pointer (some ⟨g, 0, none⟩) ∧ e' 1 = .int .i64 t ∧ e' 5 = .pointer (some ⟨w.heap.size, 0, none⟩) ∧ e' 6 = .pointer (some ⟨w1.heap.size, 0, none⟩) ∧ e' 8 = .pointer (some ⟨w3.heap.size, 0, none⟩) ∧ e' 20 = .bool (sHas l t)) ⟨?_, ?_, ?_, ?_, ?_, ?_⟩ ?_
  · simp -dsimp only [↓RE,RU,RL,if_true,if_false,↓reduceIte,Nat.reduceEqDiff,reduceCtorEq,decide_true,decide_false, he0]
  · simp -dsimp only [↓RE,RU,RL,if_true,if_false,↓reduceIte,Nat.reduceEqDiff,reduceCtorEq,decide_true,decide_false, he1]
  · simp -dsimp only [↓RE,RU,RL,if_true,if_false,↓reduceIte,Nat.reduceEqDiff,reduceCtorEq,decide_true,decide_false, he0]
  · simp -dsimp only [↓RE,RU,RL,if_true,if_false,↓reduceIte,Nat.reduceEqDiff,reduceCtorEq,decide_true,decide_false, he0]
  · simp -dsimp only [↓RE,RU,RL,if_true,if_false,↓reduceIte,Nat.reduceEqDiff,reduceCtorEq,decide_true,decide_false, he0]
  · simp -dsimp only [↓RE,RU,RL,if_true,if_false,↓reduceIte,Nat.reduceEqDiff,reduceCtorEq,decide_true,decide_false, he0]
  clear he0 he1 he2 e
  rintro e ⟨he0, he1, he5, he6, he8, he20⟩
  try simp -dsimp only [↓RE,↓c_seq,RU,RL,if_true,if_false,forall_const,implies_true,Nat.reduceLeDiff,Nat.reduceLT,pureOp,binPure,intBin,strBin,eqPure,isConstO,unPure,sliceLo,sliceHi,slicePure,slice3Pure,lenPure,capPure,minPure,maxPure,buildP,resK,endV,yieldE,↓reduceIte,Nat.reduceEqDiff,reduceCtorEq,Nat.reduceAdd,Nat.reduceMul,Nat.reduceSub,Int.reduceLT,Int.reduceLE,Int.reduceToNat,Int.reduceAdd,Int.reduceSub,Int.reduceMul,ne_eq,decide_true,decide_false,tf30, he0, he1, he20]
  refine ahead_ok hS4 (by omega) (fun i hst => ?_)
  have hhas := hst.has hS.rise
  have hput := hst.put hS.rise (k, x)
  have hp4 := hS4.cell
  have hil := hst.le
  try simp -dsimp only [↓RE,↓c_seq,RU,RL,if_true,if_false,forall_const,implies_true,Nat.reduceLeDiff,Nat.reduceLT,pureOp,binPure,intBin,strBin,eqPure,isConstO,unPure,sliceLo,sliceHi,slicePure,slice3Pure,lenPure,capPure,minPure,maxPure,buildP,resK,endV,yieldE,↓reduceIte,Nat.reduceEqDiff,reduceCtorEq,Nat.reduceAdd,Nat.reduceMul,Nat.reduceSub,Int.reduceLT,Int.reduceLE,Int.reduceToNat,Int.reduceAdd,Int.reduceSub,Int.reduceMul,ne_eq,decide_true,decide_false,tf30, he0, he1, hp4, add_zero', Option.map_id', ite_self, Nat.sub_zero]
  refine ⟨by omega, ?_⟩
  have hpre := (hS4.row.pre (k := i) hil).rd
  rw [← flat_take] at hpre
  have hti : (l.take i).length = i := by rw [List.length_take]; omega
  refine app_smp (xs := []) (ys := l.take i) (LRow.nil _ _ _) hpre (by rw [hti]; simp; omega) (fun A5 c5 w5 hL5 k5 f5 => ?_)
  rw [List.nil_append, List.length_nil, Nat.zero_add, hti] at hL5
  rw [List.length_nil, Nat.zero_add, hti] at f5 ⊢
  have g5 : Grow w4 w5 := k5.mono (fun q _ hq => (fpV_none _ hq).elim)
  have f5' : ∀ q, fpV (.slice A5 i c5) q → q = w4.heap.size := fun q hq => (f5 q hq).elim (fun h => (fpV_none _ h).elim) id
  have hS5 := hS4.grow g5
  have hb15 := hb14.grow g5
  refine os_gen (fun e' => e' 0 = .pointer (some ⟨g, 0, none⟩) ∧ e' 1 = .int .i64 t ∧ e' 5 = .pointer (some ⟨w.heap.size, 0, none⟩) ∧ e' 6 = .pointer (some ⟨w1.heap.size, 0, none⟩) ∧ e' 8 = .pointer (some ⟨w3.heap.size, 0, none⟩) ∧ e' 9 = .bool (sHas l t) ∧ e' 10 = .int .i64 (i : Nat) ∧ e' 31 = .slice A5 i c5) ⟨?_, ?_, ?_, ?_, ?_, ?_, ?_, ?_⟩ ?_
  · simp -dsimp only [↓RE,RU,RL,if_true,if_false,↓reduceIte,Nat.reduceEqDiff,reduceCtorEq,decide_true,decide_false, he0]
  · simp -dsimp only [↓RE,RU,RL,if_true,if_false,↓reduceIte,Nat.reduceEqDiff,reduceCtorEq,decide_true,decide_false, he1]
  · simp -dsimp only [↓RE,RU,RL,if_true,if_false,↓reduceIte,Nat.reduceEqDiff,reduceCtorEq,decide_true,decide_false, he5]
  · simp -dsimp only [↓RE,RU,RL,if_true,if_false,↓reduceIte,Nat.reduceEqDiff,reduceCtorEq,decide_true,decide_false, he6]
  · simp -dsimp only [↓RE,RU,RL,if_true,if_false,↓reduceIte,Nat.reduceEqDiff,reduceCtorEq,decide_true,decide_false, he8]
  · simp -dsimp only [↓RE,RU,RL,if_true,if_false,↓reduceIte,Nat.reduceEqDiff,reduceCtorEq,decide_true,decide_false, he20]
  · simp -dsimp only [↓RE,RU,RL,if_true,if_false,↓reduceIte,Nat.reduceEqDiff,reduceCtorEq,decide_true,decide_false, he0]
  · simp -dsimp only [↓RE,RU,RL,if_true,if_false,↓reduceIte,Nat.reduceEqDiff,reduceCtorEq,decide_true,decide_false, he0]
  clear he0 he1 he5 he6 he8 he20 e
  rintro e ⟨he0, he1, he5, he6, he8, he9, he10, he31⟩
  try simp -dsimp only [↓RE,↓c_seq,RU,RL,if_true,if_false,forall_const,implies_true,Nat.reduceLeDiff,Nat.reduceLT,pureOp,binPure,intBin,strBin,eqPure,isConstO,unPure,sliceLo,sliceHi,slicePure,slice3Pure,lenPure,capPure,minPure,maxPure,buildP,resK,endV,yieldE,↓reduceIte,Nat.reduceEqDiff,reduceCtorEq,Nat.reduceAdd,Nat.reduceMul,Nat.reduceSub,Int.reduceLT,Int.reduceLE,Int.reduceToNat,Int.reduceAdd,Int.reduceSub,Int.reduceMul,ne_eq,decide_true,decide_false,tf30, he5, he1, he31]
  refine blk_agg2 hb15 ?_
  have hbx := Blk.new' w5 89 #[.int .i64 t, .int .u8 k, .int .i64 x]
  have gx := Grow.alloc w5 (.cells #[.int .i64 t, .int .u8 k, .int .i64 x] 89)
  try simp -dsimp only [↓RE,↓c_seq,RU,RL,if_true,if_false,forall_const,implies_true,Nat.reduceLeDiff,Nat.reduceLT,pureOp,binPure,intBin,strBin,eqPure,isConstO,unPure,sliceLo,sliceHi,slicePure,slice3Pure,lenPure,capPure,minPure,maxPure,buildP,resK,endV,yieldE,↓reduceIte,Nat.reduceEqDiff,reduceCtorEq,Nat.reduceAdd,Nat.reduceMul,Nat.reduceSub,Int.reduceLT,Int.reduceLE,Int.reduceToNat,Int.reduceAdd,Int.reduceSub,Int.reduceMul,ne_eq,decide_true,decide_false,tf30, he5, he1, he31]
  have hrx : Rd (w5.alloc (.cells #[.int .i64 t, .int .u8 k, .int .i64 x] 89)) (some ⟨w5.heap.size, 0, none⟩) 1 3 (([(t, (k, x))] : List Smp).flatMap scells) := Rd.of_sblk hbx rfl
  have hszx : (w5.alloc (.cells #[.int .i64 t, .int .u8 k, .int .i64 x] 89)).heap.size = w5.heap.size + 1 := by simp
  generalize hwx : w5.alloc (.cells #[.int .i64 t, .int .u8 k, .int .i64 x] 89) = wx at hbx gx hrx hszx ⊢
  have hs5 := g5.size
  refine app_smp (v := .slice A5 i c5) (xs := l.take i) (ys := [(t, (k, x))]) (SRow_len hL5 hti gx) hrx (by rw [hti]; simp; omega) (fun A6 c6 w6 hL6 k6 f6 => ?_)
  rw [hti] at hL6 f6 ⊢
  simp only [List.length_cons, List.length_nil, Nat.zero_add] at hL6 f6 ⊢
  have g6 : Grow w4 w6 := (g5.trans gx).above k6 (fun q hq hf => by have := f5' q hf; omega)
  have f6' : ∀ q, fpV (.slice A6 (i + 1) c6) q → w4.heap.size ≤ q := fun q hq => (f6 q hq).elim (fun h => by have := f5' q h; omega) (fun h => by omega)
  refine os_gen (fun e' => e' 0 = .pointer (some ⟨g, 0, none⟩) ∧ e' 6 = .pointer (some ⟨w1.heap.size, 0, none⟩) ∧ e' 8 = .pointer (some ⟨w3.heap.size, 0, none⟩) ∧ e' 9 = .bool (sHas l t) ∧ e' 10 = .int .i64 (i : Nat) ∧ e' 37 = .slice A6 (i + 1) c6) ⟨?_, ?_, ?_, ?_, ?_, ?_⟩ ?_
  · simp -dsimp only [↓RE,RU,RL,if_true,if_false,↓reduceIte,Nat.reduceEqDiff,reduceCtorEq,decide_true,decide_false, he0]
  · simp -dsimp only [↓RE,RU,RL,if_true,if_false,↓reduceIte,Nat.reduceEqDiff,reduceCtorEq,decide_true,decide_false, he6]
  · simp -dsimp only [↓RE,RU,RL,if_true,if_false,↓reduceIte,Nat.reduceEqDiff,reduceCtorEq,decide_true,decide_false, he8]
  · simp -dsimp only [↓RE,RU,RL,if_true,if_false,↓reduceIte,Nat.reduceEqDiff,reduceCtorEq,decide_true,decide_false, he9]
  · simp -dsimp only [↓RE,RU,RL,if_true,if_false,↓reduceIte,Nat.reduceEqDiff,reduceCtorEq,decide_true,decide_false, he10]
  · simp -dsimp only [↓RE,RU,RL,if_true,if_false,↓reduceIte,Nat.reduceEqDiff,reduceCtorEq,decide_true,decide_false, he31]
  clear he0 he1 he5 he6 he8 he9 he10 he31 e
  rintro e ⟨he0, he6, he8, he9, he10, he37⟩
  simp -dsimp only [↓RE,RU,RL,if_true,if_false,forall_const,implies_true,Nat.reduceLeDiff,Nat.reduceLT,pureOp,binPure,intBin,strBin,eqPure,isConstO,unPure,sliceLo,sliceHi,slicePure,slice3Pure,lenPure,capPure,minPure,maxPure,buildP,resK,endV,yieldE,↓reduceIte,Nat.reduceEqDiff,reduceCtorEq,Nat.reduceAdd,Nat.reduceMul,Nat.reduceSub,Int.reduceLT,Int.reduceLE,Int.reduceToNat,Int.reduceAdd,Int.reduceSub,Int.reduceMul,ne_eq,decide_true,decide_false,tf30, he37]
  obtain ⟨j, hj, hjl, hij, hij2⟩ : ∃ j, j = (if isAt l t i then i + 1 else i) ∧ j ≤ l.length ∧ j ≤ i + 1 ∧ i ≤ j := by
    refine ⟨_, rfl, ?_⟩
    cases hat : isAt l t i with
    | true => rw [if_pos rfl]; have := (hst.hit hS.rise hat).1; omega
    | false => rw [if_neg (by simp)]; omega
  rw [← hj] at hput
  refine c_seq_cut (fun e' w' => e' 0 = .pointer (some ⟨g, 0, none⟩) ∧ e' 6 = .pointer (some ⟨w1.heap.size, 0, none⟩) ∧ e' 8 = .pointer (some ⟨w3.heap.size, 0, none⟩) ∧ e' 9 = .bool (sHas l t) ∧ e' 10 = .int .i64 (j : Nat) ∧ e' 11 = .slice A6 (i + 1) c6 ∧ w6 = w') ?_ ?_
  · rw [c_seq]
    cases hat : isAt l t i with
    | true =>
      rw [hat, if_pos rfl] at hj
      rw [hat] at hhas
      have hw1 : IntKind.i64.wrap ((i : Int) + 1) = ((j : Nat) : Int) := by rw [wrap_i64_in (by omega) (by omega)]; omega
      simp -dsimp only [↓RE,RU,RL,if_true,if_false,forall_const,implies_true,Nat.reduceLeDiff,Nat.reduceLT,pureOp,binPure,intBin,strBin,eqPure,isConstO,unPure,sliceLo,sliceHi,slicePure,slice3Pure,lenPure,capPure,minPure,maxPure,buildP,resK,endV,yieldE,↓reduceIte,Nat.reduceEqDiff,reduceCtorEq,Nat.reduceAdd,Nat.reduceMul,Nat.reduceSub,Int.reduceLT,Int.reduceLE,Int.reduceToNat,Int.reduceAdd,Int.reduceSub,Int.reduceMul,ne_eq,decide_true,decide_false,tf30, he9, hhas, he10, hw1]
      exact hold_intro ⟨by simp -dsimp only [↓RE,RU,RL,if_true,if_false,↓reduceIte,Nat.reduceEqDiff,reduceCtorEq,decide_true,decide_false, he0], by simp -dsimp only [↓RE,RU,RL,if_true,if_false,↓reduceIte,Nat.reduceEqDiff,reduceCtorEq,decide_true,decide_false, he6], by simp -dsimp only [↓RE,RU,RL,if_true,if_false,↓reduceIte,Nat.reduceEqDiff,reduceCtorEq,decide_true,decide_false, he8], by simp -dsimp only [↓RE,RU,RL,if_true,if_false,↓reduceIte,Nat.reduceEqDiff,reduceCtorEq,decide_true,decide_false, he9, hhas], by simp -dsimp only [↓RE,RU,RL,if_true,if_false,↓reduceIte,Nat.reduceEqDiff,reduceCtorEq,decide_true,decide_false, he10], by simp -dsimp only [↓RE,RU,RL,if_true,if_false,↓reduceIte,Nat.reduceEqDiff,reduceCtorEq,decide_true,decide_false, he37], rfl⟩
    | false =>
      rw [hat, if_neg (by simp)] at hj
      subst hj
      rw [hat] at hhas
      simp -dsimp only [↓RE,RU,RL,if_true,if_false,forall_const,implies_true,Nat.reduceLeDiff,Nat.reduceLT,pureOp,binPure,intBin,strBin,eqPure,isConstO,unPure,sliceLo,sliceHi,slicePure,slice3Pure,lenPure,capPure,minPure,maxPure,buildP,resK,endV,yieldE,↓reduceIte,Nat.reduceEqDiff,reduceCtorEq,Nat.reduceAdd,Nat.reduceMul,Nat.reduceSub,Int.reduceLT,Int.reduceLE,Int.reduceToNat,Int.reduceAdd,Int.reduceSub,Int.reduceMul,ne_eq,decide_true,decide_false,tf30, he9, hhas, he10]
      exact hold_intro ⟨by simp -dsimp only [↓RE,RU,RL,if_true,if_false,↓reduceIte,Nat.reduceEqDiff,reduceCtorEq,decide_true,decide_false, he0], by simp -dsimp only [↓RE,RU,RL,if_true,if_false,↓reduceIte,Nat.reduceEqDiff,reduceCtorEq,decide_true,decide_false, he6], by simp -dsimp only [↓RE,RU,RL,if_true,if_false,↓reduceIte,Nat.reduceEqDiff,reduceCtorEq,decide_true,decide_false, he8], by simp -dsimp only [↓RE,RU,RL,if_true,if_false,↓reduceIte,Nat.reduceEqDiff,reduceCtorEq,decide_true,decide_false, he9, hhas], by simp -dsimp only [↓RE,RU,RL,if_true,if_false,↓reduceIte,Nat.reduceEqDiff,reduceCtorEq,decide_true,decide_false, he10], by simp -dsimp only [↓RE,RU,RL,if_true,if_false,↓reduceIte,Nat.reduceEqDiff,reduceCtorEq,decide_true,decide_false, he37], rfl⟩
  clear he0 he6 he8 he9 he10 he37 e
  rintro e w' ⟨he0, he6, he8, he9, he10, he11, rfl⟩
  have hS6 := hS4.grow g6
  have hp6 := hS6.cell
  obtain ⟨A', hif, hRd⟩ := LRow.cut (n := l.length) hS6.row hjl rfl
  rw [c_seq]
  simp -dsimp only [↓RE,RU,RL,if_true,if_false,forall_const,implies_true,Nat.reduceLeDiff,Nat.reduceLT,pureOp,binPure,intBin,strBin,eqPure,isConstO,unPure,sliceLo,sliceHi,slicePure,slice3Pure,lenPure,capPure,minPure,maxPure,buildP,resK,endV,yieldE,↓reduceIte,Nat.reduceEqDiff,reduceCtorEq,Nat.reduceAdd,Nat.reduceMul,Nat.reduceSub,Int.reduceLT,Int.reduceLE,Int.reduceToNat,Int.reduceAdd,Int.reduceSub,Int.reduceMul,ne_eq,decide_true,decide_false,tf30, he0, he10, he11, hp6, hif]
  refine ⟨by omega, ?_⟩
  have hb16 := hb24.grow g6
  have hb46 := hb4.grow g6
  have hs6 := g6.size
  have hln : (l.take i ++ [(t, (k, x))]).length = i + 1 := by rw [List.length_append, hti]; rfl
  have hld : (l.drop j).length = l.length - j := List.length_drop ..
  refine app_smp (v := .slice A6 (i + 1) c6) (xs := l.take i ++ [(t, (k, x))]) (ys := l.drop j) hL6 hRd (by rw [hln, hld]; omega) (fun A7 c7 w7 hL7 k7 f7 => ?_)
  rw [hln, hld] at hL7 f7
  rw [hln, hld]
  have hgf : ∀ q, fpV (.slice A6 (i + 1) c6) q → w4.heap.size ≤ q := f6'
  have hB7 : Blk w7 g 84 [.slice A l.length c] := hS6.b.keep k7 (fun hq => by have := hgf _ hq; omega)
  have hb27 := hb16.keep k7 (fun hq => by have := hgf _ hq; omega)
  have hb47 := hb46.keep k7 (fun hq => by have := hgf _ hq; omega)
  refine os_gen (fun e' => e' 41 = .pointer (some ⟨g, 0, none⟩) ∧ e' 6 = .pointer (some ⟨w1.heap.size, 0, none⟩) ∧ e' 8 = .pointer (some ⟨w3.heap.size, 0, none⟩) ∧ e' 9 = .bool (sHas l t) ∧ e' 49 = .slice A7 (i + 1 + (l.length - j)) c7) ⟨?_, ?_, ?_, ?_, ?_⟩ ?_
  · simp -dsimp only [↓RE,RU,RL,if_true,if_false,↓reduceIte,Nat.reduceEqDiff,reduceCtorEq,decide_true,decide_false, he0]
  · simp -dsimp only [↓RE,RU,RL,if_true,if_false,↓reduceIte,Nat.reduceEqDiff,reduceCtorEq,decide_true,decide_false, he6]
  · simp -dsimp only [↓RE,RU,RL,if_true,if_false,↓reduceIte,Nat.reduceEqDiff,reduceCtorEq,decide_true,decide_false, he8]
  · simp -dsimp only [↓RE,RU,RL,if_true,if_false,↓reduceIte,Nat.reduceEqDiff,reduceCtorEq,decide_true,decide_false, he9]
  · simp -dsimp only [↓RE,RU,RL,if_true,if_false,↓reduceIte,Nat.reduceEqDiff,reduceCtorEq,decide_true,decide_false, he0]
  clear he0 he6 he8 he9 he10 he11 e
  rintro e ⟨he41, he6, he8, he9, he49⟩
  simp -dsimp only [↓RE,RU,RL,if_true,if_false,forall_const,implies_true,Nat.reduceLeDiff,Nat.reduceLT,pureOp,binPure,intBin,strBin,eqPure,isConstO,unPure,sliceLo,sliceHi,slicePure,slice3Pure,lenPure,capPure,minPure,maxPure,buildP,resK,endV,yieldE,↓reduceIte,Nat.reduceEqDiff,reduceCtorEq,Nat.reduceAdd,Nat.reduceMul,Nat.reduceSub,Int.reduceLT,Int.reduceLE,Int.reduceToNat,Int.reduceAdd,Int.reduceSub,Int.reduceMul,ne_eq,decide_true,decide_false,tf30, he41, he49]
  refine hB7.st (i := 0) (by simp) ?_
  have hB8 := hB7.set 0 (.slice A7 (i + 1 + (l.length - j)) c7)
  have k8 := Keep.set1 w7 g 0 (.slice A7 (i + 1 + (l.length - j)) c7)
  have hb28 := hb27.keep k8 (by omega)
  have hb48 := hb47.keep k8 (by omega)
  simp -dsimp only [↓RE,RU,RL,if_true,if_false,forall_const,implies_true,Nat.reduceLeDiff,Nat.reduceLT,pureOp,binPure,intBin,strBin,eqPure,isConstO,unPure,sliceLo,sliceHi,slicePure,slice3Pure,lenPure,capPure,minPure,maxPure,buildP,resK,endV,yieldE,↓reduceIte,Nat.reduceEqDiff,reduceCtorEq,Nat.reduceAdd,Nat.reduceMul,Nat.reduceSub,Int.reduceLT,Int.reduceLE,Int.reduceToNat,Int.reduceAdd,Int.reduceSub,Int.reduceMul,ne_eq,decide_true,decide_false,tf30, he41]
  rw [c_seq]
  simp -dsimp only [↓RE,RU,RL,if_true,if_false,forall_const,implies_true,Nat.reduceLeDiff,Nat.reduceLT,pureOp,binPure,intBin,strBin,eqPure,isConstO,unPure,sliceLo,sliceHi,slicePure,slice3Pure,lenPure,capPure,minPure,maxPure,buildP,resK,endV,yieldE,↓reduceIte,Nat.reduceEqDiff,reduceCtorEq,Nat.reduceAdd,Nat.reduceMul,Nat.reduceSub,Int.reduceLT,Int.reduceLE,Int.reduceToNat,Int.reduceAdd,Int.reduceSub,Int.reduceMul,ne_eq,decide_true,decide_false,tf30, he8, he9, he6]
  refine blk_agg2 hb48 ?_
  simp -dsimp only [↓RE,RU,RL,if_true,if_false,forall_const,implies_true,Nat.reduceLeDiff,Nat.reduceLT,pureOp,binPure,intBin,strBin,eqPure,isConstO,unPure,sliceLo,sliceHi,slicePure,slice3Pure,lenPure,capPure,minPure,maxPure,buildP,resK,endV,yieldE,↓reduceIte,Nat.reduceEqDiff,reduceCtorEq,Nat.reduceAdd,Nat.reduceMul,Nat.reduceSub,Int.reduceLT,Int.reduceLE,Int.reduceToNat,Int.reduceAdd,Int.reduceSub,Int.reduceMul,ne_eq,decide_true,decide_false,tf30, he8, he9, he6]
  refine blk_st2 hb28 rfl rfl (fun w9 hb9 k9 => ?_)
  simp -dsimp only [↓RE,RU,RL,if_true,if_false,forall_const,implies_true,Nat.reduceLeDiff,Nat.reduceLT,pureOp,binPure,intBin,strBin,eqPure,isConstO,unPure,sliceLo,sliceHi,slicePure,slice3Pure,lenPure,capPure,minPure,maxPure,buildP,resK,endV,yieldE,↓reduceIte,Nat.reduceEqDiff,reduceCtorEq,Nat.reduceAdd,Nat.reduceMul,Nat.reduceSub,Int.reduceLT,Int.reduceLE,Int.reduceToNat,Int.reduceAdd,Int.reduceSub,Int.reduceMul,ne_eq,decide_true,decide_false,tf30, he6]
  refine blk_agg2 hb9 ?_
  simp -dsimp only [↓RE,RU,RL,if_true,if_false,forall_const,implies_true,Nat.reduceLeDiff,Nat.reduceLT,pureOp,binPure,intBin,strBin,eqPure,isConstO,unPure,sliceLo,sliceHi,slicePure,slice3Pure,lenPure,capPure,minPure,maxPure,buildP,resK,endV,yieldE,↓reduceIte,Nat.reduceEqDiff,reduceCtorEq,Nat.reduceAdd,Nat.reduceMul,Nat.reduceSub,Int.reduceLT,Int.reduceLE,Int.reduceToNat,Int.reduceAdd,Int.reduceSub,Int.reduceMul,ne_eq,decide_true,decide_false,tf30, he6, he9]
  have f7' : ∀ q, fpV (.slice A7 (i + 1 + (l.length - j)) c7) q → w4.heap.size ≤ q := fun q hq => (f7 q hq).elim (fun h => hgf q h) (fun h => by omega)
  have k69 : Keep (fun q => (w4.heap.size ≤ q ∨ q = g) ∨ q = w1.heap.size) w6 w9 := (k7.trans k8 (fun q _ h => (Or.inl (hgf q h) : w4.heap.size ≤ q ∨ q = g)) (fun _ _ h => .inr h)).trans k9 (fun _ _ h => .inl h) (fun _ _ h => .inr h)
  have k09 : Keep (fun q => q = g ∨ fpV (.slice A l.length c) q) w w9 := (g04.trans g6).above' k69 (fun q hq e => by
    rcases e with (e | e) | e
    · omega
    · exact .inl e
    · omega)
  refine h w9 _ ⟨hB8.keep k9 (by omega), ?_, hS.rise.put _ _⟩ k09 (fun q hq => .inr (by have := f7' q hq; omega))
  rw [hput]
  have hfin : SRow w9 (.slice A7 (i + 1 + (l.length - j)) c7) (l.take i ++ [(t, (k, x))] ++ l.drop j) := (hL7.keep k8 (fun q hq e => by have := f7' q hq; omega)).keep k9 (fun q hq e => by have := f7' q hq; omega)
  rw [List.append_assoc] at hfin
  exact hfin
theorem rcut_ok {w : World} {g : Nat} {v : Value} {l : List Smp} (hS : RefAt w g v l) (hn : l.length < 5864062014634) {t : Int} {R : VWK}
    (h : ∀ w' v', RefAt w' g v' (sCut l t) → Keep (fun i => i = g ∨ fpV v i) w w' → (∀ i, fpV v' i → fpV v i ∨ w.heap.size ≤ i) → R (.tuple #[cV (sOld l t), .bool (sHas l t)]) w') :
    CallsV Tryz.prog 24 [.pointer (some ⟨g, 0, none⟩), .int .i64 t] w R := by
  obtain ⟨A, c, rfl, hnc, hA⟩ := hS.row.form
  have hb2 := Blk.new' w 61 #[.int .u8 0, .int .i64 0]
  have g2 := Grow.alloc w (.cells #[.int .u8 0, .int .i64 0] 61)
  have hS2 := hS.grow g2
  have hgl := hS.b.lt
  have hrl := hS.row.lt
  refine calls_of_wpC mixed Tryz.func24 rfl (by kernel_rfl) ?_
  intro e he
  have he0 := he 0
  have he1 := he 1
  simp only [List.getD_cons_zero, List.getD_cons_succ] at he0 he1
  clear he
  try simp -dsimp only [↓RE,↓c_seq,RU,RL,if_true,if_false,forall_const,implies_true,Nat.reduceLeDiff,Nat.reduceLT,pureOp,binPure,intBin,strBin,eqPure,isConstO,unPure,sliceLo,sliceHi,slicePure,slice3Pure,lenPure,capPure,minPure,maxPure,buildP,resK,endV,yieldE,↓reduceIte,Nat.reduceEqDiff,reduceCtorEq,Nat.reduceAdd,Nat.reduceMul,Nat.reduceSub,Int.reduceLT,Int.reduceLE,Int.reduceToNat,Int.reduceAdd,Int.reduceSub,Int.reduceMul,ne_eq,decide_true,decide_false,tf24, he0, he1]
  refine rget_ok hS2 (by omega) (fun w3 g3 => ?_)
  try simp -dsimp only [↓RE,↓c_seq,RU,RL,if_true,if_false,forall_const,implies_true,Nat.reduceLeDiff,Nat.reduceLT,pureOp,binPure,intBin,strBin,eqPure,isConstO,unPure,sliceLo,sliceHi,slicePure,slice3Pure,lenPure,capPure,minPure,maxPure,buildP,resK,endV,yieldE,↓reduceIte,Nat.reduceEqDiff,reduceCtorEq,Nat.reduceAdd,Nat.reduceMul,Nat.reduceSub,Int.reduceLT,Int.reduceLE,Int.reduceToNat,Int.reduceAdd,Int.reduceSub,Int.reduceMul,ne_eq,decide_true,decide_false,tf24, he0]
  refine new2 (fun w4 hb4 g4 => ?_) rfl rfl
  have g04 : Grow w w4 := (g2.trans g3).trans g4
  have hS4 := hS.grow g04
  have hb24 := (hb2.grow g3).grow g4
  have hs4 := hb4.lt
  have hs3 := (hb2.grow g3).lt
  refine os_gen (fun e' => e' 0 = .pointer (some ⟨g, 0, none⟩) ∧ e' 1 = .int .i64 t ∧ e' 4 = .pointer (some ⟨w.heap.size, 0, none⟩) ∧ e' 6 = .pointer (some ⟨w3.heap.size, 0, none⟩) ∧ e' 15 = .bool (sHas l t)) ⟨?_, ?_, ?_, ?_, ?_⟩ ?_
  · simp -dsimp only [↓RE,RU,RL,if_true,if_false,↓reduceIte,Nat.reduceEqDiff,reduceCtorEq,decide_true,decide_false, he0]
  · simp -dsimp only [↓RE,RU,RL,if_true,if_false,↓reduceIte,Nat.reduceEqDiff,reduceCtorEq,decide_true,decide_false, he1]
  · simp -dsimp only [↓RE,RU,RL,if_true,if_false,↓reduceIte,Nat.reduceEqDiff,reduceCtorEq,decide_true,decide_false, he0]
  · simp -dsimp only [↓RE,RU,RL,if_true,if_false,↓reduceIte,Nat.reduceEqDiff,reduceCtorEq,decide_true,decide_false, he0]
  · simp -dsimp only [↓RE,RU,RL,if_true,if_false,↓reduceIte,Nat.reduceEqDiff,reduceCtorEq,decide_true,decide_false, he0]
  clear he0 he1 e
  rintro e ⟨he0, he1, he4, he6, he15⟩
  simp -dsimp only [↓RE,RU,RL,if_true,if_false,forall_const,implies_true,Nat.reduceLeDiff,Nat.reduceLT,pureOp,binPure,intBin,strBin,eqPure,isConstO,unPure,sliceLo,sliceHi,slicePure,slice3Pure,lenPure,capPure,minPure,maxPure,buildP,resK,endV,yieldE,↓reduceIte,Nat.reduceEqDiff,reduceCtorEq,Nat.reduceAdd,Nat.reduceMul,Nat.reduceSub,Int.reduceLT,Int.reduceLE,Int.reduceToNat,Int.reduceAdd,Int.reduceSub,Int.reduceMul,ne_eq,decide_true,decide_false,tf24, he15]
  refine c_seq_cut (fun e' w' => e' 4 = .pointer (some ⟨w.heap.size, 0, none⟩) ∧ e' 6 = .pointer (some ⟨w3.heap.size, 0, none⟩) ∧ e' 7 = .bool (sHas l t) ∧ ∃ v', RefAt w' g v' (sCut l t) ∧ (∀ q, fpV v' q → fpV (.slice A l.length c) q ∨ w4.heap.size ≤ q) ∧ Keep (fun q => q = g) w4 w') ?_ ?_
  · obtain ⟨i, hst⟩ : ∃ i, Stand l t i := Stand.ex hS.rise t
    have hhas := hst.has hS.rise
    have hcut := hst.cut hS.rise
    rw [c_seq]
    cases hat : isAt l t i with
    | false =>
      rw [hat] at hhas
      rw [hat, if_neg (by simp)] at hcut
      simp -dsimp only [↓RE,RU,RL,if_true,if_false,forall_const,implies_true,Nat.reduceLeDiff,Nat.reduceLT,pureOp,binPure,intBin,strBin,eqPure,isConstO,unPure,sliceLo,sliceHi,slicePure,slice3Pure,lenPure,capPure,minPure,maxPure,buildP,resK,endV,yieldE,↓reduceIte,Nat.reduceEqDiff,reduceCtorEq,Nat.reduceAdd,Nat.reduceMul,Nat.reduceSub,Int.reduceLT,Int.reduceLE,Int.reduceToNat,Int.reduceAdd,Int.reduceSub,Int.reduceMul,ne_eq,decide_true,decide_false,tf24, hhas]
      exact hold_intro ⟨by simp -dsimp only [↓RE,RU,RL,if_true,if_false,↓reduceIte,Nat.reduceEqDiff,reduceCtorEq,decide_true,decide_false, he4], by simp -dsimp only [↓RE,RU,RL,if_true,if_false,↓reduceIte,Nat.reduceEqDiff,reduceCtorEq,decide_true,decide_false, he6], by simp -dsimp only [↓RE,RU,RL,if_true,if_false,↓reduceIte,Nat.reduceEqDiff,reduceCtorEq,decide_true,decide_false, he0, hhas], _, by rw [hcut]; exact hS4, fun q hq => .inl hq, Keep.refl _ _⟩
    | true =>
      have hil := (hst.hit hS.rise hat).1
      rw [hat] at hhas
      rw [hat, if_pos rfl] at hcut
      simp -dsimp only [↓RE,RU,RL,if_true,if_false,forall_const,implies_true,Nat.reduceLeDiff,Nat.reduceLT,pureOp,binPure,intBin,strBin,eqPure,isConstO,unPure,sliceLo,sliceHi,slicePure,slice3Pure,lenPure,capPure,minPure,maxPure,buildP,resK,endV,yieldE,↓reduceIte,Nat.reduceEqDiff,reduceCtorEq,Nat.reduceAdd,Nat.reduceMul,Nat.reduceSub,Int.reduceLT,Int.reduceLE,Int.reduceToNat,Int.reduceAdd,Int.reduceSub,Int.reduceMul,ne_eq,decide_true,decide_false,tf24, hhas]
      rw [c_seq]
      simp -dsimp only [↓RE,RU,RL,if_true,if_false,forall_const,implies_true,Nat.reduceLeDiff,Nat.reduceLT,pureOp,binPure,intBin,strBin,eqPure,isConstO,unPure,sliceLo,sliceHi,slicePure,slice3Pure,lenPure,capPure,minPure,maxPure,buildP,resK,endV,yieldE,↓reduceIte,Nat.reduceEqDiff,reduceCtorEq,Nat.reduceAdd,Nat.reduceMul,Nat.reduceSub,Int.reduceLT,Int.reduceLE,Int.reduceToNat,Int.reduceAdd,Int.reduceSub,Int.reduceMul,ne_eq,decide_true,decide_false,tf24, he0, he1]
      refine ahead_ok hS4 (by omega) (fun i' hst' => ?_)
      obtain rfl : i = i' := by rw [← hst.ahead, hst'.ahead]
      have hp4 := hS4.cell
      have hw1 : IntKind.i64.wrap ((i : Int) + 1) = ((i + 1 : Nat) : Int) := by rw [wrap_i64_in (by omega) (by omega)]; omega
      have hpre := (hS4.row.pre (k := i) (by omega)).rd
      rw [← flat_take] at hpre
      have hti : (l.take i).length = i := by rw [List.length_take]; omega
      have hld : (l.drop (i + 1)).length = l.length - (i + 1) := List.length_drop ..
      try simp -dsimp only [↓RE,↓c_seq,RU,RL,if_true,if_false,forall_const,implies_true,Nat.reduceLeDiff,Nat.reduceLT,pureOp,binPure,intBin,strBin,eqPure,isConstO,unPure,sliceLo,sliceHi,slicePure,slice3Pure,lenPure,capPure,minPure,maxPure,buildP,resK,endV,yieldE,↓reduceIte,Nat.reduceEqDiff,reduceCtorEq,Nat.reduceAdd,Nat.reduceMul,Nat.reduceSub,Int.reduceLT,Int.reduceLE,Int.reduceToNat,Int.reduceAdd,Int.reduceSub,Int.reduceMul,ne_eq,decide_true,decide_false,tf24, he0, he1, hp4, add_zero', Option.map_id', ite_self, Nat.sub_zero]
      refine ⟨by omega, ?_⟩
      refine app_smp (xs := []) (ys := l.take i) (LRow.nil _ _ _) hpre (by rw [hti]; simp; omega) (fun A5 c5 w5 hL5 k5 f5 => ?_)
      rw [List.nil_append, List.length_nil, Nat.zero_add, hti] at hL5
      rw [List.length_nil, Nat.zero_add, hti] at f5 ⊢
      have g5 : Grow w4 w5 := k5.mono (fun q _ hq => (fpV_none _ hq).elim)
      have f5' : ∀ q, fpV (.slice A5 i c5) q → q = w4.heap.size := fun q hq => (f5 q hq).elim (fun h => (fpV_none _ h).elim) id
      have hS5 := hS4.grow g5
      have hp5 := hS5.cell
      obtain ⟨A', hif, hRd⟩ := LRow.cut (n := l.length) (i := i + 1) hS5.row (by omega) rfl
      try simp -dsimp only [↓RE,↓c_seq,RU,RL,if_true,if_false,forall_const,implies_true,Nat.reduceLeDiff,Nat.reduceLT,pureOp,binPure,intBin,strBin,eqPure,isConstO,unPure,sliceLo,sliceHi,slicePure,slice3Pure,lenPure,capPure,minPure,maxPure,buildP,resK,endV,yieldE,↓reduceIte,Nat.reduceEqDiff,reduceCtorEq,Nat.reduceAdd,Nat.reduceMul,Nat.reduceSub,Int.reduceLT,Int.reduceLE,Int.reduceToNat,Int.reduceAdd,Int.reduceSub,Int.reduceMul,ne_eq,decide_true,decide_false,tf24, he0, he1, hp5, hif, hw1]
      refine ⟨by omega, ?_⟩
      refine app_smp (v := .slice A5 i c5) (xs := l.take i) (ys := l.drop (i + 1)) hL5 hRd (by rw [hti, hld]; omega) (fun A7 c7 w7 hL7 k7 f7 => ?_)
      rw [hti, hld] at hL7 f7 ⊢
      have hB7 : Blk w7 g 84 [.slice A l.length c] := hS5.b.keep k7 (fun hq => by have := f5' _ hq; omega)
      have f7' : ∀ q, fpV (.slice A7 (i + (l.length - (i + 1))) c7) q → w4.heap.size ≤ q := fun q hq => (f7 q hq).elim (fun h => by have := f5' q h; omega) (fun h => by have := g5.size; omega)
      try simp -dsimp only [↓RE,↓c_seq,RU,RL,if_true,if_false,forall_const,implies_true,Nat.reduceLeDiff,Nat.reduceLT,pureOp,binPure,intBin,strBin,eqPure,isConstO,unPure,sliceLo,sliceHi,slicePure,slice3Pure,lenPure,capPure,minPure,maxPure,buildP,resK,endV,yieldE,↓reduceIte,Nat.reduceEqDiff,reduceCtorEq,Nat.reduceAdd,Nat.reduceMul,Nat.reduceSub,Int.reduceLT,Int.reduceLE,Int.reduceToNat,Int.reduceAdd,Int.reduceSub,Int.reduceMul,ne_eq,decide_true,decide_false,tf24, he0]
      refine hB7.st (i := 0) (by simp) ?_
      have hB8 := hB7.set 0 (.slice A7 (i + (l.length - (i + 1))) c7)
      have k8 := Keep.set1 w7 g 0 (.slice A7 (i + (l.length - (i + 1))) c7)
      try simp -dsimp only [↓RE,↓c_seq,RU,RL,if_true,if_false,forall_const,implies_true,Nat.reduceLeDiff,Nat.reduceLT,pureOp,binPure,intBin,strBin,eqPure,isConstO,unPure,sliceLo,sliceHi,slicePure,slice3Pure,lenPure,capPure,minPure,maxPure,buildP,resK,endV,yieldE,↓reduceIte,Nat.reduceEqDiff,reduceCtorEq,Nat.reduceAdd,Nat.reduceMul,Nat.reduceSub,Int.reduceLT,Int.reduceLE,Int.reduceToNat,Int.reduceAdd,Int.reduceSub,Int.reduceMul,ne_eq,decide_true,decide_false,tf24, he0]
      refine hold_intro ⟨by simp -dsimp only [↓RE,RU,RL,if_true,if_false,↓reduceIte,Nat.reduceEqDiff,reduceCtorEq,decide_true,decide_false, he4], by simp -dsimp only [↓RE,RU,RL,if_true,if_false,↓reduceIte,Nat.reduceEqDiff,reduceCtorEq,decide_true,decide_false, he6], by simp -dsimp only [↓RE,RU,RL,if_true,if_false,↓reduceIte,Nat.reduceEqDiff,reduceCtorEq,decide_true,decide_false, hhas], _, ⟨hB8, by rw [hcut]; exact hL7.keep k8 (fun q hq e => by have := f7' q hq; omega), hS.rise.cut _⟩, fun q hq => .inr (f7' q hq), ?_⟩
      exact (g5.above' k7 (fun q hq e => (by have := f5' q e; omega : q = g))).trans k8 (fun _ _ h => h) (fun _ _ h => h)
  clear he0 he1 he4 he6 he15 e
  rintro e w5 ⟨he4, he6, he7, v5, hS5, f5, k5⟩
  have hb25 := hb24.keep k5 (by omega)
  have hb45 := hb4.keep k5 (by omega)
  try simp -dsimp only [↓RE,↓c_seq,RU,RL,if_true,if_false,forall_const,implies_true,Nat.reduceLeDiff,Nat.reduceLT,pureOp,binPure,intBin,strBin,eqPure,isConstO,unPure,sliceLo,sliceHi,slicePure,slice3Pure,lenPure,capPure,minPure,maxPure,buildP,resK,endV,yieldE,↓reduceIte,Nat.reduceEqDiff,reduceCtorEq,Nat.reduceAdd,Nat.reduceMul,Nat.reduceSub,Int.reduceLT,Int.reduceLE,Int.reduceToNat,Int.reduceAdd,Int.reduceSub,Int.reduceMul,ne_eq,decide_true,decide_false,tf24, he4, he6, he7]
  refine blk_agg2 hb45 ?_
  try simp -dsimp only [↓RE,↓c_seq,RU,RL,if_true,if_false,forall_const,implies_true,Nat.reduceLeDiff,Nat.reduceLT,pureOp,binPure,intBin,strBin,eqPure,isConstO,unPure,sliceLo,sliceHi,slicePure,slice3Pure,lenPure,capPure,minPure,maxPure,buildP,resK,endV,yieldE,↓reduceIte,Nat.reduceEqDiff,reduceCtorEq,Nat.reduceAdd,Nat.reduceMul,Nat.reduceSub,Int.reduceLT,Int.reduceLE,Int.reduceToNat,Int.reduceAdd,Int.reduceSub,Int.reduceMul,ne_eq,decide_true,decide_false,tf24, he4, he6, he7]
  refine blk_st2 hb25 rfl rfl (fun w9 hb9 k9 => ?_)
  try simp -dsimp only [↓RE,↓c_seq,RU,RL,if_true,if_false,forall_const,implies_true,Nat.reduceLeDiff,Nat.reduceLT,pureOp,binPure,intBin,strBin,eqPure,isConstO,unPure,sliceLo,sliceHi,slicePure,slice3Pure,lenPure,capPure,minPure,maxPure,buildP,resK,endV,yieldE,↓reduceIte,Nat.reduceEqDiff,reduceCtorEq,Nat.reduceAdd,Nat.reduceMul,Nat.reduceSub,Int.reduceLT,Int.reduceLE,Int.reduceToNat,Int.reduceAdd,Int.reduceSub,Int.reduceMul,ne_eq,decide_true,decide_false,tf24, he4]
  refine blk_agg2 hb9 ?_
  try simp -dsimp only [↓RE,↓c_seq,RU,RL,if_true,if_false,forall_const,implies_true,Nat.reduceLeDiff,Nat.reduceLT,pureOp,binPure,intBin,strBin,eqPure,isConstO,unPure,sliceLo,sliceHi,slicePure,slice3Pure,lenPure,capPure,minPure,maxPure,buildP,resK,endV,yieldE,↓reduceIte,Nat.reduceEqDiff,reduceCtorEq,Nat.reduceAdd,Nat.reduceMul,Nat.reduceSub,Int.reduceLT,Int.reduceLE,Int.reduceToNat,Int.reduceAdd,Int.reduceSub,Int.reduceMul,ne_eq,decide_true,decide_false,tf24, he4, he7]
  refine h w9 v5 (hS5.keep k9 (by omega) (fun q hq e => ?_)) (g04.above' (k5.trans k9 (fun q _ h => (Or.inl h : q = g ∨ q = w.heap.size)) (fun q _ h => .inr h)) (fun q hq e => ?_)) (fun q hq => (f5 q hq).imp id (fun h => by omega))
  · rcases f5 q hq with h1 | h1
    · have := hrl q h1; omega
    · omega
  · rcases e with e | e
    · exact .inl e
    · omega

end Go.Proofs.YtcnebgokbjpjnaaGreat
