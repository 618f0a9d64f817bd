/- The program's series: New, Put, Cut, Get, Len, Delete. -/
import Derived.Test.YtcnebgokbjpjnaaGreatIns
import Derived.Test.YtcnebgokbjpjnaaGreatSdel
set_option linter.unusedVariables false
set_option linter.unusedSimpArgs false
set_option maxRecDepth 100000
namespace Go.Proofs.YtcnebgokbjpjnaaGreat
open Go

/-- a value as the model has it. -/
abbrev cV (v : Int × Int) : Value := .agg #[.int .u8 v.1, .int .i64 v.2]
theorem blk_agg2 {w : World} {g : Nat} {t : TypeId} {a b : Value} (h : Blk w g t [a, b]) {K : VK} {tk : Tok K} (hk : K (.agg #[a, b])) : aggK w ⟨g, 0, none⟩ (some 2) K tk := h.aggK (by simp) hk
def sOld (l : List Smp) (t : Int) : Int × Int := (sGet l t).getD (0, 0)
def sHas (l : List Smp) (t : Int) : Bool := (sGet l t).isSome
/-- a series: its block holds its row. -/
structure SerAt (w : World) (g : Nat) (v : Value) (l : List Smp) : Prop where
  b : Blk w g 82 [v]
  row : SRow w v l
  rise : Rise l
theorem SerAt.ne {w : World} {g : Nat} {v : Value} {l : List Smp} (h : SerAt w g v l) : ¬ fpV v g := h.row.blk_ne h.b (by decide)
theorem SerAt.keep {F : Nat → Prop} {w w' : World} {g : Nat} {v : Value} {l : List Smp} (h : SerAt w g v l) (hk : Keep F w w') (h1 : ¬ F g) (h2 : ∀ k, fpV v k → ¬ F k) : SerAt w' g v l :=
  ⟨h.b.keep hk h1, h.row.keep hk h2, h.rise⟩
theorem SerAt.grow {w w' : World} {g : Nat} {v : Value} {l : List Smp} (h : SerAt w g v l) (hk : Grow w w') : SerAt w' g v l := h.keep hk (fun h => h) (fun _ _ h => h)
theorem SerAt.cell {w : World} {g : Nat} {v : Value} {l : List Smp} (h : SerAt w g v l) : w.cell? ⟨g, 0, none⟩ = some v := (h.b.cell 0).trans rfl
theorem set_cells {l : List Smp} {i : Nat} (hi : i < l.length) {x : Smp} {cur : List Value} (hct : cur.take (l.length * 3) = l.flatMap scells) (hcc : l.length * 3 ≤ cur.length) (ht : (l.getD i (0, 0, 0)).1 = x.1) :
    (cur.take (i * 3 + 1) ++ [Value.int .u8 x.2.1, Value.int .i64 x.2.2] ++ cur.drop (i * 3 + 1 + 2)).take ((l.take i ++ x :: l.drop (i + 1)).length * 3) = (l.take i ++ x :: l.drop (i + 1)).flatMap scells := by
  have hA : ((l.take i).flatMap scells).length = i * 3 := by rw [flat_length, List.length_take]; omega
  have hD : ((l.drop (i + 1)).flatMap scells).length = (l.length - (i + 1)) * 3 := by rw [flat_length, List.length_drop]
  have hn : (l.take i ++ x :: l.drop (i + 1)).length = l.length := by rw [List.length_append, List.length_cons, List.length_take, List.length_drop]; omega
  have hsp : l = l.take i ++ l.getD i (0, 0, 0) :: l.drop (i + 1) := by
    rw [getD_lt hi, ← List.drop_eq_getElem_cons hi, List.take_append_drop]
  obtain ⟨r, hr⟩ : ∃ r, cur = l.flatMap scells ++ r := ⟨cur.drop (l.length * 3), by rw [← hct, List.take_append_drop]⟩
  have hf : l.flatMap scells = (l.take i).flatMap scells ++ ([.int .i64 x.1, .int .u8 (l.getD i (0, 0, 0)).2.1, .int .i64 (l.getD i (0, 0, 0)).2.2] ++ (l.drop (i + 1)).flatMap scells) := by
    conv => lhs; rw [hsp]
    rw [List.flatMap_append, List.flatMap_cons, scells, ht]
  rw [hf, List.append_assoc] at hr
  have e1 : cur.take (i * 3 + 1) = (l.take i).flatMap scells ++ [.int .i64 x.1] := by
    rw [hr, List.take_append, List.take_of_length_le (by omega), hA, show i * 3 + 1 - i * 3 = 1 by omega]; rfl
  have e2 : cur.drop (i * 3 + 1 + 2) = (l.drop (i + 1)).flatMap scells ++ r := by
    rw [hr, List.drop_append, List.drop_of_length_le (by omega), hA, show i * 3 + 1 + 2 - i * 3 = 3 by omega]; rfl
  rw [e1, e2, hn, List.flatMap_append, List.flatMap_cons]
  have e3 : (l.take i).flatMap scells ++ [Value.int .i64 x.1] ++ [.int .u8 x.2.1, .int .i64 x.2.2] ++ ((l.drop (i + 1)).flatMap scells ++ r) = ((l.take i).flatMap scells ++ (scells x ++ (l.drop (i + 1)).flatMap scells)) ++ r := by
    simp [scells]
  rw [e3]
  exact List.take_left' (by rw [List.length_append, List.length_append, hA, hD, scells_len]; omega)
theorem snew_ok {w : World} {R : VWK} (h : ∀ w', SerAt w' w.heap.size (.slice none 0 0) [] → Grow w w' → R (.pointer (some ⟨w.heap.size, 0, none⟩)) w') : CallsV Tryz.prog 5 [] w R := by
  have hb := Blk.new' w 82 #[.slice none 0 0]
  refine calls_of_wpC mixed Tryz.func5 rfl (by kernel_rfl) ?_
  intro e he
  clear he
  try simp -dsimp only [↓RE,↓c_seq,RU,RL,if_true,if_false,forall_const,implies_true,Nat.reduceLeDiff,Nat.reduceLT,pureOp,binPure,intBin,strBin,eqPure,isConstO,unPure,sliceLo,sliceHi,slicePure,slice3Pure,lenPure,capPure,minPure,maxPure,buildP,resK,endV,yieldE,↓reduceIte,Nat.reduceEqDiff,reduceCtorEq,Nat.reduceAdd,Nat.reduceMul,Nat.reduceSub,Int.reduceLT,Int.reduceLE,Int.reduceToNat,Int.reduceAdd,Int.reduceSub,Int.reduceMul,ne_eq,decide_true,decide_false,tf5, eq_self]
  exact h _ ⟨hb, LRow.nil _ _ _, Rise.nil⟩ (Grow.alloc w _)
theorem slen_ok {w : World} {g : Nat} {v : Value} {l : List Smp} (hS : SerAt w g v l) {R : VWK} (h : R (.int .i64 l.length) w) : CallsV Tryz.prog 20 [.pointer (some ⟨g, 0, none⟩)] w R := by
  obtain ⟨A, c, rfl, hnc, hA⟩ := hS.row.form
  have hp := hS.cell
  refine calls_of_wpC mixed Tryz.func20 rfl (by kernel_rfl) ?_
  intro e he
  have he0 := he 0
  simp only [List.getD_cons_zero, List.getD_cons_succ] at he0
  clear he
  try simp -dsimp only [↓RE,↓c_seq,RU,RL,if_true,if_false,forall_const,implies_true,Nat.reduceLeDiff,Nat.reduceLT,pureOp,binPure,intBin,strBin,eqPure,isConstO,unPure,sliceLo,sliceHi,slicePure,slice3Pure,lenPure,capPure,minPure,maxPure,buildP,resK,endV,yieldE,↓reduceIte,Nat.reduceEqDiff,reduceCtorEq,Nat.reduceAdd,Nat.reduceMul,Nat.reduceSub,Int.reduceLT,Int.reduceLE,Int.reduceToNat,Int.reduceAdd,Int.reduceSub,Int.reduceMul,ne_eq,decide_true,decide_false,tf20, he0, hp]
  exact h
theorem get_ok {w : World} {g : Nat} {v : Value} {l : List Smp} (hS : SerAt w g v l) (hn : l.length ≤ 5864062014634) {t : Int} {R : VWK} (h : ∀ w', Grow w w' → R (.tuple #[cV (sOld l t), .bool (sHas l t)]) w') :
    CallsV Tryz.prog 19 [.pointer (some ⟨g, 0, none⟩), .int .i64 t] w R := by
  obtain ⟨A, c, rfl, hnc, hA⟩ := hS.row.form
  have hp := hS.cell
  have hb1 := Blk.new' w 61 #[.int .u8 0, .int .i64 0]
  have g1 := Grow.alloc w (.cells #[.int .u8 0, .int .i64 0] 61)
  have hS1 := hS.grow g1
  have hp1 := hS1.cell
  refine calls_of_wpC mixed Tryz.func19 rfl (by kernel_rfl) ?_
  intro e he
  have he0 := he 0
  have he1 := he 1
  simp only [List.getD_cons_zero, List.getD_cons_succ] at he0 he1
  clear he
  try simp -dsimp only [↓RE,↓c_seq,RU,RL,if_true,if_false,forall_const,implies_true,Nat.reduceLeDiff,Nat.reduceLT,pureOp,binPure,intBin,strBin,eqPure,isConstO,unPure,sliceLo,sliceHi,slicePure,slice3Pure,lenPure,capPure,minPure,maxPure,buildP,resK,endV,yieldE,↓reduceIte,Nat.reduceEqDiff,reduceCtorEq,Nat.reduceAdd,Nat.reduceMul,Nat.reduceSub,Int.reduceLT,Int.reduceLE,Int.reduceToNat,Int.reduceAdd,Int.reduceSub,Int.reduceMul,ne_eq,decide_true,decide_false,tf19, he0, he1, hp]
  refine find_ok hp1 hS1.row.rd hn hS.rise (fun w2 i g2 hst => ?_)
  refine os_gen (fun e' => e' 0 = .pointer (some ⟨g, 0, none⟩) ∧ e' 4 = .pointer (some ⟨w.heap.size, 0, none⟩) ∧ e' 16 = .tuple #[.int .i64 (i : Nat), .bool (isAt l t i)]) ⟨?_, ?_, ?_⟩ ?_
  · simp -dsimp only [↓RE,RU,RL,if_true,if_false,↓reduceIte,Nat.reduceEqDiff,reduceCtorEq,decide_true,decide_false, he0]
  · simp -dsimp only [↓RE,RU,RL,if_true,if_false,↓reduceIte,Nat.reduceEqDiff,reduceCtorEq,decide_true,decide_false, he0]
  · simp -dsimp only [↓RE,RU,RL,if_true,if_false,↓reduceIte,Nat.reduceEqDiff,reduceCtorEq,decide_true,decide_false, he0]
  clear he0 he1 e
  rintro e ⟨he0, he4, he16⟩
  have hS2 := hS1.grow g2
  have hp2 := hS2.cell
  have hb2 := hb1.grow g2
  have hlo := hst.get hS.rise
  cases hat : isAt l t i with
  | false =>
    rw [hat, if_neg (by simp)] at hlo
    have e1 : sOld l t = (0, 0) := by rw [sOld, hlo]; rfl
    have e2 : sHas l t = false := by rw [sHas, hlo]; rfl
    rw [e1, e2] at h
    try simp -dsimp only [↓RE,↓c_seq,RU,RL,if_true,if_false,forall_const,implies_true,Nat.reduceLeDiff,Nat.reduceLT,pureOp,binPure,intBin,strBin,eqPure,isConstO,unPure,sliceLo,sliceHi,slicePure,slice3Pure,lenPure,capPure,minPure,maxPure,buildP,resK,endV,yieldE,↓reduceIte,Nat.reduceEqDiff,reduceCtorEq,Nat.reduceAdd,Nat.reduceMul,Nat.reduceSub,Int.reduceLT,Int.reduceLE,Int.reduceToNat,Int.reduceAdd,Int.reduceSub,Int.reduceMul,ne_eq,decide_true,decide_false,tf19, he0, he4, he16, hat]
    refine hb2.stAgg (by simp) (by simp [Value.oneCell']) (fun w3 hb3 k3 => ?_)
    try simp -dsimp only [↓RE,↓c_seq,RU,RL,if_true,if_false,forall_const,implies_true,Nat.reduceLeDiff,Nat.reduceLT,pureOp,binPure,intBin,strBin,eqPure,isConstO,unPure,sliceLo,sliceHi,slicePure,slice3Pure,lenPure,capPure,minPure,maxPure,buildP,resK,endV,yieldE,↓reduceIte,Nat.reduceEqDiff,reduceCtorEq,Nat.reduceAdd,Nat.reduceMul,Nat.reduceSub,Int.reduceLT,Int.reduceLE,Int.reduceToNat,Int.reduceAdd,Int.reduceSub,Int.reduceMul,ne_eq,decide_true,decide_false,tf19, he0, he4, he16, hat]
    refine hb3.aggK (by simp) ?_
    try simp -dsimp only [↓RE,↓c_seq,RU,RL,if_true,if_false,forall_const,implies_true,Nat.reduceLeDiff,Nat.reduceLT,pureOp,binPure,intBin,strBin,eqPure,isConstO,unPure,sliceLo,sliceHi,slicePure,slice3Pure,lenPure,capPure,minPure,maxPure,buildP,resK,endV,yieldE,↓reduceIte,Nat.reduceEqDiff,reduceCtorEq,Nat.reduceAdd,Nat.reduceMul,Nat.reduceSub,Int.reduceLT,Int.reduceLE,Int.reduceToNat,Int.reduceAdd,Int.reduceSub,Int.reduceMul,ne_eq,decide_true,decide_false,tf19, he0, he4, he16, hat]
    exact h w3 (Keep.above (g1.trans g2) k3 (fun k hk e => by omega))
  | true =>
    have hil := (hst.hit hS.rise hat).1
    rw [hat, if_pos rfl] at hlo
    have e1 : sOld l t = (l.getD i (0, 0, 0)).2 := by rw [sOld, hlo]; rfl
    have e2 : sHas l t = true := by rw [sHas, hlo]; rfl
    rw [e1, e2] at h
    obtain ⟨ad, hAd, hca, hcv, hcs⟩ := hS2.row.rd.smp (k := i) hil
    subst hAd
    try simp -dsimp only [↓RE,↓c_seq,RU,RL,if_true,if_false,forall_const,implies_true,Nat.reduceLeDiff,Nat.reduceLT,pureOp,binPure,intBin,strBin,eqPure,isConstO,unPure,sliceLo,sliceHi,slicePure,slice3Pure,lenPure,capPure,minPure,maxPure,buildP,resK,endV,yieldE,↓reduceIte,Nat.reduceEqDiff,reduceCtorEq,Nat.reduceAdd,Nat.reduceMul,Nat.reduceSub,Int.reduceLT,Int.reduceLE,Int.reduceToNat,Int.reduceAdd,Int.reduceSub,Int.reduceMul,ne_eq,decide_true,decide_false,tf19, he0, he4, he16, hat, hp2]
    refine ⟨by omega, hcv ?_⟩
    try simp -dsimp only [↓RE,↓c_seq,RU,RL,if_true,if_false,forall_const,implies_true,Nat.reduceLeDiff,Nat.reduceLT,pureOp,binPure,intBin,strBin,eqPure,isConstO,unPure,sliceLo,sliceHi,slicePure,slice3Pure,lenPure,capPure,minPure,maxPure,buildP,resK,endV,yieldE,↓reduceIte,Nat.reduceEqDiff,reduceCtorEq,Nat.reduceAdd,Nat.reduceMul,Nat.reduceSub,Int.reduceLT,Int.reduceLE,Int.reduceToNat,Int.reduceAdd,Int.reduceSub,Int.reduceMul,ne_eq,decide_true,decide_false,tf19, he0, he4, he16, hat]
    refine hb2.stAgg (by simp) (by simp [Value.oneCell']) (fun w3 hb3 k3 => ?_)
    try simp -dsimp only [↓RE,↓c_seq,RU,RL,if_true,if_false,forall_const,implies_true,Nat.reduceLeDiff,Nat.reduceLT,pureOp,binPure,intBin,strBin,eqPure,isConstO,unPure,sliceLo,sliceHi,slicePure,slice3Pure,lenPure,capPure,minPure,maxPure,buildP,resK,endV,yieldE,↓reduceIte,Nat.reduceEqDiff,reduceCtorEq,Nat.reduceAdd,Nat.reduceMul,Nat.reduceSub,Int.reduceLT,Int.reduceLE,Int.reduceToNat,Int.reduceAdd,Int.reduceSub,Int.reduceMul,ne_eq,decide_true,decide_false,tf19, he0, he4, he16, hat]
    refine hb3.aggK (by simp) ?_
    try simp -dsimp only [↓RE,↓c_seq,RU,RL,if_true,if_false,forall_const,implies_true,Nat.reduceLeDiff,Nat.reduceLT,pureOp,binPure,intBin,strBin,eqPure,isConstO,unPure,sliceLo,sliceHi,slicePure,slice3Pure,lenPure,capPure,minPure,maxPure,buildP,resK,endV,yieldE,↓reduceIte,Nat.reduceEqDiff,reduceCtorEq,Nat.reduceAdd,Nat.reduceMul,Nat.reduceSub,Int.reduceLT,Int.reduceLE,Int.reduceToNat,Int.reduceAdd,Int.reduceSub,Int.reduceMul,ne_eq,decide_true,decide_false,tf19, he0, he4, he16, hat]
    exact h w3 (Keep.above (g1.trans g2) k3 (fun k hk e => by omega))

end Go.Proofs.YtcnebgokbjpjnaaGreat
