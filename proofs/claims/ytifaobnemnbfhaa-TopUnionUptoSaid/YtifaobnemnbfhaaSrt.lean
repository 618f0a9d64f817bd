/- Rows of writes while they are sorted: what stays, what may turn; swaps. -/
import Derived.Test.YtifaobnemnbfhaaRowSet
import Derived.Test.YtifaobnemnbfhaaDraws
import Derived.Test.YtifaobnemnbfhaaSerL
import Derived.Test.YtifaobnemnbfhaaPureS
set_option linter.unusedVariables false
set_option linter.unusedSimpArgs false
set_option maxRecDepth 100000
namespace Go.Proofs.Ytifaobnemnbfhaa
open Go

theorem wcells_len (x : WrV) : x.cells.length = 6 := rfl
theorem wcells_one (x : WrV) : ∀ u ∈ x.cells, u.oneCell' = true := by
  intro u hu
  simp only [WrV.cells, List.mem_cons, List.not_mem_nil, or_false] at hu
  rcases hu with rfl | rfl | rfl | rfl | rfl | rfl <;> rfl
abbrev WRow (w : World) (v : Value) (L : List WrV) : Prop := LRow w 37 6 v L.length (L.flatMap WrV.cells)
/-- a row of writes between two steps of a sort. -/
structure Sr (w0 : World) (ad : Addr) (n c : Nat) (l0 : List WrV) (w : World) (L : List WrV) : Prop where
  keep : Keep (fun q => q = ad.block) w0 w
  row : LRow w 37 6 (.slice (some ad) n c) n (L.flatMap WrV.cells)
  len : L.length = n
  mem : ∀ x ∈ L, x ∈ l0
  lt : ad.block < w0.heap.size
section
variable {w0 w w' : World} {ad : Addr} {n c : Nat} {l0 L : List WrV}
theorem Sr.grow (h : Sr w0 ad n c l0 w L) (g : Grow w w') : Sr w0 ad n c l0 w' L := ⟨h.keep.then_grow g, h.row.grow g, h.len, h.mem, h.lt⟩
theorem Sr.elem (h : Sr w0 ad n c l0 w L) {k : Nat} {x : WrV} (hk : L[k]? = some x) {K : VK} {tk : Tok K} (hK : K (.agg x.cells.toArray)) : aggK w (ad.add (k * 6)) (some 6) K tk := h.row.elem wcells_len (by omega) hk hK
theorem Sr.cells (h : Sr w0 ad n c l0 w L) {k : Nat} {x : WrV} (hk : L[k]? = some x) : ∀ (j : Nat) v, x.cells[j]? = some v → w.cell? ((ad.add (k * 6)).add j) = some v := by
  obtain ⟨_, ad', hA, hc⟩ := h.row.rd.flat (size := 6) (fun a _ => wcells_len a) hk (by omega)
  injection hA with hA
  subst hA
  exact hc
theorem Sr.set {P : Program} (h : Sr w0 ad n c l0 w L) {k : Nat} (hk : k < n) {x : WrV} (hx : x ∈ l0) {K : WK} {tk : Tok K} (hK : ∀ w', Sr w0 ad n c l0 w' (L.set k x) → K w') : aggSt P w (ad.add (k * 6)) x.cells K tk :=
  h.row.stElem wcells_len wcells_one h.len hk x (fun w' hr k' => hK w' ⟨h.keep.trans k' (fun _ _ q => q) (fun _ _ q => q), hr, by rw [List.length_set]; exact h.len, fun y hy => by
    rcases List.mem_or_eq_of_mem_set hy with hy | hy
    · exact h.mem y hy
    · exact hy ▸ hx, h.lt⟩)
end
/-- what a function value that compares must do. -/
structure CmpOk (w0 : World) (ad : Addr) (l0 : List WrV) (f : FuncId) (cf : WrV → WrV → Int) : Prop where
  can : callable Try.prog f = true
  cmp : ∀ w, Keep (fun q => q = ad.block) w0 w → ∀ a ∈ l0, ∀ b ∈ l0, ∀ R : VWK, (∀ w', Grow w w' → R (.int .i64 (cf a b)) w') → CallsV Try.prog f [.agg a.cells.toArray, .agg b.cells.toArray] w R
theorem swapr_ok {w0 w : World} {ad : Addr} {n c : Nat} {l0 : List WrV} {P X M Y S : List WrV} {f : FuncId} (h : Sr w0 ad n c l0 w (P ++ (X ++ (M ++ (Y ++ S))))) (hXY : X.length = Y.length) (hn : n ≤ 4611686018427387904) {a b m : Int} (ha : a = P.length) (hb : b = P.length + X.length + M.length) (hm : m = X.length) {R : VWK}
    (hR : ∀ w', Sr w0 ad n c l0 w' (P ++ (Y ++ (M ++ (X ++ S)))) → R (.tuple #[]) w') :
    CallsV Try.prog 70 [.slice (some ad) n c, .int .i64 a, .int .i64 b, .int .i64 m, .func (.func f) #[] #[]] w R := by
  have hlen := h.len
  simp only [List.length_append] at hlen
  subst ha hb hm
  refine calls_of_wpC mixed Try.func70 rfl (by kernel_rfl) ?_
  intro e he
  have he0 := he 0
  have he1 := he 1
  have he2 := he 2
  have he3 := he 3
  have he4 := he 4
  simp only [List.getD_cons_zero, List.getD_cons_succ] at he0 he1 he2 he3 he4
  clear he
  repeat (first | rw [c_seq] | simp -dsimp only [↓RE,RU,RL,if_true,if_false,forall_const,implies_true,Nat.reduceLeDiff,Nat.reduceLT,pureOp,binPure,intBin,strBin,eqPure,isConstO,unPure,sliceLo,sliceHi,slicePure,slice3Pure,lenPure,capPure,minPure,maxPure,buildP,resK,endV,yieldE,↓reduceIte,Nat.reduceEqDiff,reduceCtorEq,Nat.reduceAdd,Nat.reduceMul,Nat.reduceSub,Int.reduceLT,Int.reduceLE,Int.reduceToNat,Int.reduceAdd,Int.reduceSub,Int.reduceMul,ne_eq,decide_true,decide_false,tf70, he0])
  refine wpLoop_intro (fun e' w' => (e' 0 = .slice (some ad) n c ∧ e' 1 = .int .i64 (P.length : Int) ∧ e' 2 = .int .i64 ((P.length : Int) + X.length + M.length) ∧ e' 3 = .int .i64 (X.length : Int)) ∧ ∃ k : Nat, k ≤ X.length ∧ e' 10 = .int .i64 (k : Int) ∧ Sr w0 ad n c l0 w' (P ++ ((Y.take k ++ X.drop k) ++ (M ++ ((X.take k ++ Y.drop k) ++ S)))))
    (fun e' _ => X.length - (envInt (e' 10)).toNat) ⟨⟨?_, ?_, ?_, ?_⟩, 0, Nat.zero_le _, ?_, ?_⟩ ?_
  · simp -dsimp only [↓RE,RU,RL,if_true,if_false,↓reduceIte,Nat.reduceEqDiff,reduceCtorEq,decide_true,decide_false, he0]
  · simp -dsimp only [↓RE,RU,RL,if_true,if_false,↓reduceIte,Nat.reduceEqDiff,reduceCtorEq,decide_true,decide_false, he1]
  · simp -dsimp only [↓RE,RU,RL,if_true,if_false,↓reduceIte,Nat.reduceEqDiff,reduceCtorEq,decide_true,decide_false, he2]
  · simp -dsimp only [↓RE,RU,RL,if_true,if_false,↓reduceIte,Nat.reduceEqDiff,reduceCtorEq,decide_true,decide_false, he3]
  · simp -dsimp only [↓RE,RU,RL,if_true,if_false,↓reduceIte,Nat.reduceEqDiff,reduceCtorEq,decide_true,decide_false, Int.cast_ofNat_Int]
  · simpa using h
  clear he0 he1 he2 he3 he4 e h
  rintro e wz ⟨⟨he0, he1, he2, he3⟩, k, hk, he10, h⟩
  rcases Nat.lt_or_ge k X.length with hkl | hkl
  · have hd : decide ((k : Int) < (X.length : Int)) = true := decide_eq_true (by omega)
    have hmu : (envInt (e 10)).toNat = k := by rw [he10]; exact Int.toNat_natCast k
    obtain ⟨x, hx⟩ : ∃ x, x = X[k] := ⟨_, rfl⟩
    obtain ⟨y, hy⟩ : ∃ y, y = Y[k] := ⟨_, rfl⟩
    have eX : X.drop k = x :: X.drop (k + 1) := by rw [List.drop_eq_getElem_cons hkl, ← hx]
    have eY : Y.drop k = y :: Y.drop (k + 1) := by rw [List.drop_eq_getElem_cons (by omega), ← hy]
    have tX : X.take (k + 1) = X.take k ++ [x] := by rw [List.take_succ_eq_append_getElem hkl, ← hx]
    have tY : Y.take (k + 1) = Y.take k ++ [y] := by rw [List.take_succ_eq_append_getElem (by omega), ← hy]
    have e1 : P ++ ((Y.take k ++ X.drop k) ++ (M ++ ((X.take k ++ Y.drop k) ++ S))) = (P ++ Y.take k) ++ x :: ((X.drop (k + 1) ++ M ++ X.take k) ++ y :: (Y.drop (k + 1) ++ S)) := by
      rw [eX, eY]; simp [List.append_assoc]
    have e2 : P ++ ((Y.take (k + 1) ++ X.drop (k + 1)) ++ (M ++ ((X.take (k + 1) ++ Y.drop (k + 1)) ++ S))) = (P ++ Y.take k) ++ y :: ((X.drop (k + 1) ++ M ++ X.take k) ++ x :: (Y.drop (k + 1) ++ S)) := by
      rw [tX, tY]; simp [List.append_assoc]
    rw [e1] at h
    have l1 : (P ++ Y.take k).length = P.length + k := by simp only [List.length_append, List.length_take]; omega
    have l2 : (X.drop (k + 1) ++ M ++ X.take k).length = X.length - (k + 1) + M.length + k := by simp only [List.length_append, List.length_take, List.length_drop]; omega
    obtain ⟨s1, s2, s3, s4⟩ := swap_at (P ++ Y.take k) (X.drop (k + 1) ++ M ++ X.take k) (Y.drop (k + 1) ++ S) x y
    generalize (P ++ Y.take k) ++ x :: ((X.drop (k + 1) ++ M ++ X.take k) ++ y :: (Y.drop (k + 1) ++ S)) = L at h s1 s2 s3 s4
    rw [← e2] at s3
    rw [l1] at s1 s2 s3
    rw [l2, show P.length + k + 1 + (X.length - (k + 1) + M.length + k) = P.length + X.length + M.length + k by omega] at s2 s3
    have w1 : IntKind.i64.wrap ((P.length : Int) + (k : Int)) = ((P.length + k : Nat) : Int) := by rw [wrap_i64_in (by omega) (by omega)]; omega
    have w2 : IntKind.i64.wrap ((P.length : Int) + X.length + M.length + (k : Int)) = ((P.length + X.length + M.length + k : Nat) : Int) := by rw [wrap_i64_in (by omega) (by omega)]; omega
    have w3 : IntKind.i64.wrap ((k : Int) + 1) = ((k + 1 : Nat) : Int) := by rw [wrap_i64_in (by omega) (by omega)]; omega
    repeat (first | rw [c_seq] | simp -dsimp only [↓RE,RU,RL,if_true,if_false,forall_const,implies_true,Nat.reduceLeDiff,Nat.reduceLT,pureOp,binPure,intBin,strBin,eqPure,isConstO,unPure,sliceLo,sliceHi,slicePure,slice3Pure,lenPure,capPure,minPure,maxPure,buildP,resK,endV,yieldE,↓reduceIte,Nat.reduceEqDiff,reduceCtorEq,Nat.reduceAdd,Nat.reduceMul,Nat.reduceSub,Int.reduceLT,Int.reduceLE,Int.reduceToNat,Int.reduceAdd,Int.reduceSub,Int.reduceMul,ne_eq,decide_true,decide_false,tf70, he10, he3, hd])
    have hd := h.grow (Grow.drew wz)
    refine wpDraw_swap (Sr w0 ad n c l0 · L) [0, 1, 2, 3, 4, 5, 6, 7, 8, 9, 10, 11, 12, 13, 14, 15, 16, 17, 18, 19, 20] 21 [21, 22, 23] (by kernel_rfl) hd ?_
    simp only [List.filterMap_cons, List.filterMap_nil, planL, List.getElem?_toArray, List.getElem?_cons_zero, List.getElem?_cons_succ, Option.toList_some, List.map_cons, List.map_nil, List.cons_append, List.nil_append]
    repeat (first | rw [c_seq] | simp -dsimp only [↓RE,RU,RL,if_true,if_false,forall_const,implies_true,Nat.reduceLeDiff,Nat.reduceLT,pureOp,binPure,intBin,strBin,eqPure,isConstO,unPure,sliceLo,sliceHi,slicePure,slice3Pure,lenPure,capPure,minPure,maxPure,buildP,resK,endV,yieldE,↓reduceIte,Nat.reduceEqDiff,reduceCtorEq,Nat.reduceAdd,Nat.reduceMul,Nat.reduceSub,Int.reduceLT,Int.reduceLE,Int.reduceToNat,Int.reduceAdd,Int.reduceSub,Int.reduceMul,ne_eq,decide_true,decide_false,tf70, he0, he1, he2, he10, w1, w2, Int.toNat_natCast])
    refine ⟨⟨by omega, by omega⟩, y.cells, rfl, fun w' hw' => hw'.cells s2, ?_⟩
    repeat (first | rw [c_seq] | simp -dsimp only [↓RE,RU,RL,if_true,if_false,forall_const,implies_true,Nat.reduceLeDiff,Nat.reduceLT,pureOp,binPure,intBin,strBin,eqPure,isConstO,unPure,sliceLo,sliceHi,slicePure,slice3Pure,lenPure,capPure,minPure,maxPure,buildP,resK,endV,yieldE,↓reduceIte,Nat.reduceEqDiff,reduceCtorEq,Nat.reduceAdd,Nat.reduceMul,Nat.reduceSub,Int.reduceLT,Int.reduceLE,Int.reduceToNat,Int.reduceAdd,Int.reduceSub,Int.reduceMul,ne_eq,decide_true,decide_false,tf70, he0, he1, he2, he10, w1, w2, Int.toNat_natCast])
    refine ⟨⟨by omega, by omega⟩, x.cells, rfl, fun w' hw' => hw'.cells s1, ?_⟩
    repeat (first | rw [c_seq] | simp -dsimp only [↓RE,RU,RL,if_true,if_false,forall_const,implies_true,Nat.reduceLeDiff,Nat.reduceLT,pureOp,binPure,intBin,strBin,eqPure,isConstO,unPure,sliceLo,sliceHi,slicePure,slice3Pure,lenPure,capPure,minPure,maxPure,buildP,resK,endV,yieldE,↓reduceIte,Nat.reduceEqDiff,reduceCtorEq,Nat.reduceAdd,Nat.reduceMul,Nat.reduceSub,Int.reduceLT,Int.reduceLE,Int.reduceToNat,Int.reduceAdd,Int.reduceSub,Int.reduceMul,ne_eq,decide_true,decide_false,tf70, he0, he1, he2, he10, w1, w2, Int.toNat_natCast])
    refine ⟨⟨by omega, by omega⟩, rfl, hd.set (k := P.length + k) (by omega) (hd.mem _ (List.mem_of_getElem? s2)) (fun w4 h4 => ?_)⟩
    repeat (first | rw [c_seq] | simp -dsimp only [↓RE,RU,RL,if_true,if_false,forall_const,implies_true,Nat.reduceLeDiff,Nat.reduceLT,pureOp,binPure,intBin,strBin,eqPure,isConstO,unPure,sliceLo,sliceHi,slicePure,slice3Pure,lenPure,capPure,minPure,maxPure,buildP,resK,endV,yieldE,↓reduceIte,Nat.reduceEqDiff,reduceCtorEq,Nat.reduceAdd,Nat.reduceMul,Nat.reduceSub,Int.reduceLT,Int.reduceLE,Int.reduceToNat,Int.reduceAdd,Int.reduceSub,Int.reduceMul,ne_eq,decide_true,decide_false,tf70, he0, he1, he2, he10, w1, w2, Int.toNat_natCast])
    refine ⟨⟨by omega, by omega⟩, rfl, h4.set (k := P.length + X.length + M.length + k) (by omega) (hd.mem _ (List.mem_of_getElem? s1)) (fun w5 h5 => ?_)⟩
    rw [s3] at h5
    repeat (first | rw [c_seq] | simp -dsimp only [↓RE,RU,RL,if_true,if_false,forall_const,implies_true,Nat.reduceLeDiff,Nat.reduceLT,pureOp,binPure,intBin,strBin,eqPure,isConstO,unPure,sliceLo,sliceHi,slicePure,slice3Pure,lenPure,capPure,minPure,maxPure,buildP,resK,endV,yieldE,↓reduceIte,Nat.reduceEqDiff,reduceCtorEq,Nat.reduceAdd,Nat.reduceMul,Nat.reduceSub,Int.reduceLT,Int.reduceLE,Int.reduceToNat,Int.reduceAdd,Int.reduceSub,Int.reduceMul,ne_eq,decide_true,decide_false,tf70, he10, w3])
    refine hold_intro ⟨⟨⟨?_, ?_, ?_, ?_⟩, k + 1, hkl, ?_, h5⟩, ?_⟩
    · simp -dsimp only [↓RE,RU,RL,if_true,if_false,↓reduceIte,Nat.reduceEqDiff,reduceCtorEq,decide_true,decide_false, he0]
    · simp -dsimp only [↓RE,RU,RL,if_true,if_false,↓reduceIte,Nat.reduceEqDiff,reduceCtorEq,decide_true,decide_false, he1]
    · simp -dsimp only [↓RE,RU,RL,if_true,if_false,↓reduceIte,Nat.reduceEqDiff,reduceCtorEq,decide_true,decide_false, he2]
    · simp -dsimp only [↓RE,RU,RL,if_true,if_false,↓reduceIte,Nat.reduceEqDiff,reduceCtorEq,decide_true,decide_false, he3]
    · simp -dsimp only [↓RE,RU,RL,if_true,if_false,↓reduceIte,Nat.reduceEqDiff,reduceCtorEq,decide_true,decide_false, he10, w3]
    · rw [hmu]
      simp -dsimp only [↓RE,↓c_seq,RU,RL,if_true,if_false,forall_const,implies_true,Nat.reduceLeDiff,Nat.reduceLT,pureOp,binPure,intBin,strBin,eqPure,isConstO,unPure,sliceLo,sliceHi,slicePure,slice3Pure,lenPure,capPure,minPure,maxPure,buildP,resK,endV,yieldE,↓reduceIte,Nat.reduceEqDiff,reduceCtorEq,Nat.reduceAdd,Nat.reduceMul,Nat.reduceSub,Int.reduceLT,Int.reduceLE,Int.reduceToNat,Int.reduceAdd,Int.reduceSub,Int.reduceMul,ne_eq,decide_true,decide_false,tf70, he10, w3, envInt, Int.toNat_natCast]
      omega
  · have hd : decide ((k : Int) < (X.length : Int)) = false := decide_eq_false (by omega)
    have hk' : k = X.length := by omega
    subst hk'
    rw [List.take_of_length_le (by omega), List.drop_eq_nil_of_le (Nat.le_refl _), List.take_of_length_le (Nat.le_refl _), List.drop_eq_nil_of_le (by omega), List.append_nil, List.append_nil] at h
    repeat (first | rw [c_seq] | simp -dsimp only [↓RE,RU,RL,if_true,if_false,forall_const,implies_true,Nat.reduceLeDiff,Nat.reduceLT,pureOp,binPure,intBin,strBin,eqPure,isConstO,unPure,sliceLo,sliceHi,slicePure,slice3Pure,lenPure,capPure,minPure,maxPure,buildP,resK,endV,yieldE,↓reduceIte,Nat.reduceEqDiff,reduceCtorEq,Nat.reduceAdd,Nat.reduceMul,Nat.reduceSub,Int.reduceLT,Int.reduceLE,Int.reduceToNat,Int.reduceAdd,Int.reduceSub,Int.reduceMul,ne_eq,decide_true,decide_false,tf70, he10, he3, hd])
    exact hR wz h

end Go.Proofs.Ytifaobnemnbfhaa
