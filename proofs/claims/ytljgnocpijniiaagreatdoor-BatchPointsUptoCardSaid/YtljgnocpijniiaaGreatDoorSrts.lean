/- Rows of writes while they are sorted: what stays, what may turn; swaps. -/
/- slices.rotateCmpFunc: two parts of a row of writes change places. -/
/- slices.insertionSortCmpFunc of writes. -/
import Derived.Test.YtljgnocpijniiaaGreatDoorRowSet
import Derived.Test.YtljgnocpijniiaaGreatDoorDraws
import Derived.Test.YtljgnocpijniiaaGreatDoorSerL
import Derived.Test.YtljgnocpijniiaaGreatDoorPureS
set_option linter.unusedVariables false
set_option linter.unusedSimpArgs false
set_option maxRecDepth 100000
namespace Go.Proofs.YtljgnocpijniiaaGreatDoor
open Go

theorem wcells_len (x : WrV) : x.cells.length = 6 := rfl
theorem wcells_one (x : WrV) : ∀ u ∈ x.cells, u.oneCell' = true := by
  intro u hu
  simp only [WrV.cells, List.mem_cons, List.not_mem_nil, or_false] at hu
  rcases hu with rfl | rfl | rfl | rfl | rfl | rfl <;> rfl
abbrev WRow (w : World) (v : Value) (L : List WrV) : Prop := LRow w 60 6 v L.length (L.flatMap WrV.cells)
/-- a row of writes between two steps of a sort. -/
structure Sr (w0 : World) (ad : Addr) (n c : Nat) (l0 : List WrV) (w : World) (L : List WrV) : Prop where
  keep : Keep (fun q => q = ad.block) w0 w
  row : LRow w 60 6 (.slice (some ad) n c) n (L.flatMap WrV.cells)
  len : L.length = n
  mem : ∀ x ∈ L, x ∈ l0
  lt : ad.block < w0.heap.size
section
variable {w0 w w' : World} {ad : Addr} {n c : Nat} {l0 L : List WrV}
theorem Sr.grow (h : Sr w0 ad n c l0 w L) (g : Grow w w') : Sr w0 ad n c l0 w' L := ⟨h.keep.then_grow g, h.row.grow g, h.len, h.mem, h.lt⟩
theorem Sr.elem (h : Sr w0 ad n c l0 w L) {k : Nat} {x : WrV} (hk : L[k]? = some x) {K : VK} {tk : Tok K} (hK : K (.agg x.cells.toArray)) : aggK w (ad.add (k * 6)) (some 6) K tk := h.row.elem wcells_len (by omega) hk hK
theorem Sr.cells (h : Sr w0 ad n c l0 w L) {k : Nat} {x : WrV} (hk : L[k]? = some x) : ∀ (j : Nat) v, x.cells[j]? = some v → w.cell? ((ad.add (k * 6)).add j) = some v := by
  obtain ⟨_, ad', hA, hc⟩ := h.row.rd.flat (size := 6) (fun a _ => wcells_len a) hk (by omega)
  injection hA with hA
  subst hA
  exact hc
theorem Sr.set {P : Program} (h : Sr w0 ad n c l0 w L) {k : Nat} (hk : k < n) {x : WrV} (hx : x ∈ l0) {K : WK} {tk : Tok K} (hK : ∀ w', Sr w0 ad n c l0 w' (L.set k x) → K w') : aggSt P w (ad.add (k * 6)) x.cells K tk :=
  h.row.stElem wcells_len wcells_one h.len hk x (fun w' hr k' => hK w' ⟨h.keep.trans k' (fun _ _ q => q) (fun _ _ q => q), hr, by rw [List.length_set]; exact h.len, fun y hy => by
    rcases List.mem_or_eq_of_mem_set hy with hy | hy
    · exact h.mem y hy
    · exact hy ▸ hx, h.lt⟩)
end
/-- what a function value that compares must do. -/
structure CmpOk (w0 : World) (ad : Addr) (l0 : List WrV) (f : FuncId) (cf : WrV → WrV → Int) : Prop where
  can : callable Tryz.prog f = true
  cmp : ∀ w, Keep (fun q => q = ad.block) w0 w → ∀ a ∈ l0, ∀ b ∈ l0, ∀ R : VWK, (∀ w', Grow w w' → R (.int .i64 (cf a b)) w') → CallsV Tryz.prog f [.agg a.cells.toArray, .agg b.cells.toArray] w R
theorem swapr_ok {w0 w : World} {ad : Addr} {n c : Nat} {l0 : List WrV} {P X M Y S : List WrV} {f : FuncId} (h : Sr w0 ad n c l0 w (P ++ (X ++ (M ++ (Y ++ S))))) (hXY : X.length = Y.length) (hn : n ≤ 4611686018427387904) {a b m : Int} (ha : a = P.length) (hb : b = P.length + X.length + M.length) (hm : m = X.length) {R : VWK}
    (hR : ∀ w', Sr w0 ad n c l0 w' (P ++ (Y ++ (M ++ (X ++ S)))) → R (.tuple #[]) w') :
    CallsV Tryz.prog 160 [.slice (some ad) n c, .int .i64 a, .int .i64 b, .int .i64 m, .func (.func f) #[] #[]] w R := by
  have hlen := h.len
  simp only [List.length_append] at hlen
  subst ha hb hm
  refine calls_of_wpC mixed Tryz.func160 rfl (by kernel_rfl) ?_
  intro e he
  have he0 := he 0
  have he1 := he 1
  have he2 := he 2
  have he3 := he 3
  have he4 := he 4
  simp only [List.getD_cons_zero, List.getD_cons_succ] at he0 he1 he2 he3 he4
  clear he
  repeat (first | rw [c_seq] | simp -dsimp only [↓RE,RU,RL,Nat.reduceLeDiff,Nat.reduceLT,pureOp,binPure,intBin,strBin,resK,endV,↓reduceIte,Nat.reduceEqDiff,reduceCtorEq,Nat.reduceAdd,Nat.reduceMul,Int.reduceLT,Int.reduceLE,Int.reduceToNat,Int.reduceAdd,decide_true,decide_false,tf160, he0])
  refine wpLoop_intro (fun e' w' => (e' 0 = .slice (some ad) n c ∧ e' 1 = .int .i64 (P.length : Int) ∧ e' 2 = .int .i64 ((P.length : Int) + X.length + M.length) ∧ e' 3 = .int .i64 (X.length : Int)) ∧ ∃ k : Nat, k ≤ X.length ∧ e' 10 = .int .i64 (k : Int) ∧ Sr w0 ad n c l0 w' (P ++ ((Y.take k ++ X.drop k) ++ (M ++ ((X.take k ++ Y.drop k) ++ S)))))
    (fun e' _ => X.length - (envInt (e' 10)).toNat) ⟨⟨?_, ?_, ?_, ?_⟩, 0, Nat.zero_le _, ?_, ?_⟩ ?_
  · simp -dsimp only [↓RE,RU,RL,↓reduceIte,Nat.reduceEqDiff,reduceCtorEq,decide_true,decide_false, he0]
  · simp -dsimp only [↓RE,RU,RL,↓reduceIte,Nat.reduceEqDiff,reduceCtorEq,decide_true,decide_false, he1]
  · simp -dsimp only [↓RE,RU,RL,↓reduceIte,Nat.reduceEqDiff,reduceCtorEq,decide_true,decide_false, he2]
  · simp -dsimp only [↓RE,RU,RL,↓reduceIte,Nat.reduceEqDiff,reduceCtorEq,decide_true,decide_false, he3]
  · simp -dsimp only [↓RE,RU,RL,↓reduceIte,Nat.reduceEqDiff,reduceCtorEq,decide_true,decide_false, Int.cast_ofNat_Int]
  · simpa using h
  clear he0 he1 he2 he3 he4 e h
  rintro e wz ⟨⟨he0, he1, he2, he3⟩, k, hk, he10, h⟩
  rcases Nat.lt_or_ge k X.length with hkl | hkl
  · have hd : decide ((k : Int) < (X.length : Int)) = true := decide_eq_true (by omega)
    have hmu : (envInt (e 10)).toNat = k := by rw [he10]; exact Int.toNat_natCast k
    obtain ⟨x, hx⟩ : ∃ x, x = X[k] := ⟨_, rfl⟩
    obtain ⟨y, hy⟩ : ∃ y, y = Y[k] := ⟨_, rfl⟩
    have eX : X.drop k = x :: X.drop (k + 1) := by rw [List.drop_eq_getElem_cons hkl, ← hx]
    have eY : Y.drop k = y :: Y.drop (k + 1) := by rw [List.drop_eq_getElem_cons (by omega), ← hy]
    have tX : X.take (k + 1) = X.take k ++ [x] := by rw [List.take_succ_eq_append_getElem hkl, ← hx]
    have tY : Y.take (k + 1) = Y.take k ++ [y] := by rw [List.take_succ_eq_append_getElem (by omega), ← hy]
    have e1 : P ++ ((Y.take k ++ X.drop k) ++ (M ++ ((X.take k ++ Y.drop k) ++ S))) = (P ++ Y.take k) ++ x :: ((X.drop (k + 1) ++ M ++ X.take k) ++ y :: (Y.drop (k + 1) ++ S)) := by
      rw [eX, eY]; simp [List.append_assoc]
    have e2 : P ++ ((Y.take (k + 1) ++ X.drop (k + 1)) ++ (M ++ ((X.take (k + 1) ++ Y.drop (k + 1)) ++ S))) = (P ++ Y.take k) ++ y :: ((X.drop (k + 1) ++ M ++ X.take k) ++ x :: (Y.drop (k + 1) ++ S)) := by
      rw [tX, tY]; simp [List.append_assoc]
    rw [e1] at h
    have l1 : (P ++ Y.take k).length = P.length + k := by simp only [List.length_append, List.length_take]; omega
    have l2 : (X.drop (k + 1) ++ M ++ X.take k).length = X.length - (k + 1) + M.length + k := by simp only [List.length_append, List.length_take, List.length_drop]; omega
    obtain ⟨s1, s2, s3, s4⟩ := swap_at (P ++ Y.take k) (X.drop (k + 1) ++ M ++ X.take k) (Y.drop (k + 1) ++ S) x y
    generalize (P ++ Y.take k) ++ x :: ((X.drop (k + 1) ++ M ++ X.take k) ++ y :: (Y.drop (k + 1) ++ S)) = L at h s1 s2 s3 s4
    rw [← e2] at s3
    rw [l1] at s1 s2 s3
    rw [l2, show P.length + k + 1 + (X.length - (k + 1) + M.length + k) = P.length + X.length + M.length + k by omega] at s2 s3
    have w1 : IntKind.i64.wrap ((P.length : Int) + (k : Int)) = ((P.length + k : Nat) : Int) := by rw [wrap_i64_in (by omega) (by omega)]; omega
    have w2 : IntKind.i64.wrap ((P.length : Int) + X.length + M.length + (k : Int)) = ((P.length + X.length + M.length + k : Nat) : Int) := by rw [wrap_i64_in (by omega) (by omega)]; omega
    have w3 : IntKind.i64.wrap ((k : Int) + 1) = ((k + 1 : Nat) : Int) := by rw [wrap_i64_in (by omega) (by omega)]; omega
    repeat (first | rw [c_seq] | simp -dsimp only [↓RE,RU,RL,Nat.reduceLeDiff,Nat.reduceLT,pureOp,binPure,intBin,strBin,resK,endV,↓reduceIte,Nat.reduceEqDiff,reduceCtorEq,Nat.reduceAdd,Nat.reduceMul,Int.reduceLT,Int.reduceLE,Int.reduceToNat,Int.reduceAdd,decide_true,decide_false,tf160, he10, he3, hd])
    have hd := h.grow (Grow.drew wz)
    refine wpDraw_swap (Sr w0 ad n c l0 · L) [0, 1, 2, 3, 4, 5, 6, 7, 8, 9, 10, 11, 12, 13, 14, 15, 16, 17, 18, 19, 20] 21 [21, 22, 23] (by kernel_rfl) hd ?_
    simp only [List.filterMap_cons, List.filterMap_nil, planL, List.getElem?_toArray, List.getElem?_cons_zero, List.getElem?_cons_succ, Option.toList_some, List.map_cons, List.map_nil, List.cons_append, List.nil_append]
    repeat (first | rw [c_seq] | simp -dsimp only [↓RE,RU,RL,Nat.reduceLeDiff,Nat.reduceLT,pureOp,binPure,intBin,strBin,resK,endV,↓reduceIte,Nat.reduceEqDiff,reduceCtorEq,Nat.reduceAdd,Nat.reduceMul,Int.reduceLT,Int.reduceLE,Int.reduceToNat,Int.reduceAdd,decide_true,decide_false,tf160, he0, he1, he2, he10, w1, w2, Int.toNat_natCast])
    refine ⟨⟨by omega, by omega⟩, y.cells, rfl, fun w' hw' => hw'.cells s2, ?_⟩
    repeat (first | rw [c_seq] | simp -dsimp only [↓RE,RU,RL,Nat.reduceLeDiff,Nat.reduceLT,pureOp,binPure,intBin,strBin,resK,endV,↓reduceIte,Nat.reduceEqDiff,reduceCtorEq,Nat.reduceAdd,Nat.reduceMul,Int.reduceLT,Int.reduceLE,Int.reduceToNat,Int.reduceAdd,decide_true,decide_false,tf160, he0, he1, he2, he10, w1, w2, Int.toNat_natCast])
    refine ⟨⟨by omega, by omega⟩, x.cells, rfl, fun w' hw' => hw'.cells s1, ?_⟩
    repeat (first | rw [c_seq] | simp -dsimp only [↓RE,RU,RL,Nat.reduceLeDiff,Nat.reduceLT,pureOp,binPure,intBin,strBin,resK,endV,↓reduceIte,Nat.reduceEqDiff,reduceCtorEq,Nat.reduceAdd,Nat.reduceMul,Int.reduceLT,Int.reduceLE,Int.reduceToNat,Int.reduceAdd,decide_true,decide_false,tf160, he0, he1, he2, he10, w1, w2, Int.toNat_natCast])
    refine ⟨⟨by omega, by omega⟩, rfl, hd.set (k := P.length + k) (by omega) (hd.mem _ (List.mem_of_getElem? s2)) (fun w4 h4 => ?_)⟩
    repeat (first | rw [c_seq] | simp -dsimp only [↓RE,RU,RL,Nat.reduceLeDiff,Nat.reduceLT,pureOp,binPure,intBin,strBin,resK,endV,↓reduceIte,Nat.reduceEqDiff,reduceCtorEq,Nat.reduceAdd,Nat.reduceMul,Int.reduceLT,Int.reduceLE,Int.reduceToNat,Int.reduceAdd,decide_true,decide_false,tf160, he0, he1, he2, he10, w1, w2, Int.toNat_natCast])
    refine ⟨⟨by omega, by omega⟩, rfl, h4.set (k := P.length + X.length + M.length + k) (by omega) (hd.mem _ (List.mem_of_getElem? s1)) (fun w5 h5 => ?_)⟩
    rw [s3] at h5
    repeat (first | rw [c_seq] | simp -dsimp only [↓RE,RU,RL,Nat.reduceLeDiff,Nat.reduceLT,pureOp,binPure,intBin,strBin,resK,endV,↓reduceIte,Nat.reduceEqDiff,reduceCtorEq,Nat.reduceAdd,Nat.reduceMul,Int.reduceLT,Int.reduceLE,Int.reduceToNat,Int.reduceAdd,decide_true,decide_false,tf160, he10, w3])
    refine hold_intro ⟨⟨⟨?_, ?_, ?_, ?_⟩, k + 1, hkl, ?_, h5⟩, ?_⟩
    · simp -dsimp only [↓RE,RU,RL,↓reduceIte,Nat.reduceEqDiff,reduceCtorEq,decide_true,decide_false, he0]
    · simp -dsimp only [↓RE,RU,RL,↓reduceIte,Nat.reduceEqDiff,reduceCtorEq,decide_true,decide_false, he1]
    · simp -dsimp only [↓RE,RU,RL,↓reduceIte,Nat.reduceEqDiff,reduceCtorEq,decide_true,decide_false, he2]
    · simp -dsimp only [↓RE,RU,RL,↓reduceIte,Nat.reduceEqDiff,reduceCtorEq,decide_true,decide_false, he3]
    · simp -dsimp only [↓RE,RU,RL,↓reduceIte,Nat.reduceEqDiff,reduceCtorEq,decide_true,decide_false, he10, w3]
    · rw [hmu]
      simp -dsimp only [↓RE,↓c_seq,RU,RL,Nat.reduceLeDiff,Nat.reduceLT,pureOp,binPure,intBin,strBin,resK,endV,↓reduceIte,Nat.reduceEqDiff,reduceCtorEq,Nat.reduceAdd,Nat.reduceMul,Int.reduceLT,Int.reduceLE,Int.reduceToNat,Int.reduceAdd,decide_true,decide_false,tf160, he10, w3, envInt, Int.toNat_natCast]
      omega
  · have hd : decide ((k : Int) < (X.length : Int)) = false := decide_eq_false (by omega)
    have hk' : k = X.length := by omega
    subst hk'
    rw [List.take_of_length_le (by omega), List.drop_eq_nil_of_le (Nat.le_refl _), List.take_of_length_le (Nat.le_refl _), List.drop_eq_nil_of_le (by omega), List.append_nil, List.append_nil] at h
    repeat (first | rw [c_seq] | simp -dsimp only [↓RE,RU,RL,Nat.reduceLeDiff,Nat.reduceLT,pureOp,binPure,intBin,strBin,resK,endV,↓reduceIte,Nat.reduceEqDiff,reduceCtorEq,Nat.reduceAdd,Nat.reduceMul,Int.reduceLT,Int.reduceLE,Int.reduceToNat,Int.reduceAdd,decide_true,decide_false,tf160, he10, he3, hd])
    exact hR wz h

end Go.Proofs.YtljgnocpijniiaaGreatDoor

namespace Go.Proofs.YtljgnocpijniiaaGreatDoor
open Go

theorem rotate_ok {w0 w : World} {ad : Addr} {n c : Nat} {l0 : List WrV} {P X Y S : List WrV} {f : FuncId} (h : Sr w0 ad n c l0 w (P ++ (X ++ (Y ++ S)))) (hX : 0 < X.length) (hY : 0 < Y.length) (hn : n ≤ 4611686018427387904) {a m b : Int} (ha : a = P.length) (hm : m = P.length + X.length) (hb : b = P.length + X.length + Y.length) {R : VWK}
    (hR : ∀ w', Sr w0 ad n c l0 w' (P ++ (Y ++ (X ++ S))) → R (.tuple #[]) w') :
    CallsV Tryz.prog 146 [.slice (some ad) n c, .int .i64 a, .int .i64 m, .int .i64 b, .func (.func f) #[] #[]] w R := by
  have hlen := h.len
  simp only [List.length_append] at hlen
  subst ha hm hb
  have w1 : IntKind.i64.wrap ((P.length : Int) + X.length - P.length) = (X.length : Int) := by rw [wrap_i64_in (by omega) (by omega)]; omega
  have w2 : IntKind.i64.wrap ((P.length : Int) + X.length + Y.length - (P.length + X.length)) = (Y.length : Int) := by rw [wrap_i64_in (by omega) (by omega)]; omega
  generalize hT : P ++ (Y ++ (X ++ S)) = T at hR
  obtain ⟨m, hm⟩ : ∃ m : Nat, m = P.length + X.length := ⟨_, rfl⟩
  have hmn : m + Y.length ≤ n := by omega
  refine calls_of_wpC mixed Tryz.func146 rfl (by kernel_rfl) ?_
  intro e he
  have he0 := he 0
  have he1 := he 1
  have he2 := he 2
  have he3 := he 3
  have he4 := he 4
  simp only [List.getD_cons_zero, List.getD_cons_succ] at he0 he1 he2 he3 he4
  clear he
  repeat (first | rw [c_seq] | simp -dsimp only [↓RE,RU,RL,Nat.reduceLeDiff,Nat.reduceLT,pureOp,binPure,intBin,strBin,eqPure,isConstO,resK,endV,↓reduceIte,Nat.reduceEqDiff,reduceCtorEq,Nat.reduceAdd,Nat.reduceMul,Int.reduceLT,Int.reduceLE,Int.reduceToNat,Int.reduceAdd,Int.reduceSub,ne_eq,decide_true,decide_false,tf146, he0, he1, he2, he3, w1, w2])
  refine wpLoop_intro (fun e' w' => (e' 0 = .slice (some ad) n c ∧ e' 2 = .int .i64 (m : Int) ∧ e' 4 = .func (.func f) #[] #[]) ∧ ∃ P A B S, 0 < A.length ∧ 0 < B.length ∧ e' 10 = .int .i64 (A.length : Int) ∧ e' 11 = .int .i64 (B.length : Int) ∧ P.length + A.length = m ∧ P ++ (B ++ (A ++ S)) = T ∧ Sr w0 ad n c l0 w' (P ++ (A ++ (B ++ S))))
    (fun e' _ => (envInt (e' 10)).toNat + (envInt (e' 11)).toNat) ⟨⟨?_, ?_, ?_⟩, P, X, Y, S, hX, hY, ?_, ?_, hm.symm, hT, h⟩ ?_
  · simp -dsimp only [↓RE,RU,RL,↓reduceIte,Nat.reduceEqDiff,reduceCtorEq,decide_true,decide_false, he0]
  · rw [hm]; simp -dsimp only [↓RE,↓c_seq,RU,RL,Nat.reduceLeDiff,Nat.reduceLT,pureOp,binPure,intBin,strBin,eqPure,isConstO,resK,endV,↓reduceIte,Nat.reduceEqDiff,reduceCtorEq,Nat.reduceAdd,Nat.reduceMul,Int.reduceLT,Int.reduceLE,Int.reduceToNat,Int.reduceAdd,Int.reduceSub,ne_eq,decide_true,decide_false,tf146, he2, Int.natCast_add]
  · simp -dsimp only [↓RE,RU,RL,↓reduceIte,Nat.reduceEqDiff,reduceCtorEq,decide_true,decide_false, he4]
  · simp -dsimp only [↓RE,RU,RL,↓reduceIte,Nat.reduceEqDiff,reduceCtorEq,decide_true,decide_false, he0, w1, w2]
  · simp -dsimp only [↓RE,RU,RL,↓reduceIte,Nat.reduceEqDiff,reduceCtorEq,decide_true,decide_false, he0, w1, w2]
  clear he0 he1 he2 he3 he4 e h hT hX hY hm hlen w1 w2 hmn
  clear P X Y S
  rintro e wz ⟨⟨he0, he2, he4⟩, P, A, B, S, hA, hB, he10, he11, hm, hT, h⟩
  have hlen := h.len
  simp only [List.length_append] at hlen
  have hmu : (envInt (e 10)).toNat + (envInt (e 11)).toNat = A.length + B.length := by rw [he10, he11]; rfl
  have v1 : IntKind.i64.wrap ((m : Int) - (A.length : Int)) = ((P.length : Nat) : Int) := by rw [wrap_i64_in (by omega) (by omega)]; omega
  rcases Nat.lt_trichotomy B.length A.length with hlt | heq | hgt
  · have hd : decide ((A.length : Int) = (B.length : Int)) = false := decide_eq_false (by omega)
    have hd2 : decide ((B.length : Int) < (A.length : Int)) = true := decide_eq_true (by omega)
    have v2 : IntKind.i64.wrap ((A.length : Int) - (B.length : Int)) = (((A.drop B.length).length : Nat) : Int) := by rw [wrap_i64_in (by omega) (by omega), List.length_drop]; omega
    have l1 : (A.take B.length).length = B.length := by rw [List.length_take]; omega
    have l2 : (A.drop B.length).length = A.length - B.length := by rw [List.length_drop]
    have eA : A = A.take B.length ++ A.drop B.length := (List.take_append_drop _ _).symm
    have h2 : Sr w0 ad n c l0 wz (P ++ (A.take B.length ++ (A.drop B.length ++ (B ++ S)))) := by rw [← List.append_assoc (A.take B.length), ← eA]; exact h
    have hT2 : (P ++ B) ++ (A.take B.length ++ (A.drop B.length ++ S)) = T := by rw [← List.append_assoc (A.take B.length), ← eA, List.append_assoc]; exact hT
    repeat (first | rw [c_seq] | simp -dsimp only [↓RE,RU,RL,Nat.reduceLeDiff,Nat.reduceLT,pureOp,binPure,intBin,strBin,eqPure,isConstO,resK,endV,↓reduceIte,Nat.reduceEqDiff,reduceCtorEq,Nat.reduceAdd,Nat.reduceMul,Int.reduceLT,Int.reduceLE,Int.reduceToNat,Int.reduceAdd,Int.reduceSub,ne_eq,decide_true,decide_false,tf146, he10, he11, hd, hd2, Bool.not_false, he0, he2, he4, v1])
    refine swapr_ok h2 l1 hn rfl (by omega) (by omega) (fun w2 h3 => ?_)
    repeat (first | rw [c_seq] | simp -dsimp only [↓RE,RU,RL,Nat.reduceLeDiff,Nat.reduceLT,pureOp,binPure,intBin,strBin,eqPure,isConstO,resK,endV,↓reduceIte,Nat.reduceEqDiff,reduceCtorEq,Nat.reduceAdd,Nat.reduceMul,Int.reduceLT,Int.reduceLE,Int.reduceToNat,Int.reduceAdd,Int.reduceSub,ne_eq,decide_true,decide_false,tf146, he10, he11, v2])
    refine hold_intro ⟨⟨⟨?_, ?_, ?_⟩, P ++ B, A.drop B.length, A.take B.length, S, by omega, by omega, ?_, ?_, ?_, hT2, ?_⟩, ?_⟩
    · simp -dsimp only [↓RE,RU,RL,↓reduceIte,Nat.reduceEqDiff,reduceCtorEq,decide_true,decide_false, he0]
    · simp -dsimp only [↓RE,RU,RL,↓reduceIte,Nat.reduceEqDiff,reduceCtorEq,decide_true,decide_false, he2]
    · simp -dsimp only [↓RE,RU,RL,↓reduceIte,Nat.reduceEqDiff,reduceCtorEq,decide_true,decide_false, he4]
    · simp -dsimp only [↓RE,RU,RL,↓reduceIte,Nat.reduceEqDiff,reduceCtorEq,decide_true,decide_false, he10, v2]
    · rw [l1]; simp -dsimp only [↓RE,↓c_seq,RU,RL,Nat.reduceLeDiff,Nat.reduceLT,pureOp,binPure,intBin,strBin,eqPure,isConstO,resK,endV,↓reduceIte,Nat.reduceEqDiff,reduceCtorEq,Nat.reduceAdd,Nat.reduceMul,Int.reduceLT,Int.reduceLE,Int.reduceToNat,Int.reduceAdd,Int.reduceSub,ne_eq,decide_true,decide_false,tf146, he11]
    · rw [List.length_append]; omega
    · rw [List.append_assoc]; exact h3
    · rw [hmu]
      simp -dsimp only [↓RE,↓c_seq,RU,RL,Nat.reduceLeDiff,Nat.reduceLT,pureOp,binPure,intBin,strBin,eqPure,isConstO,resK,endV,↓reduceIte,Nat.reduceEqDiff,reduceCtorEq,Nat.reduceAdd,Nat.reduceMul,Int.reduceLT,Int.reduceLE,Int.reduceToNat,Int.reduceAdd,Int.reduceSub,ne_eq,decide_true,decide_false,tf146, he10, he11, v2, envInt, Int.toNat_natCast]
      omega
  · have hd : decide ((A.length : Int) = (B.length : Int)) = true := decide_eq_true (by omega)
    have h2 : Sr w0 ad n c l0 wz (P ++ (A ++ ([] ++ (B ++ S)))) := by rw [List.nil_append]; exact h
    repeat (first | rw [c_seq] | simp -dsimp only [↓RE,RU,RL,Nat.reduceLeDiff,Nat.reduceLT,pureOp,binPure,intBin,strBin,eqPure,isConstO,resK,endV,↓reduceIte,Nat.reduceEqDiff,reduceCtorEq,Nat.reduceAdd,Nat.reduceMul,Int.reduceLT,Int.reduceLE,Int.reduceToNat,Int.reduceAdd,Int.reduceSub,ne_eq,decide_true,decide_false,tf146, he10, he11, hd, Bool.not_true, he0, he2, he4, v1])
    refine swapr_ok h2 (by omega) hn rfl (by simp; omega) (by omega) (fun w2 h3 => ?_)
    rw [List.nil_append, hT] at h3
    repeat (first | rw [c_seq] | simp -dsimp only [↓RE,RU,RL,Nat.reduceLeDiff,Nat.reduceLT,pureOp,binPure,intBin,strBin,eqPure,isConstO,resK,endV,↓reduceIte,Nat.reduceEqDiff,reduceCtorEq,Nat.reduceAdd,Nat.reduceMul,Int.reduceLT,Int.reduceLE,Int.reduceToNat,Int.reduceAdd,Int.reduceSub,ne_eq,decide_true,decide_false,tf146, he10])
    exact hR w2 h3
  · have hd : decide ((A.length : Int) = (B.length : Int)) = false := decide_eq_false (by omega)
    have hd2 : decide ((B.length : Int) < (A.length : Int)) = false := decide_eq_false (by omega)
    have v2 : IntKind.i64.wrap ((B.length : Int) - (A.length : Int)) = (((B.take (B.length - A.length)).length : Nat) : Int) := by rw [wrap_i64_in (by omega) (by omega), List.length_take]; omega
    have v3 : IntKind.i64.wrap ((m : Int) + (B.length : Int)) = ((m + B.length : Nat) : Int) := by rw [wrap_i64_in (by omega) (by omega)]; omega
    have v4 : IntKind.i64.wrap (((m + B.length : Nat) : Int) - (A.length : Int)) = ((m + B.length - A.length : Nat) : Int) := by rw [wrap_i64_in (by omega) (by omega)]; omega
    have l1 : (B.take (B.length - A.length)).length = B.length - A.length := by rw [List.length_take]; omega
    have l2 : (B.drop (B.length - A.length)).length = A.length := by rw [List.length_drop]; omega
    have eB : B = B.take (B.length - A.length) ++ B.drop (B.length - A.length) := (List.take_append_drop _ _).symm
    have h2 : Sr w0 ad n c l0 wz (P ++ (A ++ (B.take (B.length - A.length) ++ (B.drop (B.length - A.length) ++ S)))) := by rw [← List.append_assoc (B.take (B.length - A.length)), ← eB]; exact h
    have hT2 : P ++ (B.take (B.length - A.length) ++ (B.drop (B.length - A.length) ++ (A ++ S))) = T := by rw [← List.append_assoc (B.take (B.length - A.length)), ← eB]; exact hT
    repeat (first | rw [c_seq] | simp -dsimp only [↓RE,RU,RL,Nat.reduceLeDiff,Nat.reduceLT,pureOp,binPure,intBin,strBin,eqPure,isConstO,resK,endV,↓reduceIte,Nat.reduceEqDiff,reduceCtorEq,Nat.reduceAdd,Nat.reduceMul,Int.reduceLT,Int.reduceLE,Int.reduceToNat,Int.reduceAdd,Int.reduceSub,ne_eq,decide_true,decide_false,tf146, he10, he11, hd, hd2, Bool.not_false, he0, he2, he4, v1, v3, v4])
    refine swapr_ok h2 l2.symm hn rfl (by omega) rfl (fun w2 h3 => ?_)
    repeat (first | rw [c_seq] | simp -dsimp only [↓RE,RU,RL,Nat.reduceLeDiff,Nat.reduceLT,pureOp,binPure,intBin,strBin,eqPure,isConstO,resK,endV,↓reduceIte,Nat.reduceEqDiff,reduceCtorEq,Nat.reduceAdd,Nat.reduceMul,Int.reduceLT,Int.reduceLE,Int.reduceToNat,Int.reduceAdd,Int.reduceSub,ne_eq,decide_true,decide_false,tf146, he10, he11, v2])
    refine hold_intro ⟨⟨⟨?_, ?_, ?_⟩, P, B.drop (B.length - A.length), B.take (B.length - A.length), A ++ S, by omega, by omega, ?_, ?_, ?_, hT2, h3⟩, ?_⟩
    · simp -dsimp only [↓RE,RU,RL,↓reduceIte,Nat.reduceEqDiff,reduceCtorEq,decide_true,decide_false, he0]
    · simp -dsimp only [↓RE,RU,RL,↓reduceIte,Nat.reduceEqDiff,reduceCtorEq,decide_true,decide_false, he2]
    · simp -dsimp only [↓RE,RU,RL,↓reduceIte,Nat.reduceEqDiff,reduceCtorEq,decide_true,decide_false, he4]
    · rw [l2]; simp -dsimp only [↓RE,↓c_seq,RU,RL,Nat.reduceLeDiff,Nat.reduceLT,pureOp,binPure,intBin,strBin,eqPure,isConstO,resK,endV,↓reduceIte,Nat.reduceEqDiff,reduceCtorEq,Nat.reduceAdd,Nat.reduceMul,Int.reduceLT,Int.reduceLE,Int.reduceToNat,Int.reduceAdd,Int.reduceSub,ne_eq,decide_true,decide_false,tf146, he10]
    · simp -dsimp only [↓RE,RU,RL,↓reduceIte,Nat.reduceEqDiff,reduceCtorEq,decide_true,decide_false, he11, v2]
    · omega
    · rw [hmu]
      simp -dsimp only [↓RE,↓c_seq,RU,RL,Nat.reduceLeDiff,Nat.reduceLT,pureOp,binPure,intBin,strBin,eqPure,isConstO,resK,endV,↓reduceIte,Nat.reduceEqDiff,reduceCtorEq,Nat.reduceAdd,Nat.reduceMul,Int.reduceLT,Int.reduceLE,Int.reduceToNat,Int.reduceAdd,Int.reduceSub,ne_eq,decide_true,decide_false,tf146, he10, he11, v2, envInt, Int.toNat_natCast]
      omega

end Go.Proofs.YtljgnocpijniiaaGreatDoor

namespace Go.Proofs.YtljgnocpijniiaaGreatDoor
open Go

theorem snoc_of {α : Type} {l : List α} (h : 0 < l.length) : ∃ l' y, l = l' ++ [y] := by
  rcases List.eq_nil_or_concat l with rfl | ⟨l', y, rfl⟩
  · simp at h
  · exact ⟨l', y, by simp⟩
theorem inss_ok {w0 w : World} {ad : Addr} {n c : Nat} {l0 : List WrV} {P X S : List WrV} {f : FuncId} {cf : WrV → WrV → Int} (hcmp : CmpOk w0 ad l0 f cf) (hc : Cmp cf) (h : Sr w0 ad n c l0 w (P ++ (X ++ S))) (hn : n ≤ 4611686018427387904) {a b : Int} (ha : a = P.length) (hb : b = P.length + X.length) {R : VWK}
    (hR : ∀ w' Z, SortedC cf Z → SameK cf X Z → Sr w0 ad n c l0 w' (P ++ (Z ++ S)) → R (.tuple #[]) w') :
    CallsV Tryz.prog 139 [.slice (some ad) n c, .int .i64 a, .int .i64 b, .func (.func f) #[] #[]] w R := by
  have hlen := h.len
  simp only [List.length_append] at hlen
  subst ha hb
  have w1 : IntKind.i64.wrap ((P.length : Int) + 1) = ((P.length + 1 : Nat) : Int) := by rw [wrap_i64_in (by omega) (by omega)]; omega
  have hcall := fun xs w K tk => callK_func hcmp.can xs w (K := K) (tk := tk)
  obtain ⟨p, hp⟩ : ∃ p, p = P.length := ⟨_, rfl⟩
  refine calls_of_wpC mixed Tryz.func139 rfl (by kernel_rfl) ?_
  intro e he
  have he0 := he 0
  have he1 := he 1
  have he2 := he 2
  have he3 := he 3
  simp only [List.getD_cons_zero, List.getD_cons_succ] at he0 he1 he2 he3
  clear he
  rcases Nat.eq_zero_or_pos X.length with h0 | h0
  · have hX : X = [] := List.eq_nil_of_length_eq_zero h0
    subst hX
    repeat (first | rw [c_seq] | simp -dsimp only [↓RE,RU,RL,forall_const,implies_true,Nat.reduceLeDiff,Nat.reduceLT,pureOp,binPure,intBin,strBin,resK,endV,yieldE,↓reduceIte,Nat.reduceEqDiff,reduceCtorEq,Nat.reduceAdd,Nat.reduceMul,Int.reduceLT,Int.reduceLE,Int.reduceToNat,Int.reduceAdd,Int.reduceSub,decide_true,decide_false,tf139, he0, he1, he2, w1])
    refine wpLoop_intro (fun e' w' => w' = w ∧ e' 2 = .int .i64 (P.length : Int) ∧ e' 8 = .int .i64 ((P.length + 1 : Nat) : Int)) (fun e' _ => 0) ⟨rfl, ?_, ?_⟩ ?_
    · have : ((P.length : Int) + (([] : List WrV).length : Int)) = (P.length : Int) := by simp
      rw [this] at he2
      simp -dsimp only [↓RE,↓c_seq,RU,RL,forall_const,implies_true,Nat.reduceLeDiff,Nat.reduceLT,pureOp,binPure,intBin,strBin,resK,endV,yieldE,↓reduceIte,Nat.reduceEqDiff,reduceCtorEq,Nat.reduceAdd,Nat.reduceMul,Int.reduceLT,Int.reduceLE,Int.reduceToNat,Int.reduceAdd,Int.reduceSub,decide_true,decide_false,tf139, he2]
    · simp -dsimp only [↓RE,RU,RL,↓reduceIte,Nat.reduceEqDiff,reduceCtorEq,decide_true,decide_false, he1, w1]
    clear he0 he1 he2 he3 e
    rintro e wz ⟨rfl, he2, he8⟩
    have hd : decide (((P.length + 1 : Nat) : Int) < (P.length : Int)) = false := decide_eq_false (by omega)
    repeat (first | rw [c_seq] | simp -dsimp only [↓RE,RU,RL,forall_const,implies_true,Nat.reduceLeDiff,Nat.reduceLT,pureOp,binPure,intBin,strBin,resK,endV,yieldE,↓reduceIte,Nat.reduceEqDiff,reduceCtorEq,Nat.reduceAdd,Nat.reduceMul,Int.reduceLT,Int.reduceLE,Int.reduceToNat,Int.reduceAdd,Int.reduceSub,decide_true,decide_false,tf139, he2, he8, hd])
    exact hR _ [] List.Pairwise.nil (SameK.refl _) h
  repeat (first | rw [c_seq] | simp -dsimp only [↓RE,RU,RL,forall_const,implies_true,Nat.reduceLeDiff,Nat.reduceLT,pureOp,binPure,intBin,strBin,resK,endV,yieldE,↓reduceIte,Nat.reduceEqDiff,reduceCtorEq,Nat.reduceAdd,Nat.reduceMul,Int.reduceLT,Int.reduceLE,Int.reduceToNat,Int.reduceAdd,Int.reduceSub,decide_true,decide_false,tf139, he0, he1, he2, w1])
  refine wpLoop_intro (fun e' w' => (e' 0 = .slice (some ad) n c ∧ e' 1 = .int .i64 (p : Int) ∧ e' 2 = .int .i64 ((p + X.length : Nat) : Int) ∧ e' 3 = .func (.func f) #[] #[]) ∧ ∃ V Z U, X = V ++ U ∧ SortedC cf Z ∧ SameK cf V Z ∧ 0 < Z.length ∧ e' 8 = .int .i64 ((p + Z.length : Nat) : Int) ∧ Sr w0 ad n c l0 w' (P ++ (Z ++ (U ++ S))))
    (fun e' _ => p + X.length - (envInt (e' 8)).toNat) ⟨⟨?_, ?_, ?_, ?_⟩, X.take 1, X.take 1, X.drop 1, (List.take_append_drop _ _).symm, ?_, SameK.refl _, by rw [List.length_take]; omega, ?_, ?_⟩ ?_
  · simp -dsimp only [↓RE,RU,RL,↓reduceIte,Nat.reduceEqDiff,reduceCtorEq,decide_true,decide_false, he0]
  · rw [hp]; simp -dsimp only [↓RE,↓c_seq,RU,RL,forall_const,implies_true,Nat.reduceLeDiff,Nat.reduceLT,pureOp,binPure,intBin,strBin,resK,endV,yieldE,↓reduceIte,Nat.reduceEqDiff,reduceCtorEq,Nat.reduceAdd,Nat.reduceMul,Int.reduceLT,Int.reduceLE,Int.reduceToNat,Int.reduceAdd,Int.reduceSub,decide_true,decide_false,tf139, he1]
  · rw [hp]; simp -dsimp only [↓RE,↓c_seq,RU,RL,forall_const,implies_true,Nat.reduceLeDiff,Nat.reduceLT,pureOp,binPure,intBin,strBin,resK,endV,yieldE,↓reduceIte,Nat.reduceEqDiff,reduceCtorEq,Nat.reduceAdd,Nat.reduceMul,Int.reduceLT,Int.reduceLE,Int.reduceToNat,Int.reduceAdd,Int.reduceSub,decide_true,decide_false,tf139, he2, Int.natCast_add]
  · simp -dsimp only [↓RE,RU,RL,↓reduceIte,Nat.reduceEqDiff,reduceCtorEq,decide_true,decide_false, he3]
  · cases X with
    | nil => exact List.Pairwise.nil
    | cons x X => exact List.pairwise_singleton _ _
  · rw [List.length_take, Nat.min_eq_left h0, hp]; simp -dsimp only [↓RE,↓c_seq,RU,RL,forall_const,implies_true,Nat.reduceLeDiff,Nat.reduceLT,pureOp,binPure,intBin,strBin,resK,endV,yieldE,↓reduceIte,Nat.reduceEqDiff,reduceCtorEq,Nat.reduceAdd,Nat.reduceMul,Int.reduceLT,Int.reduceLE,Int.reduceToNat,Int.reduceAdd,Int.reduceSub,decide_true,decide_false,tf139, he1, w1]
  · rw [← List.append_assoc (X.take 1), List.take_append_drop]; exact h
  clear he0 he1 he2 he3 e h w1 hlen
  rintro e wz ⟨⟨he0, he1, he2, he3⟩, V, Z, U, hX, hZ, hVZ, hz0, he8, h⟩
  have hlen := h.len
  simp only [List.length_append] at hlen
  have hXl : X.length = V.length + U.length := by rw [hX, List.length_append]
  have hVl := hVZ.1
  cases U with
  | nil =>
    have hd : decide (((p + Z.length : Nat) : Int) < ((p + X.length : Nat) : Int)) = false := decide_eq_false (by simp only [List.length_nil] at hXl; omega)
    rw [List.append_nil] at hX
    subst hX
    repeat (first | rw [c_seq] | simp -dsimp only [↓RE,RU,RL,forall_const,implies_true,Nat.reduceLeDiff,Nat.reduceLT,pureOp,binPure,intBin,strBin,resK,endV,yieldE,↓reduceIte,Nat.reduceEqDiff,reduceCtorEq,Nat.reduceAdd,Nat.reduceMul,Int.reduceLT,Int.reduceLE,Int.reduceToNat,Int.reduceAdd,Int.reduceSub,decide_true,decide_false,tf139, he8, he2, hd])
    exact hR wz Z hZ hVZ h
  | cons x U =>
    have hd : decide (((p + Z.length : Nat) : Int) < ((p + X.length : Nat) : Int)) = true := decide_eq_true (by simp only [List.length_cons] at hXl; omega)
    have hmu : (envInt (e 8)).toNat = p + Z.length := by rw [he8]; exact Int.toNat_natCast _
    have w3 : IntKind.i64.wrap (((p + Z.length : Nat) : Int) + 1) = ((p + Z.length + 1 : Nat) : Int) := by rw [wrap_i64_in (by omega) (by omega)]; omega
    repeat (first | rw [c_seq] | simp -dsimp only [↓RE,RU,RL,forall_const,implies_true,Nat.reduceLeDiff,Nat.reduceLT,pureOp,binPure,intBin,strBin,resK,endV,yieldE,↓reduceIte,Nat.reduceEqDiff,reduceCtorEq,Nat.reduceAdd,Nat.reduceMul,Int.reduceLT,Int.reduceLE,Int.reduceToNat,Int.reduceAdd,Int.reduceSub,decide_true,decide_false,tf139, he8, he2, hd])
    refine wpLoop_intro (fun e' w' => (e' 0 = .slice (some ad) n c ∧ e' 1 = .int .i64 (p : Int) ∧ e' 2 = .int .i64 ((p + X.length : Nat) : Int) ∧ e' 3 = .func (.func f) #[] #[] ∧ e' 8 = .int .i64 ((p + Z.length : Nat) : Int)) ∧ ∃ Z1 Z2, Z = Z1 ++ Z2 ∧ (∀ z ∈ Z2, cf x z < 0) ∧ e' 9 = .int .i64 ((p + Z1.length : Nat) : Int) ∧ Sr w0 ad n c l0 w' (P ++ ((Z1 ++ x :: Z2) ++ (U ++ S))))
      (fun e' _ => (envInt (e' 9)).toNat) ⟨⟨?_, ?_, ?_, ?_, ?_⟩, Z, [], (List.append_nil _).symm, fun z hz => (by cases hz), ?_, ?_⟩ ?_
    · simp -dsimp only [↓RE,RU,RL,↓reduceIte,Nat.reduceEqDiff,reduceCtorEq,decide_true,decide_false, he0]
    · simp -dsimp only [↓RE,RU,RL,↓reduceIte,Nat.reduceEqDiff,reduceCtorEq,decide_true,decide_false, he1]
    · simp -dsimp only [↓RE,RU,RL,↓reduceIte,Nat.reduceEqDiff,reduceCtorEq,decide_true,decide_false, he2]
    · simp -dsimp only [↓RE,RU,RL,↓reduceIte,Nat.reduceEqDiff,reduceCtorEq,decide_true,decide_false, he3]
    · simp -dsimp only [↓RE,RU,RL,↓reduceIte,Nat.reduceEqDiff,reduceCtorEq,decide_true,decide_false, he8]
    · simp -dsimp only [↓RE,RU,RL,↓reduceIte,Nat.reduceEqDiff,reduceCtorEq,decide_true,decide_false, he8]
    · simpa [List.append_assoc] using h
    clear he0 he1 he2 he3 he8 h
    rintro e1 wy ⟨⟨he0, he1, he2, he3, he8⟩, Z1, Z2, hZe, hZ2, he9, h⟩
    subst hZe
    have fin : (∀ y ∈ Z1, cf y x ≤ 0) → SortedC cf (Z1 ++ x :: Z2) ∧ SameK cf (V ++ [x]) (Z1 ++ x :: Z2) := fun hy => by
      obtain ⟨a1, a2⟩ := ins_done hc hZ hZ2 hy
      exact ⟨a1, (hVZ.app (SameK.refl [x])).trans a2⟩
    have hX2 : X = (V ++ [x]) ++ U := by rw [hX, List.append_assoc]; rfl
    have hlz : (Z1 ++ x :: Z2).length = (Z1 ++ Z2).length + 1 := by simp; omega
    rcases Nat.eq_zero_or_pos Z1.length with hz1 | hz1
    · have hd2 : decide ((p : Int) < ((p + Z1.length : Nat) : Int)) = false := decide_eq_false (by omega)
      obtain ⟨f1, f2⟩ := fin (fun y hy => by rw [List.eq_nil_of_length_eq_zero hz1] at hy; cases hy)
      repeat (first | rw [c_seq] | simp -dsimp only [↓RE,RU,RL,forall_const,implies_true,Nat.reduceLeDiff,Nat.reduceLT,pureOp,binPure,intBin,strBin,resK,endV,yieldE,↓reduceIte,Nat.reduceEqDiff,reduceCtorEq,Nat.reduceAdd,Nat.reduceMul,Int.reduceLT,Int.reduceLE,Int.reduceToNat,Int.reduceAdd,Int.reduceSub,decide_true,decide_false,tf139, he0, he1, he9])
      refine wpDraw_by (Grow wy ·) [(0, true), (1, true), (2, true), (3, true), (4, true), (5, true), (6, true), (7, true), (8, true), (9, true), (10, true), (11, true), (12, true), (13, true), (14, false), (15, true), (16, true)] (by kernel_rfl) (Grow.drew wy) ?_
      simp only [planL, List.getElem?_toArray, List.getElem?_cons_zero, List.getElem?_cons_succ, Option.toList_some, List.map_cons, List.map_nil, List.cons_append, List.nil_append]
      repeat (first | rw [c_seq] | simp -dsimp only [↓RE,RU,RL,forall_const,implies_true,Nat.reduceLeDiff,Nat.reduceLT,pureOp,binPure,intBin,strBin,resK,endV,yieldE,↓reduceIte,Nat.reduceEqDiff,reduceCtorEq,Nat.reduceAdd,Nat.reduceMul,Int.reduceLT,Int.reduceLE,Int.reduceToNat,Int.reduceAdd,Int.reduceSub,decide_true,decide_false,tf139, he0, he1, he9, hd2, undef])
      refine ⟨Grow.drew wy, ?_⟩
      repeat (first | rw [c_seq] | simp -dsimp only [↓RE,RU,RL,forall_const,implies_true,Nat.reduceLeDiff,Nat.reduceLT,pureOp,binPure,intBin,strBin,resK,endV,yieldE,↓reduceIte,Nat.reduceEqDiff,reduceCtorEq,Nat.reduceAdd,Nat.reduceMul,Int.reduceLT,Int.reduceLE,Int.reduceToNat,Int.reduceAdd,Int.reduceSub,decide_true,decide_false,tf139, he8, w3])
      refine hold_intro ⟨⟨⟨?_, ?_, ?_, ?_⟩, V ++ [x], Z1 ++ x :: Z2, U, hX2, f1, f2, by rw [hlz]; omega, ?_, h.grow (Grow.drew wy)⟩, ?_⟩
      · simp -dsimp only [↓RE,RU,RL,↓reduceIte,Nat.reduceEqDiff,reduceCtorEq,decide_true,decide_false, he0]
      · simp -dsimp only [↓RE,RU,RL,↓reduceIte,Nat.reduceEqDiff,reduceCtorEq,decide_true,decide_false, he1]
      · simp -dsimp only [↓RE,RU,RL,↓reduceIte,Nat.reduceEqDiff,reduceCtorEq,decide_true,decide_false, he2]
      · simp -dsimp only [↓RE,RU,RL,↓reduceIte,Nat.reduceEqDiff,reduceCtorEq,decide_true,decide_false, he3]
      · rw [hlz]; simp -dsimp only [↓RE,↓c_seq,RU,RL,forall_const,implies_true,Nat.reduceLeDiff,Nat.reduceLT,pureOp,binPure,intBin,strBin,resK,endV,yieldE,↓reduceIte,Nat.reduceEqDiff,reduceCtorEq,Nat.reduceAdd,Nat.reduceMul,Int.reduceLT,Int.reduceLE,Int.reduceToNat,Int.reduceAdd,Int.reduceSub,decide_true,decide_false,tf139, he8, w3, Nat.add_assoc]
      · rw [hmu]
        simp -dsimp only [↓RE,↓c_seq,RU,RL,forall_const,implies_true,Nat.reduceLeDiff,Nat.reduceLT,pureOp,binPure,intBin,strBin,resK,endV,yieldE,↓reduceIte,Nat.reduceEqDiff,reduceCtorEq,Nat.reduceAdd,Nat.reduceMul,Int.reduceLT,Int.reduceLE,Int.reduceToNat,Int.reduceAdd,Int.reduceSub,decide_true,decide_false,tf139, he8, w3, envInt, Int.toNat_natCast]
        simp only [List.length_cons] at hXl
        omega
    · have hd2 : decide ((p : Int) < ((p + Z1.length : Nat) : Int)) = true := decide_eq_true (by omega)
      obtain ⟨Z1', y, rfl⟩ := snoc_of hz1
      have e1 : P ++ (((Z1' ++ [y]) ++ x :: Z2) ++ (U ++ S)) = (P ++ Z1') ++ y :: ([] ++ x :: (Z2 ++ (U ++ S))) := by simp [List.append_assoc]
      have e2 : P ++ ((Z1' ++ x :: (y :: Z2)) ++ (U ++ S)) = (P ++ Z1') ++ x :: ([] ++ y :: (Z2 ++ (U ++ S))) := by simp [List.append_assoc]
      obtain ⟨s1, s2, s3, s4⟩ := swap_at (P ++ Z1') [] (Z2 ++ (U ++ S)) y x
      rw [← e1, ← e2] at s4
      rw [← e1] at s1 s2
      have l1 : (P ++ Z1').length = p + Z1'.length := by rw [List.length_append, hp]
      rw [l1, List.length_nil, Nat.add_zero] at s2 s4
      rw [l1] at s1
      have hy1 : (Z1' ++ [y]).length = Z1'.length + 1 := by simp
      rw [hy1] at he9 hd2
      have hlen' := hlen
      simp only [List.length_append, List.length_cons, List.length_nil] at hlen'
      have v1 : IntKind.i64.wrap (((p + (Z1'.length + 1) : Nat) : Int) - 1) = ((p + Z1'.length : Nat) : Int) := by rw [wrap_i64_in (by omega) (by omega)]; omega
      have hxm := h.mem x (List.mem_of_getElem? s2)
      have hym := h.mem y (List.mem_of_getElem? s1)
      repeat (first | rw [c_seq] | simp -dsimp only [↓RE,RU,RL,forall_const,implies_true,Nat.reduceLeDiff,Nat.reduceLT,pureOp,binPure,intBin,strBin,resK,endV,yieldE,↓reduceIte,Nat.reduceEqDiff,reduceCtorEq,Nat.reduceAdd,Nat.reduceMul,Int.reduceLT,Int.reduceLE,Int.reduceToNat,Int.reduceAdd,Int.reduceSub,decide_true,decide_false,tf139, he0, he1, he9])
      refine wpDraw_by (Grow wy ·) [(0, true), (1, true), (2, true), (3, true), (4, true), (5, true), (6, true), (7, true), (8, true), (9, true), (10, true), (11, true), (12, true), (13, true), (14, false), (15, true), (16, true)] (by kernel_rfl) (Grow.drew wy) ?_
      simp only [planL, List.getElem?_toArray, List.getElem?_cons_zero, List.getElem?_cons_succ, Option.toList_some, List.map_cons, List.map_nil, List.cons_append, List.nil_append]
      repeat (first | rw [c_seq] | simp -dsimp only [↓RE,RU,RL,forall_const,implies_true,Nat.reduceLeDiff,Nat.reduceLT,pureOp,binPure,intBin,strBin,resK,endV,yieldE,↓reduceIte,Nat.reduceEqDiff,reduceCtorEq,Nat.reduceAdd,Nat.reduceMul,Int.reduceLT,Int.reduceLE,Int.reduceToNat,Int.reduceAdd,Int.reduceSub,decide_true,decide_false,tf139, he0, he1, he3, he9, hd2, v1, Int.toNat_natCast])
      refine ⟨⟨by omega, by omega⟩, x.cells, rfl, fun w' g' => (h.grow g').cells (k := p + (Z1'.length + 1)) s2, ?_⟩
      repeat (first | rw [c_seq] | simp -dsimp only [↓RE,RU,RL,forall_const,implies_true,Nat.reduceLeDiff,Nat.reduceLT,pureOp,binPure,intBin,strBin,resK,endV,yieldE,↓reduceIte,Nat.reduceEqDiff,reduceCtorEq,Nat.reduceAdd,Nat.reduceMul,Int.reduceLT,Int.reduceLE,Int.reduceToNat,Int.reduceAdd,Int.reduceSub,decide_true,decide_false,tf139, he0, he1, he3, he9, hd2, v1, Int.toNat_natCast])
      refine ⟨⟨by omega, by omega⟩, y.cells, rfl, fun w' g' => (h.grow g').cells s1, ?_⟩
      repeat (first | rw [c_seq] | simp -dsimp only [↓RE,RU,RL,forall_const,implies_true,Nat.reduceLeDiff,Nat.reduceLT,pureOp,binPure,intBin,strBin,resK,endV,yieldE,↓reduceIte,Nat.reduceEqDiff,reduceCtorEq,Nat.reduceAdd,Nat.reduceMul,Int.reduceLT,Int.reduceLE,Int.reduceToNat,Int.reduceAdd,Int.reduceSub,decide_true,decide_false,tf139, he0, he1, he3, he9, hd2, v1, Int.toNat_natCast, hcall])
      refine hcmp.cmp wy.drew (h.keep.then_grow (Grow.drew wy)) x hxm y hym _ (fun w5 g5 => ?_)
      refine ⟨(Grow.drew wy).trans g5, ?_⟩
      have h5 := (h.grow (Grow.drew wy)).grow g5
      by_cases hlt : cf x y < 0
      · have hd3 : decide (cf x y < 0) = true := decide_eq_true hlt
        repeat (first | rw [c_seq] | simp -dsimp only [↓RE,RU,RL,forall_const,implies_true,Nat.reduceLeDiff,Nat.reduceLT,pureOp,binPure,intBin,strBin,resK,endV,yieldE,↓reduceIte,Nat.reduceEqDiff,reduceCtorEq,Nat.reduceAdd,Nat.reduceMul,Int.reduceLT,Int.reduceLE,Int.reduceToNat,Int.reduceAdd,Int.reduceSub,decide_true,decide_false,tf139, he0, he9, hd3])
        refine wpDraw_swap (Sr w0 ad n c l0 · _) [0, 1, 2, 3, 4, 5, 6, 7, 8, 9, 10, 11, 12, 13, 14] 15 [15, 16, 17] (by kernel_rfl) (h5.grow (Grow.drew w5)) ?_
        simp only [List.filterMap_cons, List.filterMap_nil, planL, List.getElem?_toArray, List.getElem?_cons_zero, List.getElem?_cons_succ, Option.toList_some, List.map_cons, List.map_nil, List.cons_append, List.nil_append]
        repeat (first | rw [c_seq] | simp -dsimp only [↓RE,RU,RL,forall_const,implies_true,Nat.reduceLeDiff,Nat.reduceLT,pureOp,binPure,intBin,strBin,resK,endV,yieldE,↓reduceIte,Nat.reduceEqDiff,reduceCtorEq,Nat.reduceAdd,Nat.reduceMul,Int.reduceLT,Int.reduceLE,Int.reduceToNat,Int.reduceAdd,Int.reduceSub,decide_true,decide_false,tf139, he0, he1, he9, v1, Int.toNat_natCast])
        refine ⟨⟨by omega, by omega⟩, y.cells, rfl, fun w' hw' => hw'.cells s1, ?_⟩
        repeat (first | rw [c_seq] | simp -dsimp only [↓RE,RU,RL,forall_const,implies_true,Nat.reduceLeDiff,Nat.reduceLT,pureOp,binPure,intBin,strBin,resK,endV,yieldE,↓reduceIte,Nat.reduceEqDiff,reduceCtorEq,Nat.reduceAdd,Nat.reduceMul,Int.reduceLT,Int.reduceLE,Int.reduceToNat,Int.reduceAdd,Int.reduceSub,decide_true,decide_false,tf139, he0, he1, he9, v1, Int.toNat_natCast])
        refine ⟨⟨by omega, by omega⟩, x.cells, rfl, fun w' hw' => hw'.cells (k := p + (Z1'.length + 1)) s2, ?_⟩
        repeat (first | rw [c_seq] | simp -dsimp only [↓RE,RU,RL,forall_const,implies_true,Nat.reduceLeDiff,Nat.reduceLT,pureOp,binPure,intBin,strBin,resK,endV,yieldE,↓reduceIte,Nat.reduceEqDiff,reduceCtorEq,Nat.reduceAdd,Nat.reduceMul,Int.reduceLT,Int.reduceLE,Int.reduceToNat,Int.reduceAdd,Int.reduceSub,decide_true,decide_false,tf139, he0, he1, he9, v1, Int.toNat_natCast])
        refine ⟨⟨by omega, by omega⟩, rfl, (h5.grow (Grow.drew w5)).set (k := p + (Z1'.length + 1)) (by omega) hym (fun w6 h6 => ?_)⟩
        repeat (first | rw [c_seq] | simp -dsimp only [↓RE,RU,RL,forall_const,implies_true,Nat.reduceLeDiff,Nat.reduceLT,pureOp,binPure,intBin,strBin,resK,endV,yieldE,↓reduceIte,Nat.reduceEqDiff,reduceCtorEq,Nat.reduceAdd,Nat.reduceMul,Int.reduceLT,Int.reduceLE,Int.reduceToNat,Int.reduceAdd,Int.reduceSub,decide_true,decide_false,tf139, he0, he1, he9, v1, Int.toNat_natCast])
        refine ⟨⟨by omega, by omega⟩, rfl, h6.set (k := p + Z1'.length) (by omega) hxm (fun w7 h7 => ?_)⟩
        have h7 : Sr w0 ad n c l0 w7 (P ++ ((Z1' ++ x :: (y :: Z2)) ++ (U ++ S))) := by rw [← s4]; exact h7
        repeat (first | rw [c_seq] | simp -dsimp only [↓RE,RU,RL,forall_const,implies_true,Nat.reduceLeDiff,Nat.reduceLT,pureOp,binPure,intBin,strBin,resK,endV,yieldE,↓reduceIte,Nat.reduceEqDiff,reduceCtorEq,Nat.reduceAdd,Nat.reduceMul,Int.reduceLT,Int.reduceLE,Int.reduceToNat,Int.reduceAdd,Int.reduceSub,decide_true,decide_false,tf139, he9, v1])
        refine hold_intro ⟨⟨⟨?_, ?_, ?_, ?_, ?_⟩, Z1', y :: Z2, by simp, fun z hz => ?_, ?_, h7⟩, ?_⟩
        · simp -dsimp only [↓RE,RU,RL,↓reduceIte,Nat.reduceEqDiff,reduceCtorEq,decide_true,decide_false, he0]
        · simp -dsimp only [↓RE,RU,RL,↓reduceIte,Nat.reduceEqDiff,reduceCtorEq,decide_true,decide_false, he1]
        · simp -dsimp only [↓RE,RU,RL,↓reduceIte,Nat.reduceEqDiff,reduceCtorEq,decide_true,decide_false, he2]
        · simp -dsimp only [↓RE,RU,RL,↓reduceIte,Nat.reduceEqDiff,reduceCtorEq,decide_true,decide_false, he3]
        · simp -dsimp only [↓RE,RU,RL,↓reduceIte,Nat.reduceEqDiff,reduceCtorEq,decide_true,decide_false, he8]
        · rcases List.mem_cons.1 hz with rfl | hz
          · exact hlt
          · exact hZ2 z hz
        · simp -dsimp only [↓RE,RU,RL,↓reduceIte,Nat.reduceEqDiff,reduceCtorEq,decide_true,decide_false, he9, v1]
        · rw [he9]
          simp -dsimp only [↓RE,↓c_seq,RU,RL,forall_const,implies_true,Nat.reduceLeDiff,Nat.reduceLT,pureOp,binPure,intBin,strBin,resK,endV,yieldE,↓reduceIte,Nat.reduceEqDiff,reduceCtorEq,Nat.reduceAdd,Nat.reduceMul,Int.reduceLT,Int.reduceLE,Int.reduceToNat,Int.reduceAdd,Int.reduceSub,decide_true,decide_false,tf139, he9, v1, envInt, Int.toNat_natCast]
          omega
      · have hd3 : decide (cf x y < 0) = false := decide_eq_false hlt
        obtain ⟨f1, f2⟩ := fin (fun z hz => by
          have hyx : cf y x ≤ 0 := by have := hc.neg x y; omega
          rcases List.mem_append.1 hz with hz | hz
          · have h1 := (sorted_app.1 (sorted_app.1 hZ).1).2.2 z hz y (List.mem_singleton_self y)
            exact hc.tr z y x h1 hyx
          · rw [List.mem_singleton.1 hz]; exact hyx)
        repeat (first | rw [c_seq] | simp -dsimp only [↓RE,RU,RL,forall_const,implies_true,Nat.reduceLeDiff,Nat.reduceLT,pureOp,binPure,intBin,strBin,resK,endV,yieldE,↓reduceIte,Nat.reduceEqDiff,reduceCtorEq,Nat.reduceAdd,Nat.reduceMul,Int.reduceLT,Int.reduceLE,Int.reduceToNat,Int.reduceAdd,Int.reduceSub,decide_true,decide_false,tf139, he0, he9, hd3])
        repeat (first | rw [c_seq] | simp -dsimp only [↓RE,RU,RL,forall_const,implies_true,Nat.reduceLeDiff,Nat.reduceLT,pureOp,binPure,intBin,strBin,resK,endV,yieldE,↓reduceIte,Nat.reduceEqDiff,reduceCtorEq,Nat.reduceAdd,Nat.reduceMul,Int.reduceLT,Int.reduceLE,Int.reduceToNat,Int.reduceAdd,Int.reduceSub,decide_true,decide_false,tf139, he8, w3])
        refine hold_intro ⟨⟨⟨?_, ?_, ?_, ?_⟩, V ++ [x], (Z1' ++ [y]) ++ x :: Z2, U, hX2, f1, f2, by rw [hlz]; omega, ?_, h5⟩, ?_⟩
        · simp -dsimp only [↓RE,RU,RL,↓reduceIte,Nat.reduceEqDiff,reduceCtorEq,decide_true,decide_false, he0]
        · simp -dsimp only [↓RE,RU,RL,↓reduceIte,Nat.reduceEqDiff,reduceCtorEq,decide_true,decide_false, he1]
        · simp -dsimp only [↓RE,RU,RL,↓reduceIte,Nat.reduceEqDiff,reduceCtorEq,decide_true,decide_false, he2]
        · simp -dsimp only [↓RE,RU,RL,↓reduceIte,Nat.reduceEqDiff,reduceCtorEq,decide_true,decide_false, he3]
        · rw [hlz]; simp -dsimp only [↓RE,↓c_seq,RU,RL,forall_const,implies_true,Nat.reduceLeDiff,Nat.reduceLT,pureOp,binPure,intBin,strBin,resK,endV,yieldE,↓reduceIte,Nat.reduceEqDiff,reduceCtorEq,Nat.reduceAdd,Nat.reduceMul,Int.reduceLT,Int.reduceLE,Int.reduceToNat,Int.reduceAdd,Int.reduceSub,decide_true,decide_false,tf139, he8, w3, Nat.add_assoc]
        · rw [hmu]
          simp -dsimp only [↓RE,↓c_seq,RU,RL,forall_const,implies_true,Nat.reduceLeDiff,Nat.reduceLT,pureOp,binPure,intBin,strBin,resK,endV,yieldE,↓reduceIte,Nat.reduceEqDiff,reduceCtorEq,Nat.reduceAdd,Nat.reduceMul,Int.reduceLT,Int.reduceLE,Int.reduceToNat,Int.reduceAdd,Int.reduceSub,decide_true,decide_false,tf139, he8, w3, envInt, Int.toNat_natCast]
          simp only [List.length_cons] at hXl
          omega

end Go.Proofs.YtljgnocpijniiaaGreatDoor
