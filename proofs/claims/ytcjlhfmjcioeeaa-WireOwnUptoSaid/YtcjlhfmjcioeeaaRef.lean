/- Walks over the document's Writer: the same is told of it as of the program's. -/
import Derived.Test.YtcjlhfmjcioeeaaBits
import Derived.Laws.BytesArg
import Derived.Laws.IdiomStrings
set_option linter.unusedVariables false
set_option linter.unusedSimpArgs false
set_option maxRecDepth 100000
namespace Go.Proofs.Ytcjlhfmjcioeeaa
open Go

theorem rbyte_ok {w : World} {F : Nat → Prop} {p : Nat} {zs : List Int} {bits : Nat} (hW : WAt 33 w F p zs bits) {x : Int} (hb : zs.length + 1 ≤ 140737488355328) {R : VWK}
    (h : ∀ w' F', WAt 33 w' F' p (zs ++ [x]) 0 → Step F F' w w' → R (.tuple #[]) w') :
    CallsV Try.prog 37 [.pointer (some ⟨p, 0, none⟩), .int .u8 x] w R := by
  obtain ⟨sv, hB0, hO0, rfl⟩ := hW
  refine calls_of_wpC mixed Try.func37 rfl (by kernel_rfl) ?_
  intro e he
  have he0 := he 0
  have he1 := he 1
  simp only [List.getD_cons_zero, List.getD_cons_succ] at he0 he1
  clear he
  simp only [↓RD,↓c_seq,RU,RL,if_true,if_false,forall_const,implies_true,Nat.reduceLeDiff,Nat.reduceLT,pureOp,binPure,intBin,strBin,eqPure,isConstO,unPure,sliceLo,sliceHi,slicePure,lenPure,minPure,maxPure,buildP,resK,endV,yieldE,↓reduceIte,Nat.reduceEqDiff,reduceCtorEq,Nat.reduceAdd,Nat.reduceMul,Nat.reduceSub,Int.reduceLT,Int.reduceLE,Int.reduceToNat,Int.reduceAdd,Int.reduceSub,Int.reduceMul,ne_eq,decide_true,decide_false,tf37, he0, he1, add_lit', hB0.cell]
  have hB := hB0.alloc (.cells #[.int .u8 x] 5)
  have hO := own_grow hO0 (Grow.alloc w (.cells #[.int .u8 x] 5))
  refine appK_own (bytes := 1) (by kernel_rfl) hO (rd_new1 w _ [x] 1 rfl) (ints_one _ _) (by simp only [maxLen]; omega) (by omega) (fun A' c' w1 hO1 hK1 hF1 => ?_)
  have hne := own_blk_ne hO hB (by decide)
  have hB1 := hB.keep hK1 hne
  have hne1 : ¬ fpV (.slice A' (zs.length + 1) c') p := fun hf => by
    rcases hF1 p hf with h1 | h1
    · exact hne h1
    · have := hB.lt; omega
  simp only [↓RD,↓c_seq,RU,RL,if_true,if_false,forall_const,implies_true,Nat.reduceLeDiff,Nat.reduceLT,pureOp,binPure,intBin,strBin,eqPure,isConstO,unPure,sliceLo,sliceHi,slicePure,lenPure,minPure,maxPure,buildP,resK,endV,yieldE,↓reduceIte,Nat.reduceEqDiff,reduceCtorEq,Nat.reduceAdd,Nat.reduceMul,Nat.reduceSub,Int.reduceLT,Int.reduceLE,Int.reduceToNat,Int.reduceAdd,Int.reduceSub,Int.reduceMul,ne_eq,decide_true,decide_false,tf37, he0, he1, add_lit']
  refine hB1.st (by simp) ?_
  have hB2 := hB1.set 0 (.slice A' (zs.length + 1) c')
  simp only [↓RD,↓c_seq,RU,RL,if_true,if_false,forall_const,implies_true,Nat.reduceLeDiff,Nat.reduceLT,pureOp,binPure,intBin,strBin,eqPure,isConstO,unPure,sliceLo,sliceHi,slicePure,lenPure,minPure,maxPure,buildP,resK,endV,yieldE,↓reduceIte,Nat.reduceEqDiff,reduceCtorEq,Nat.reduceAdd,Nat.reduceMul,Nat.reduceSub,Int.reduceLT,Int.reduceLE,Int.reduceToNat,Int.reduceAdd,Int.reduceSub,Int.reduceMul,ne_eq,decide_true,decide_false,tf37, he0, he1, add_lit']
  refine hB2.st (by simp) ?_
  have hB3 := hB2.set 1 (.int .i64 0)
  simp only [↓RD,↓c_seq,RU,RL,if_true,if_false,forall_const,implies_true,Nat.reduceLeDiff,Nat.reduceLT,pureOp,binPure,intBin,strBin,eqPure,isConstO,unPure,sliceLo,sliceHi,slicePure,lenPure,minPure,maxPure,buildP,resK,endV,yieldE,↓reduceIte,Nat.reduceEqDiff,reduceCtorEq,Nat.reduceAdd,Nat.reduceMul,Nat.reduceSub,Int.reduceLT,Int.reduceLE,Int.reduceToNat,Int.reduceAdd,Int.reduceSub,Int.reduceMul,ne_eq,decide_true,decide_false,tf37, he0, he1]
  have k1 := Keep.set1 w1 p 0 (.slice A' (zs.length + 1) c')
  have k2 := Keep.set1 (w1.setCell ⟨p, 0, none⟩ (.slice A' (zs.length + 1) c')) p 1 (.int .i64 0)
  refine h _ _ ⟨_, by simpa using hB3, ?_, rfl⟩ ⟨?_, ?_⟩
  · have := own_keep (own_keep hO1 k1 (fun k hk e => hne1 (e ▸ hk))) k2 (fun k hk e => hne1 (e ▸ hk))
    simpa using this
  · exact (Grow.alloc w _).then ((hK1.trans k1 (H := fun k => k = p ∨ fpV sv k) (fun _ _ h => .inr h) (fun _ _ h => .inl h)).trans k2 (fun _ _ h => h) (fun _ _ h => .inl h))
  · rintro k (rfl | hk)
    · exact .inl (.inl rfl)
    · rcases hF1 k hk with h1 | h1
      · exact .inl (.inr h1)
      · exact .inr (by rw [h1]; simp)

theorem be32_take (v : Int) {k : Nat} (hk : k < 4) : (be32 v).take k ++ [v / 2 ^ (24 - 8 * k) % 256] = (be32 v).take (k + 1) := by
  have : k = 0 ∨ k = 1 ∨ k = 2 ∨ k = 3 := by omega
  rcases this with rfl | rfl | rfl | rfl <;> simp [be32]

theorem rfix32_ok {w : World} {F : Nat → Prop} {p : Nat} {zs : List Int} {bits : Nat} (hW : WAt 33 w F p zs bits) {v : Int} (hb : zs.length + 4 ≤ 140737488355328) {R : VWK}
    (h : ∀ w' F', WAt 33 w' F' p (zs ++ be32 v) 0 → Step F F' w w' → R (.tuple #[]) w') :
    CallsV Try.prog 38 [.pointer (some ⟨p, 0, none⟩), .int .u32 v] w R := by
  refine calls_of_wpC mixed Try.func38 rfl (by kernel_rfl) ?_
  intro e he
  have he0 := he 0
  have he1 := he 1
  simp only [List.getD_cons_zero, List.getD_cons_succ] at he0 he1
  clear he
  simp only [↓RD,↓c_seq,RU,RL,if_true,if_false,forall_const,implies_true,Nat.reduceLeDiff,Nat.reduceLT,pureOp,binPure,intBin,strBin,eqPure,isConstO,unPure,sliceLo,sliceHi,slicePure,lenPure,minPure,maxPure,buildP,resK,endV,yieldE,↓reduceIte,Nat.reduceEqDiff,reduceCtorEq,Nat.reduceAdd,Nat.reduceMul,Nat.reduceSub,Int.reduceLT,Int.reduceLE,Int.reduceToNat,Int.reduceAdd,Int.reduceSub,Int.reduceMul,ne_eq,decide_true,decide_false,tf38, he0, he1]
  refine wpLoop_intro (fun e' w' => e' 0 = .pointer (some ⟨p, 0, none⟩) ∧ e' 1 = .int .u32 v ∧ ∃ (k b : Nat) (F' : Nat → Prop), e' 4 = .int .i64 k ∧ k ≤ 4 ∧ (k = 4 → b = 0) ∧ WAt 33 w' F' p (zs ++ (be32 v).take k) b ∧ Step F F' w w')
    (fun e' _ => 4 - (envInt (e' 4)).toNat) ⟨?_, ?_, 0, bits, F, ?_, by omega, by omega, by simpa using hW, Step.refl F w⟩ ?_
  · simp only [↓RD,↓c_seq,RU,RL,if_true,if_false,forall_const,implies_true,Nat.reduceLeDiff,Nat.reduceLT,pureOp,binPure,intBin,strBin,eqPure,isConstO,unPure,sliceLo,sliceHi,slicePure,lenPure,minPure,maxPure,buildP,resK,endV,yieldE,↓reduceIte,Nat.reduceEqDiff,reduceCtorEq,Nat.reduceAdd,Nat.reduceMul,Nat.reduceSub,Int.reduceLT,Int.reduceLE,Int.reduceToNat,Int.reduceAdd,Int.reduceSub,Int.reduceMul,ne_eq,decide_true,decide_false,tf38, he0]
  · simp only [↓RD,↓c_seq,RU,RL,if_true,if_false,forall_const,implies_true,Nat.reduceLeDiff,Nat.reduceLT,pureOp,binPure,intBin,strBin,eqPure,isConstO,unPure,sliceLo,sliceHi,slicePure,lenPure,minPure,maxPure,buildP,resK,endV,yieldE,↓reduceIte,Nat.reduceEqDiff,reduceCtorEq,Nat.reduceAdd,Nat.reduceMul,Nat.reduceSub,Int.reduceLT,Int.reduceLE,Int.reduceToNat,Int.reduceAdd,Int.reduceSub,Int.reduceMul,ne_eq,decide_true,decide_false,tf38, he1]
  · simp only [↓RD,↓c_seq,RU,RL,if_true,if_false,forall_const,implies_true,Nat.reduceLeDiff,Nat.reduceLT,pureOp,binPure,intBin,strBin,eqPure,isConstO,unPure,sliceLo,sliceHi,slicePure,lenPure,minPure,maxPure,buildP,resK,endV,yieldE,↓reduceIte,Nat.reduceEqDiff,reduceCtorEq,Nat.reduceAdd,Nat.reduceMul,Nat.reduceSub,Int.reduceLT,Int.reduceLE,Int.reduceToNat,Int.reduceAdd,Int.reduceSub,Int.reduceMul,ne_eq,decide_true,decide_false,tf38, Int.cast_ofNat_Int]
  rintro e' w' ⟨h0, h1, k, b, F', h4, hk, hb0, hW', hS⟩
  simp only [↓RD,↓c_seq,RU,RL,if_true,if_false,forall_const,implies_true,Nat.reduceLeDiff,Nat.reduceLT,pureOp,binPure,intBin,strBin,eqPure,isConstO,unPure,sliceLo,sliceHi,slicePure,lenPure,minPure,maxPure,buildP,resK,endV,yieldE,↓reduceIte,Nat.reduceEqDiff,reduceCtorEq,Nat.reduceAdd,Nat.reduceMul,Nat.reduceSub,Int.reduceLT,Int.reduceLE,Int.reduceToNat,Int.reduceAdd,Int.reduceSub,Int.reduceMul,ne_eq,decide_true,decide_false,tf38, h0, h1, h4]
  refine ⟨fun hlt => ?_, fun hge => ?_⟩
  · have hk4 : k < 4 := by omega
    have e1 : IntKind.i64.wrap (24 - IntKind.i64.wrap (8 * (k : Int))) = ((24 - 8 * k : Nat) : Int) := by
      rw [wrap_i64_in (n := 8 * (k : Int)) (by omega) (by omega), wrap_i64_in (by omega) (by omega)]; omega
    have e2 : shrOp .u32 v ((24 - 8 * k : Nat) : Int) = v / 2 ^ (24 - 8 * k) := shr_eq .u32 v (24 - 8 * k) (by simp [IntKind.bits]; omega) _ rfl
    simp only [↓RD,↓c_seq,RU,RL,if_true,if_false,forall_const,implies_true,Nat.reduceLeDiff,Nat.reduceLT,pureOp,binPure,intBin,strBin,eqPure,isConstO,unPure,sliceLo,sliceHi,slicePure,lenPure,minPure,maxPure,buildP,resK,endV,yieldE,↓reduceIte,Nat.reduceEqDiff,reduceCtorEq,Nat.reduceAdd,Nat.reduceMul,Nat.reduceSub,Int.reduceLT,Int.reduceLE,Int.reduceToNat,Int.reduceAdd,Int.reduceSub,Int.reduceMul,ne_eq,decide_true,decide_false,tf38, e1, e2, wrap_u8]
    refine ⟨by omega, ?_⟩
    refine rbyte_ok hW' (by rw [List.length_append, List.length_take, be32_len]; omega) (fun w2 F2 hW2 hS2 => ?_)
    rw [List.append_assoc, be32_take v hk4] at hW2
    simp only [↓RD,↓c_seq,RU,RL,if_true,if_false,forall_const,implies_true,Nat.reduceLeDiff,Nat.reduceLT,pureOp,binPure,intBin,strBin,eqPure,isConstO,unPure,sliceLo,sliceHi,slicePure,lenPure,minPure,maxPure,buildP,resK,endV,yieldE,↓reduceIte,Nat.reduceEqDiff,reduceCtorEq,Nat.reduceAdd,Nat.reduceMul,Nat.reduceSub,Int.reduceLT,Int.reduceLE,Int.reduceToNat,Int.reduceAdd,Int.reduceSub,Int.reduceMul,ne_eq,decide_true,decide_false,tf38, h0, h1, h4]
    refine hold_intro ⟨⟨?_, ?_, k + 1, 0, F2, ?_, by omega, by omega, hW2, hS.trans hS2⟩, ?_⟩
    · simp only [↓RD,↓c_seq,RU,RL,if_true,if_false,forall_const,implies_true,Nat.reduceLeDiff,Nat.reduceLT,pureOp,binPure,intBin,strBin,eqPure,isConstO,unPure,sliceLo,sliceHi,slicePure,lenPure,minPure,maxPure,buildP,resK,endV,yieldE,↓reduceIte,Nat.reduceEqDiff,reduceCtorEq,Nat.reduceAdd,Nat.reduceMul,Nat.reduceSub,Int.reduceLT,Int.reduceLE,Int.reduceToNat,Int.reduceAdd,Int.reduceSub,Int.reduceMul,ne_eq,decide_true,decide_false,tf38, h0]
    · simp only [↓RD,↓c_seq,RU,RL,if_true,if_false,forall_const,implies_true,Nat.reduceLeDiff,Nat.reduceLT,pureOp,binPure,intBin,strBin,eqPure,isConstO,unPure,sliceLo,sliceHi,slicePure,lenPure,minPure,maxPure,buildP,resK,endV,yieldE,↓reduceIte,Nat.reduceEqDiff,reduceCtorEq,Nat.reduceAdd,Nat.reduceMul,Nat.reduceSub,Int.reduceLT,Int.reduceLE,Int.reduceToNat,Int.reduceAdd,Int.reduceSub,Int.reduceMul,ne_eq,decide_true,decide_false,tf38, h1]
    · simp only [↓RD,↓c_seq,RU,RL,if_true,if_false,forall_const,implies_true,Nat.reduceLeDiff,Nat.reduceLT,pureOp,binPure,intBin,strBin,eqPure,isConstO,unPure,sliceLo,sliceHi,slicePure,lenPure,minPure,maxPure,buildP,resK,endV,yieldE,↓reduceIte,Nat.reduceEqDiff,reduceCtorEq,Nat.reduceAdd,Nat.reduceMul,Nat.reduceSub,Int.reduceLT,Int.reduceLE,Int.reduceToNat,Int.reduceAdd,Int.reduceSub,Int.reduceMul,ne_eq,decide_true,decide_false,tf38, h4]
      rw [wrap_i64_in (by omega) (by omega)]; rfl
    · simp only [↓RD,↓c_seq,RU,RL,if_true,if_false,forall_const,implies_true,Nat.reduceLeDiff,Nat.reduceLT,pureOp,binPure,intBin,strBin,eqPure,isConstO,unPure,sliceLo,sliceHi,slicePure,lenPure,minPure,maxPure,buildP,resK,endV,yieldE,↓reduceIte,Nat.reduceEqDiff,reduceCtorEq,Nat.reduceAdd,Nat.reduceMul,Nat.reduceSub,Int.reduceLT,Int.reduceLE,Int.reduceToNat,Int.reduceAdd,Int.reduceSub,Int.reduceMul,ne_eq,decide_true,decide_false,tf38, h4]
      rw [wrap_i64_in (by omega) (by omega), envInt_int, envInt_int]; omega
  · obtain rfl : k = 4 := by omega
    obtain rfl := hb0 rfl
    exact h w' F' hW' hS

theorem ruint_ok {w : World} {F : Nat → Prop} {p : Nat} {zs : List Int} {bits : Nat} (hW : WAt 33 w F p zs bits) {v : Int} (h0 : 0 ≤ v) (h1 : v < 18446744073709551616) (hb : zs.length + 10 ≤ 140737488355328) {R : VWK}
    (h : ∀ w' F', WAt 33 w' F' p (zs ++ uvar v.toNat) 0 → Step F F' w w' → R (.tuple #[]) w') :
    CallsV Try.prog 39 [.pointer (some ⟨p, 0, none⟩), .int .u64 v] w R := by
  have hl := uvar_len64 (v := v.toNat) (by omega)
  refine calls_of_wpC mixed Try.func39 rfl (by kernel_rfl) ?_
  intro e he
  have he0 := he 0
  have he1 := he 1
  simp only [List.getD_cons_zero, List.getD_cons_succ] at he0 he1
  clear he
  simp only [↓RD,↓c_seq,RU,RL,if_true,if_false,forall_const,implies_true,Nat.reduceLeDiff,Nat.reduceLT,pureOp,binPure,intBin,strBin,eqPure,isConstO,unPure,sliceLo,sliceHi,slicePure,lenPure,minPure,maxPure,buildP,resK,endV,yieldE,↓reduceIte,Nat.reduceEqDiff,reduceCtorEq,Nat.reduceAdd,Nat.reduceMul,Nat.reduceSub,Int.reduceLT,Int.reduceLE,Int.reduceToNat,Int.reduceAdd,Int.reduceSub,Int.reduceMul,ne_eq,decide_true,decide_false,tf39, he0, he1]
  refine wpLoop_intro (fun e' w' => e' 0 = .pointer (some ⟨p, 0, none⟩) ∧ ∃ (u : Int) (ys : List Int) (b : Nat) (F' : Nat → Prop), e' 1 = .int .u64 u ∧ 0 ≤ u ∧ u < 18446744073709551616 ∧ WAt 33 w' F' p ys b ∧ Step F F' w w' ∧ ys ++ uvar u.toNat = zs ++ uvar v.toNat)
    (fun e' _ => (envInt (e' 1)).toNat) ⟨he0, v, zs, bits, F, he1, h0, h1, hW, Step.refl F w, rfl⟩ ?_
  rintro e' w' ⟨h0', u, ys, b, F', h1', hu0, hu1, hW', hS, hys⟩
  have hlen : ys.length + (uvar u.toNat).length = zs.length + (uvar v.toNat).length := by
    have := congrArg List.length hys; simpa using this
  have hpos := uvar_pos u.toNat
  simp only [↓RD,↓c_seq,RU,RL,if_true,if_false,forall_const,implies_true,Nat.reduceLeDiff,Nat.reduceLT,pureOp,binPure,intBin,strBin,eqPure,isConstO,unPure,sliceLo,sliceHi,slicePure,lenPure,minPure,maxPure,buildP,resK,endV,yieldE,↓reduceIte,Nat.reduceEqDiff,reduceCtorEq,Nat.reduceAdd,Nat.reduceMul,Nat.reduceSub,Int.reduceLT,Int.reduceLE,Int.reduceToNat,Int.reduceAdd,Int.reduceSub,Int.reduceMul,ne_eq,decide_true,decide_false,tf39, h0', h1', wrap_u8]
  refine ⟨fun hge => ?_, fun hlt => ?_⟩
  · have hu := uvar_ge (v := u.toNat) (by omega)
    have e1 : (u.tmod 128 % 256 + 128) % 256 = u % 128 + 128 := by rw [Int.tmod_eq_emod_of_nonneg hu0]; omega
    have e2 : IntKind.u64.wrap (u.tdiv 128) = u / 128 := by rw [Int.tdiv_eq_ediv_of_nonneg hu0, wrap_u64]; omega
    try simp only [↓RD,↓c_seq,RU,RL,if_true,if_false,forall_const,implies_true,Nat.reduceLeDiff,Nat.reduceLT,pureOp,binPure,intBin,strBin,eqPure,isConstO,unPure,sliceLo,sliceHi,slicePure,lenPure,minPure,maxPure,buildP,resK,endV,yieldE,↓reduceIte,Nat.reduceEqDiff,reduceCtorEq,Nat.reduceAdd,Nat.reduceMul,Nat.reduceSub,Int.reduceLT,Int.reduceLE,Int.reduceToNat,Int.reduceAdd,Int.reduceSub,Int.reduceMul,ne_eq,decide_true,decide_false,tf39, h0', h1', wrap_u8, e1, e2]
    refine ⟨by omega, rbyte_ok hW' (by omega) (fun w2 F2 hW2 hS2 => ?_)⟩
    simp only [↓RD,↓c_seq,RU,RL,if_true,if_false,forall_const,implies_true,Nat.reduceLeDiff,Nat.reduceLT,pureOp,binPure,intBin,strBin,eqPure,isConstO,unPure,sliceLo,sliceHi,slicePure,lenPure,minPure,maxPure,buildP,resK,endV,yieldE,↓reduceIte,Nat.reduceEqDiff,reduceCtorEq,Nat.reduceAdd,Nat.reduceMul,Nat.reduceSub,Int.reduceLT,Int.reduceLE,Int.reduceToNat,Int.reduceAdd,Int.reduceSub,Int.reduceMul,ne_eq,decide_true,decide_false,tf39, h0', h1', e2]
    refine ⟨by omega, ?_⟩
    try simp only [↓RD,↓c_seq,RU,RL,if_true,if_false,forall_const,implies_true,Nat.reduceLeDiff,Nat.reduceLT,pureOp,binPure,intBin,strBin,eqPure,isConstO,unPure,sliceLo,sliceHi,slicePure,lenPure,minPure,maxPure,buildP,resK,endV,yieldE,↓reduceIte,Nat.reduceEqDiff,reduceCtorEq,Nat.reduceAdd,Nat.reduceMul,Nat.reduceSub,Int.reduceLT,Int.reduceLE,Int.reduceToNat,Int.reduceAdd,Int.reduceSub,Int.reduceMul,ne_eq,decide_true,decide_false,tf39, h0', h1', e2]
    refine hold_intro ⟨⟨?_, u / 128, _, 0, F2, ?_, by omega, by omega, hW2, hS.trans hS2, ?_⟩, ?_⟩
    · simp only [↓RD,↓c_seq,RU,RL,if_true,if_false,forall_const,implies_true,Nat.reduceLeDiff,Nat.reduceLT,pureOp,binPure,intBin,strBin,eqPure,isConstO,unPure,sliceLo,sliceHi,slicePure,lenPure,minPure,maxPure,buildP,resK,endV,yieldE,↓reduceIte,Nat.reduceEqDiff,reduceCtorEq,Nat.reduceAdd,Nat.reduceMul,Nat.reduceSub,Int.reduceLT,Int.reduceLE,Int.reduceToNat,Int.reduceAdd,Int.reduceSub,Int.reduceMul,ne_eq,decide_true,decide_false,tf39, h0']
    · simp only [↓RD,↓c_seq,RU,RL,if_true,if_false,forall_const,implies_true,Nat.reduceLeDiff,Nat.reduceLT,pureOp,binPure,intBin,strBin,eqPure,isConstO,unPure,sliceLo,sliceHi,slicePure,lenPure,minPure,maxPure,buildP,resK,endV,yieldE,↓reduceIte,Nat.reduceEqDiff,reduceCtorEq,Nat.reduceAdd,Nat.reduceMul,Nat.reduceSub,Int.reduceLT,Int.reduceLE,Int.reduceToNat,Int.reduceAdd,Int.reduceSub,Int.reduceMul,ne_eq,decide_true,decide_false,tf39, h1']
    · rw [← hys, hu, List.append_assoc]
      simp only [List.singleton_append]
      congr 2
      · omega
      · congr 1; omega
    · simp only [↓RD,↓c_seq,RU,RL,if_true,if_false,forall_const,implies_true,Nat.reduceLeDiff,Nat.reduceLT,pureOp,binPure,intBin,strBin,eqPure,isConstO,unPure,sliceLo,sliceHi,slicePure,lenPure,minPure,maxPure,buildP,resK,endV,yieldE,↓reduceIte,Nat.reduceEqDiff,reduceCtorEq,Nat.reduceAdd,Nat.reduceMul,Nat.reduceSub,Int.reduceLT,Int.reduceLE,Int.reduceToNat,Int.reduceAdd,Int.reduceSub,Int.reduceMul,ne_eq,decide_true,decide_false,tf39, h1']
      rw [envInt_int, envInt_int]; omega
  · have hu := uvar_lt (v := u.toNat) (by omega)
    rw [hu] at hys hlen
    refine rbyte_ok hW' (by simp at hlen; omega) (fun w2 F2 hW2 hS2 => ?_)
    simp only [↓RD,↓c_seq,RU,RL,if_true,if_false,forall_const,implies_true,Nat.reduceLeDiff,Nat.reduceLT,pureOp,binPure,intBin,strBin,eqPure,isConstO,unPure,sliceLo,sliceHi,slicePure,lenPure,minPure,maxPure,buildP,resK,endV,yieldE,↓reduceIte,Nat.reduceEqDiff,reduceCtorEq,Nat.reduceAdd,Nat.reduceMul,Nat.reduceSub,Int.reduceLT,Int.reduceLE,Int.reduceToNat,Int.reduceAdd,Int.reduceSub,Int.reduceMul,ne_eq,decide_true,decide_false,tf39, h0', h1']
    refine h w2 F2 ?_ (hS.trans hS2)
    rw [← hys]
    rw [show (u.toNat : Int) = u % 256 by omega]
    exact hW2

theorem fold_ok {w : World} {v : Int} (h0 : -9223372036854775808 ≤ v) (h1 : v < 9223372036854775808) {R : VWK} (h : R (.int .u64 (foldI v)) w) :
    CallsV Try.prog 84 [.int .i64 v] w R := by
  refine calls_of_wpC mixed Try.func84 rfl (by kernel_rfl) ?_
  intro e he
  have he0 := he 0
  simp only [List.getD_cons_zero, List.getD_cons_succ] at he0
  clear he
  simp only [↓RD,↓c_seq,RU,RL,if_true,if_false,forall_const,implies_true,Nat.reduceLeDiff,Nat.reduceLT,pureOp,binPure,intBin,strBin,eqPure,isConstO,unPure,sliceLo,sliceHi,slicePure,lenPure,minPure,maxPure,buildP,resK,endV,yieldE,↓reduceIte,Nat.reduceEqDiff,reduceCtorEq,Nat.reduceAdd,Nat.reduceMul,Nat.reduceSub,Int.reduceLT,Int.reduceLE,Int.reduceToNat,Int.reduceAdd,Int.reduceSub,Int.reduceMul,ne_eq,decide_true,decide_false,tf84, he0, wrap_u64]
  unfold foldI at h
  refine ⟨fun hge => ?_, fun hlt => ?_⟩
  · rw [if_pos (by omega)] at h
    rw [show 2 * (v % 18446744073709551616) % 18446744073709551616 = 2 * v by omega]
    exact h
  · rw [if_neg (by omega)] at h
    have e1 : IntKind.i64.wrap (v + 1) = v + 1 := wrap_i64_in (by omega) (by omega)
    have e2 : IntKind.i64.wrap (0 - (v + 1)) = -(v + 1) := by rw [wrap_i64_in (by omega) (by omega)]; omega
    try simp only [↓RD,↓c_seq,RU,RL,if_true,if_false,forall_const,implies_true,Nat.reduceLeDiff,Nat.reduceLT,pureOp,binPure,intBin,strBin,eqPure,isConstO,unPure,sliceLo,sliceHi,slicePure,lenPure,minPure,maxPure,buildP,resK,endV,yieldE,↓reduceIte,Nat.reduceEqDiff,reduceCtorEq,Nat.reduceAdd,Nat.reduceMul,Nat.reduceSub,Int.reduceLT,Int.reduceLE,Int.reduceToNat,Int.reduceAdd,Int.reduceSub,Int.reduceMul,ne_eq,decide_true,decide_false,tf84, e1, e2, wrap_u64]
    rw [show (2 * (-(v + 1) % 18446744073709551616) % 18446744073709551616 + 1) % 18446744073709551616 = -2 * v - 1 by omega]
    exact h

theorem rint_ok {w : World} {F : Nat → Prop} {p : Nat} {zs : List Int} {bits : Nat} (hW : WAt 33 w F p zs bits) {v : Int} (h0 : -9223372036854775808 ≤ v) (h1 : v < 9223372036854775808) (hb : zs.length + 10 ≤ 140737488355328) {R : VWK}
    (h : ∀ w' F', WAt 33 w' F' p (zs ++ uvar (foldI v).toNat) 0 → Step F F' w w' → R (.tuple #[]) w') :
    CallsV Try.prog 40 [.pointer (some ⟨p, 0, none⟩), .int .i64 v] w R := by
  have hf := foldI_range h0 h1
  refine calls_of_wpC mixed Try.func40 rfl (by kernel_rfl) ?_
  intro e he
  have he0 := he 0
  have he1 := he 1
  simp only [List.getD_cons_zero, List.getD_cons_succ] at he0 he1
  clear he
  simp only [↓RD,↓c_seq,RU,RL,if_true,if_false,forall_const,implies_true,Nat.reduceLeDiff,Nat.reduceLT,pureOp,binPure,intBin,strBin,eqPure,isConstO,unPure,sliceLo,sliceHi,slicePure,lenPure,minPure,maxPure,buildP,resK,endV,yieldE,↓reduceIte,Nat.reduceEqDiff,reduceCtorEq,Nat.reduceAdd,Nat.reduceMul,Nat.reduceSub,Int.reduceLT,Int.reduceLE,Int.reduceToNat,Int.reduceAdd,Int.reduceSub,Int.reduceMul,ne_eq,decide_true,decide_false,tf40, he0, he1]
  refine fold_ok h0 h1 ?_
  simp only [↓RD,↓c_seq,RU,RL,if_true,if_false,forall_const,implies_true,Nat.reduceLeDiff,Nat.reduceLT,pureOp,binPure,intBin,strBin,eqPure,isConstO,unPure,sliceLo,sliceHi,slicePure,lenPure,minPure,maxPure,buildP,resK,endV,yieldE,↓reduceIte,Nat.reduceEqDiff,reduceCtorEq,Nat.reduceAdd,Nat.reduceMul,Nat.reduceSub,Int.reduceLT,Int.reduceLE,Int.reduceToNat,Int.reduceAdd,Int.reduceSub,Int.reduceMul,ne_eq,decide_true,decide_false,tf40, he0, he1]
  refine ruint_ok hW hf.1 hf.2 hb (fun w1 F1 hW1 hS1 => ?_)
  exact h w1 F1 hW1 hS1

theorem rraw_ok {w : World} {F : Nat → Prop} {p : Nat} {zs : List Int} {bits : Nat} (hW : WAt 33 w F p zs bits) {A : Option Addr} {m c : Nat} {xs : List Int}
    (hR : Rd w A m 1 (xs.map (Value.int .u8))) (hA : 0 < m → ∀ k, fpA A k → ¬ F k) (hb : zs.length + 10 + m ≤ 140737488355328) {R : VWK}
    (h : ∀ w' F', WAt 33 w' F' p (zs ++ (uvar xs.length ++ xs)) 0 → Step F F' w w' → R (.tuple #[]) w') :
    CallsV Try.prog 42 [.pointer (some ⟨p, 0, none⟩), .slice A m c] w R := by
  have hx := hR.len1
  have hl := uvar_len64 (v := m) (by omega)
  refine calls_of_wpC mixed Try.func42 rfl (by kernel_rfl) ?_
  intro e he
  have he0 := he 0
  have he1 := he 1
  simp only [List.getD_cons_zero, List.getD_cons_succ] at he0 he1
  clear he
  simp only [↓RD,↓c_seq,RU,RL,if_true,if_false,forall_const,implies_true,Nat.reduceLeDiff,Nat.reduceLT,pureOp,binPure,intBin,strBin,eqPure,isConstO,unPure,sliceLo,sliceHi,slicePure,lenPure,minPure,maxPure,buildP,resK,endV,yieldE,↓reduceIte,Nat.reduceEqDiff,reduceCtorEq,Nat.reduceAdd,Nat.reduceMul,Nat.reduceSub,Int.reduceLT,Int.reduceLE,Int.reduceToNat,Int.reduceAdd,Int.reduceSub,Int.reduceMul,ne_eq,decide_true,decide_false,tf42, he0, he1, wrap_u64]
  refine ruint_ok hW (by omega) (by omega) (by omega) (fun w1 F1 hW1 hS1 => ?_)
  have e : ((m : Int) % 18446744073709551616).toNat = xs.length := by omega
  rw [e] at hW1
  simp only [↓RD,↓c_seq,RU,RL,if_true,if_false,forall_const,implies_true,Nat.reduceLeDiff,Nat.reduceLT,pureOp,binPure,intBin,strBin,eqPure,isConstO,unPure,sliceLo,sliceHi,slicePure,lenPure,minPure,maxPure,buildP,resK,endV,yieldE,↓reduceIte,Nat.reduceEqDiff,reduceCtorEq,Nat.reduceAdd,Nat.reduceMul,Nat.reduceSub,Int.reduceLT,Int.reduceLE,Int.reduceToNat,Int.reduceAdd,Int.reduceSub,Int.reduceMul,ne_eq,decide_true,decide_false,tf42, he0, he1]
  refine wpLoop_intro (fun e' w' => e' 0 = .pointer (some ⟨p, 0, none⟩) ∧ e' 1 = .slice A m c ∧ ∃ (k : Nat) (F' : Nat → Prop), e' 4 = .int .i64 k ∧ k ≤ m ∧ WAt 33 w' F' p (zs ++ uvar xs.length ++ xs.take k) 0 ∧ Step F F' w w')
    (fun e' _ => m - (envInt (e' 4)).toNat) ⟨?_, ?_, 0, F1, ?_, by omega, by simpa using hW1, hS1⟩ ?_
  · simp only [↓RD,↓c_seq,RU,RL,if_true,if_false,forall_const,implies_true,Nat.reduceLeDiff,Nat.reduceLT,pureOp,binPure,intBin,strBin,eqPure,isConstO,unPure,sliceLo,sliceHi,slicePure,lenPure,minPure,maxPure,buildP,resK,endV,yieldE,↓reduceIte,Nat.reduceEqDiff,reduceCtorEq,Nat.reduceAdd,Nat.reduceMul,Nat.reduceSub,Int.reduceLT,Int.reduceLE,Int.reduceToNat,Int.reduceAdd,Int.reduceSub,Int.reduceMul,ne_eq,decide_true,decide_false,tf42, he0]
  · simp only [↓RD,↓c_seq,RU,RL,if_true,if_false,forall_const,implies_true,Nat.reduceLeDiff,Nat.reduceLT,pureOp,binPure,intBin,strBin,eqPure,isConstO,unPure,sliceLo,sliceHi,slicePure,lenPure,minPure,maxPure,buildP,resK,endV,yieldE,↓reduceIte,Nat.reduceEqDiff,reduceCtorEq,Nat.reduceAdd,Nat.reduceMul,Nat.reduceSub,Int.reduceLT,Int.reduceLE,Int.reduceToNat,Int.reduceAdd,Int.reduceSub,Int.reduceMul,ne_eq,decide_true,decide_false,tf42, he1]
  · simp only [↓RD,↓c_seq,RU,RL,if_true,if_false,forall_const,implies_true,Nat.reduceLeDiff,Nat.reduceLT,pureOp,binPure,intBin,strBin,eqPure,isConstO,unPure,sliceLo,sliceHi,slicePure,lenPure,minPure,maxPure,buildP,resK,endV,yieldE,↓reduceIte,Nat.reduceEqDiff,reduceCtorEq,Nat.reduceAdd,Nat.reduceMul,Nat.reduceSub,Int.reduceLT,Int.reduceLE,Int.reduceToNat,Int.reduceAdd,Int.reduceSub,Int.reduceMul,ne_eq,decide_true,decide_false,tf42, Int.cast_ofNat_Int]
  rintro e' w' ⟨h0, h1, k, F', h4, hk, hW', hS⟩
  simp only [↓RD,↓c_seq,RU,RL,if_true,if_false,forall_const,implies_true,Nat.reduceLeDiff,Nat.reduceLT,pureOp,binPure,intBin,strBin,eqPure,isConstO,unPure,sliceLo,sliceHi,slicePure,lenPure,minPure,maxPure,buildP,resK,endV,yieldE,↓reduceIte,Nat.reduceEqDiff,reduceCtorEq,Nat.reduceAdd,Nat.reduceMul,Nat.reduceSub,Int.reduceLT,Int.reduceLE,Int.reduceToNat,Int.reduceAdd,Int.reduceSub,Int.reduceMul,ne_eq,decide_true,decide_false,tf42, h0, h1, h4]
  refine ⟨fun hlt => ?_, fun hge => ?_⟩
  · have hk' : k < m := by omega
    obtain ⟨ad, rfl, hc⟩ := (hR.keep0 hS.keep hA).int (k := k) hk'
    try simp only [↓RD,↓c_seq,RU,RL,if_true,if_false,forall_const,implies_true,Nat.reduceLeDiff,Nat.reduceLT,pureOp,binPure,intBin,strBin,eqPure,isConstO,unPure,sliceLo,sliceHi,slicePure,lenPure,minPure,maxPure,buildP,resK,endV,yieldE,↓reduceIte,Nat.reduceEqDiff,reduceCtorEq,Nat.reduceAdd,Nat.reduceMul,Nat.reduceSub,Int.reduceLT,Int.reduceLE,Int.reduceToNat,Int.reduceAdd,Int.reduceSub,Int.reduceMul,ne_eq,decide_true,decide_false,tf42, h0, h1, h4]
    refine ⟨⟨by omega, by omega⟩, ?_⟩
    simp only [↓RD,↓c_seq,RU,RL,if_true,if_false,forall_const,implies_true,Nat.reduceLeDiff,Nat.reduceLT,pureOp,binPure,intBin,strBin,eqPure,isConstO,unPure,sliceLo,sliceHi,slicePure,lenPure,minPure,maxPure,buildP,resK,endV,yieldE,↓reduceIte,Nat.reduceEqDiff,reduceCtorEq,Nat.reduceAdd,Nat.reduceMul,Nat.reduceSub,Int.reduceLT,Int.reduceLE,Int.reduceToNat,Int.reduceAdd,Int.reduceSub,Int.reduceMul,ne_eq,decide_true,decide_false,tf42, h0, h1, h4, hc]
    refine rbyte_ok hW' (by rw [List.length_append, List.length_append, List.length_take, hx]; omega) (fun w2 F2 hW2 hS2 => ?_)
    have et : xs.take k ++ [xs.getD k 0] = xs.take (k + 1) := by
      rw [List.take_add_one, List.getD_eq_getElem?_getD, List.getElem?_eq_getElem (by omega)]; rfl
    rw [List.append_assoc, et] at hW2
    simp only [↓RD,↓c_seq,RU,RL,if_true,if_false,forall_const,implies_true,Nat.reduceLeDiff,Nat.reduceLT,pureOp,binPure,intBin,strBin,eqPure,isConstO,unPure,sliceLo,sliceHi,slicePure,lenPure,minPure,maxPure,buildP,resK,endV,yieldE,↓reduceIte,Nat.reduceEqDiff,reduceCtorEq,Nat.reduceAdd,Nat.reduceMul,Nat.reduceSub,Int.reduceLT,Int.reduceLE,Int.reduceToNat,Int.reduceAdd,Int.reduceSub,Int.reduceMul,ne_eq,decide_true,decide_false,tf42, h0, h1, h4]
    refine hold_intro ⟨⟨?_, ?_, k + 1, F2, ?_, by omega, hW2, hS.trans hS2⟩, ?_⟩
    · simp only [↓RD,↓c_seq,RU,RL,if_true,if_false,forall_const,implies_true,Nat.reduceLeDiff,Nat.reduceLT,pureOp,binPure,intBin,strBin,eqPure,isConstO,unPure,sliceLo,sliceHi,slicePure,lenPure,minPure,maxPure,buildP,resK,endV,yieldE,↓reduceIte,Nat.reduceEqDiff,reduceCtorEq,Nat.reduceAdd,Nat.reduceMul,Nat.reduceSub,Int.reduceLT,Int.reduceLE,Int.reduceToNat,Int.reduceAdd,Int.reduceSub,Int.reduceMul,ne_eq,decide_true,decide_false,tf42, h0]
    · simp only [↓RD,↓c_seq,RU,RL,if_true,if_false,forall_const,implies_true,Nat.reduceLeDiff,Nat.reduceLT,pureOp,binPure,intBin,strBin,eqPure,isConstO,unPure,sliceLo,sliceHi,slicePure,lenPure,minPure,maxPure,buildP,resK,endV,yieldE,↓reduceIte,Nat.reduceEqDiff,reduceCtorEq,Nat.reduceAdd,Nat.reduceMul,Nat.reduceSub,Int.reduceLT,Int.reduceLE,Int.reduceToNat,Int.reduceAdd,Int.reduceSub,Int.reduceMul,ne_eq,decide_true,decide_false,tf42, h1]
    · simp only [↓RD,↓c_seq,RU,RL,if_true,if_false,forall_const,implies_true,Nat.reduceLeDiff,Nat.reduceLT,pureOp,binPure,intBin,strBin,eqPure,isConstO,unPure,sliceLo,sliceHi,slicePure,lenPure,minPure,maxPure,buildP,resK,endV,yieldE,↓reduceIte,Nat.reduceEqDiff,reduceCtorEq,Nat.reduceAdd,Nat.reduceMul,Nat.reduceSub,Int.reduceLT,Int.reduceLE,Int.reduceToNat,Int.reduceAdd,Int.reduceSub,Int.reduceMul,ne_eq,decide_true,decide_false,tf42, h4]
      rw [wrap_i64_in (by omega) (by omega)]; rfl
    · simp only [↓RD,↓c_seq,RU,RL,if_true,if_false,forall_const,implies_true,Nat.reduceLeDiff,Nat.reduceLT,pureOp,binPure,intBin,strBin,eqPure,isConstO,unPure,sliceLo,sliceHi,slicePure,lenPure,minPure,maxPure,buildP,resK,endV,yieldE,↓reduceIte,Nat.reduceEqDiff,reduceCtorEq,Nat.reduceAdd,Nat.reduceMul,Nat.reduceSub,Int.reduceLT,Int.reduceLE,Int.reduceToNat,Int.reduceAdd,Int.reduceSub,Int.reduceMul,ne_eq,decide_true,decide_false,tf42, h4]
      rw [wrap_i64_in (by omega) (by omega), envInt_int, envInt_int]; omega
  · obtain rfl : k = m := by omega
    rw [List.take_of_length_le (by omega), List.append_assoc] at hW'
    exact h w' F' hW' hS

theorem brought_ok {w : World} {n : Int} {R : VWK} (h : R (.int .i64 (brought n)) w) : CallsV Try.prog 85 [.int .i64 n] w R := by
  refine calls_of_wpC mixed Try.func85 rfl (by kernel_rfl) ?_
  intro e he
  have he0 := he 0
  simp only [List.getD_cons_zero, List.getD_cons_succ] at he0
  clear he
  simp only [↓RD,↓c_seq,RU,RL,if_true,if_false,forall_const,implies_true,Nat.reduceLeDiff,Nat.reduceLT,pureOp,binPure,intBin,strBin,eqPure,isConstO,unPure,sliceLo,sliceHi,slicePure,lenPure,minPure,maxPure,buildP,resK,endV,yieldE,↓reduceIte,Nat.reduceEqDiff,reduceCtorEq,Nat.reduceAdd,Nat.reduceMul,Nat.reduceSub,Int.reduceLT,Int.reduceLE,Int.reduceToNat,Int.reduceAdd,Int.reduceSub,Int.reduceMul,ne_eq,decide_true,decide_false,tf85, he0]
  unfold brought at h
  refine ⟨fun h1 => ?_, fun h1 => ?_⟩
  · rw [if_pos h1] at h; exact h
  · rw [if_neg h1] at h
    refine ⟨fun h2 => ?_, fun h2 => ?_⟩
    · rw [if_pos h2] at h; exact h
    · rw [if_neg h2, Int.toNat_of_nonneg (by omega)] at h; exact h

end Go.Proofs.Ytcjlhfmjcioeeaa
