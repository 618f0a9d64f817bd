/- Walks over package wire's Writer: what each call leaves of the bytes written. -/
import Derived.Test.YtpocfghkolppmaaTab
import Derived.Test.YtpocfghkolppmaaMem
import Derived.Test.YtpocfghkolppmaaSame
import Derived.Test.YtpocfghkolppmaaPureA
set_option linter.unusedVariables false
set_option linter.unusedSimpArgs false
set_option maxRecDepth 100000
namespace Go.Proofs.Ytpocfghkolppmaa
open Go

/-- a call may turn what lies in F; behind it the thing lies in F'. -/
structure Step (F F' : Nat → Prop) (w w' : World) : Prop where
  keep : Keep F w w'
  sub : ∀ k, F' k → F k ∨ w.heap.size ≤ k

theorem Step.refl (F : Nat → Prop) (w : World) : Step F F w w := ⟨Keep.refl F w, fun _ h => .inl h⟩
theorem Step.trans {F G H : Nat → Prop} {a b c : World} (h : Step F G a b) (k : Step G H b c) : Step F H a c :=
  ⟨h.keep.trans k.keep (fun _ _ h => h) (fun i hi hg => (h.sub i hg).elim id (fun h => absurd h (by omega))),
   fun i hi => (k.sub i hi).elim (h.sub i) (fun h2 => .inr (Nat.le_trans h.keep.size h2))⟩
theorem Step.grow {F G : Nat → Prop} {a b c : World} (h : Step F G a b) (k : Grow b c) : Step F G a c := ⟨h.keep.then_grow k, h.sub⟩
theorem Grow.step {F G : Nat → Prop} {a b c : World} (h : Grow a b) (k : Step F G b c) : Step F G a c :=
  ⟨h.then k.keep, fun i hi => (k.sub i hi).imp id (fun h2 => Nat.le_trans h.size h2)⟩



/-- a Writer (the program's or the document's) at block p: its bytes, and how many bits of the last one are used. -/
def WAt (T : TypeId) (w : World) (F : Nat → Prop) (p : Nat) (zs : List Int) (bits : Nat) : Prop :=
  ∃ sv, Blk w p T [sv, .int .i64 (bits : Nat)] ∧ w.ownsRow 0 5 1 sv zs.length (zs.map (Value.int .u8)) ∧ F = fun k => k = p ∨ fpV sv k

section
variable {T : TypeId} {w w' : World} {F : Nat → Prop} {p : Nat} {zs : List Int} {bits : Nat}
theorem WAt.lt (h : WAt T w F p zs bits) : ∀ k, F k → k < w.heap.size := by
  obtain ⟨sv, hB, hO, rfl⟩ := h
  rintro k (rfl | hk)
  · exact hB.lt
  · exact own_lt hO k hk
theorem WAt.keep {G : Nat → Prop} (h : WAt T w F p zs bits) (hk : Keep G w w') (hd : ∀ k, F k → ¬ G k) : WAt T w' F p zs bits := by
  obtain ⟨sv, hB, hO, rfl⟩ := h
  exact ⟨sv, hB.keep hk (hd p (.inl rfl)), own_keep hO hk (fun k hf => hd k (.inr hf)), rfl⟩
theorem WAt.grow (h : WAt T w F p zs bits) (hk : Grow w w') : WAt T w' F p zs bits := h.keep hk (fun _ _ h => h)
end

theorem ints_one (k : IntKind) (zs : List Int) : ∀ u ∈ zs.map (Value.int k), u.oneCell' = true := by
  intro u hu
  obtain ⟨z, _, rfl⟩ := List.mem_map.1 hu
  rfl

theorem put_ok {w : World} {F : Nat → Prop} {p : Nat} {zs : List Int} {bits : Nat} (hW : WAt 65 w F p zs bits) {A : Option Addr} {m c : Nat} {xs : List Int}
    (hR : Rd w A m 1 (xs.map (Value.int .u8))) (hb : zs.length + m ≤ 140737488355328) {R : VWK}
    (h : ∀ w' F', WAt 65 w' F' p (zs ++ xs) 0 → Step F F' w w' → R (.tuple #[]) w') :
    CallsV Try.prog 38 [.pointer (some ⟨p, 0, none⟩), .slice A m c] w R := by
  obtain ⟨sv, hB, hO, rfl⟩ := hW
  refine calls_of_wpC mixed Try.func38 rfl (by kernel_rfl) ?_
  intro e he
  have he0 := he 0
  have he1 := he 1
  simp only [List.getD_cons_zero, List.getD_cons_succ] at he0 he1
  clear he
  simp only [↓RD,↓c_seq,RU,RL,if_true,if_false,forall_const,implies_true,Nat.reduceLeDiff,Nat.reduceLT,pureOp,binPure,intBin,strBin,eqPure,isConstO,unPure,sliceLo,sliceHi,slicePure,slice3Pure,lenPure,capPure,minPure,maxPure,buildP,resK,endV,yieldE,↓reduceIte,Nat.reduceEqDiff,reduceCtorEq,Nat.reduceAdd,Nat.reduceMul,Nat.reduceSub,Int.reduceLT,Int.reduceLE,Int.reduceToNat,Int.reduceAdd,Int.reduceSub,Int.reduceMul,ne_eq,decide_true,decide_false,tf38, he0, he1, add_lit', hB.cell]
  refine appK_own (bytes := 1) (by kernel_rfl) hO hR (ints_one _ _) (by simp only [maxLen]; omega) (by omega) (fun A' c' w1 hO1 hK1 hF1 => ?_)
  have hne := own_blk_ne hO hB (by decide)
  have hB1 := hB.keep hK1 hne
  have hne1 : ¬ fpV (.slice A' (zs.length + m) c') p := fun hf => by
    rcases hF1 p hf with h1 | h1
    · exact hne h1
    · have := hB.lt; omega
  simp only [↓RD,↓c_seq,RU,RL,if_true,if_false,forall_const,implies_true,Nat.reduceLeDiff,Nat.reduceLT,pureOp,binPure,intBin,strBin,eqPure,isConstO,unPure,sliceLo,sliceHi,slicePure,slice3Pure,lenPure,capPure,minPure,maxPure,buildP,resK,endV,yieldE,↓reduceIte,Nat.reduceEqDiff,reduceCtorEq,Nat.reduceAdd,Nat.reduceMul,Nat.reduceSub,Int.reduceLT,Int.reduceLE,Int.reduceToNat,Int.reduceAdd,Int.reduceSub,Int.reduceMul,ne_eq,decide_true,decide_false,tf38, he0, he1, add_lit']
  refine hB1.st (by simp) ?_
  have hB2 := hB1.set 0 (.slice A' (zs.length + m) c')
  simp only [↓RD,↓c_seq,RU,RL,if_true,if_false,forall_const,implies_true,Nat.reduceLeDiff,Nat.reduceLT,pureOp,binPure,intBin,strBin,eqPure,isConstO,unPure,sliceLo,sliceHi,slicePure,slice3Pure,lenPure,capPure,minPure,maxPure,buildP,resK,endV,yieldE,↓reduceIte,Nat.reduceEqDiff,reduceCtorEq,Nat.reduceAdd,Nat.reduceMul,Nat.reduceSub,Int.reduceLT,Int.reduceLE,Int.reduceToNat,Int.reduceAdd,Int.reduceSub,Int.reduceMul,ne_eq,decide_true,decide_false,tf38, he0, he1, add_lit']
  refine hB2.st (by simp) ?_
  have hB3 := hB2.set 1 (.int .i64 0)
  simp only [↓RD,↓c_seq,RU,RL,if_true,if_false,forall_const,implies_true,Nat.reduceLeDiff,Nat.reduceLT,pureOp,binPure,intBin,strBin,eqPure,isConstO,unPure,sliceLo,sliceHi,slicePure,slice3Pure,lenPure,capPure,minPure,maxPure,buildP,resK,endV,yieldE,↓reduceIte,Nat.reduceEqDiff,reduceCtorEq,Nat.reduceAdd,Nat.reduceMul,Nat.reduceSub,Int.reduceLT,Int.reduceLE,Int.reduceToNat,Int.reduceAdd,Int.reduceSub,Int.reduceMul,ne_eq,decide_true,decide_false,tf38, he0, he1]
  have hm : m = xs.length := by have := hR.1; simp at this; omega
  subst hm
  have k1 := Keep.set1 w1 p 0 (.slice A' (zs.length + xs.length) c')
  have k2 := Keep.set1 (w1.setCell ⟨p, 0, none⟩ (.slice A' (zs.length + xs.length) c')) p 1 (.int .i64 0)
  refine h _ _ ⟨_, by simpa using hB3, ?_, rfl⟩ ⟨?_, ?_⟩
  · have := own_keep (own_keep hO1 k1 (fun k hk e => hne1 (e ▸ hk))) k2 (fun k hk e => hne1 (e ▸ hk))
    simpa using this
  · exact (hK1.trans k1 (H := fun k => k = p ∨ fpV sv k) (fun _ _ h => .inr h) (fun _ _ h => .inl h)).trans k2 (fun _ _ h => h) (fun _ _ h => .inl h)
  · rintro k (rfl | hk)
    · exact .inl (.inl rfl)
    · rcases hF1 k hk with h1 | h1
      · exact .inl (.inr h1)
      · exact .inr (by omega)


theorem rd_new1 (w : World) (e : TypeId) (xs : List Int) (n : Nat) (hn : xs.length = n) : Rd (w.alloc (.cells (xs.map (Value.int .u8)).toArray e)) (some ⟨w.heap.size, 0, none⟩) n 1 (xs.map (Value.int .u8)) :=
  Rd.of_cells _ _ n e _ (Blk.new w e _) (by simpa using hn)

theorem uint_ok {w : World} {F : Nat → Prop} {p : Nat} {zs : List Int} {bits : Nat} (hW : WAt 65 w F p zs bits) {v : Int} (h0 : 0 ≤ v) (h1 : v < 18446744073709551616) (hb : zs.length + 10 ≤ 140737488355328) {R : VWK}
    (h : ∀ w' F', WAt 65 w' F' p (zs ++ uvar v.toNat) 0 → Step F F' w w' → R (.tuple #[]) w') :
    CallsV Try.prog 31 [.pointer (some ⟨p, 0, none⟩), .int .u64 v] w R := by
  have hl := uvar_len64 (v := v.toNat) (by omega)
  refine calls_of_wpC mixed Try.func31 rfl (by kernel_rfl) ?_
  intro e he
  have he0 := he 0
  have he1 := he 1
  simp only [List.getD_cons_zero, List.getD_cons_succ] at he0 he1
  clear he
  simp only [↓RD,↓c_seq,RU,RL,if_true,if_false,forall_const,implies_true,Nat.reduceLeDiff,Nat.reduceLT,pureOp,binPure,intBin,strBin,eqPure,isConstO,unPure,sliceLo,sliceHi,slicePure,slice3Pure,lenPure,capPure,minPure,maxPure,buildP,resK,endV,yieldE,↓reduceIte,Nat.reduceEqDiff,reduceCtorEq,Nat.reduceAdd,Nat.reduceMul,Nat.reduceSub,Int.reduceLT,Int.reduceLE,Int.reduceToNat,Int.reduceAdd,Int.reduceSub,Int.reduceMul,ne_eq,decide_true,decide_false,tf31, he0, he1]
  refine wpLoop_intro (fun e' w' => e' 0 = .pointer (some ⟨p, 0, none⟩) ∧ ∃ (u : Int) (ys : List Int) (b : Nat) (F' : Nat → Prop), e' 1 = .int .u64 u ∧ 0 ≤ u ∧ u < 18446744073709551616 ∧ WAt 65 w' F' p ys b ∧ Step F F' w w' ∧ ys ++ uvar u.toNat = zs ++ uvar v.toNat)
    (fun e' _ => (envInt (e' 1)).toNat) ⟨he0, v, zs, bits, F, he1, h0, h1, hW, Step.refl F w, rfl⟩ ?_
  rintro e' w' ⟨h0', u, ys, b, F', h1', hu0, hu1, hW', hS, hys⟩
  have hlen : ys.length + (uvar u.toNat).length = zs.length + (uvar v.toNat).length := by
    have := congrArg List.length hys; simpa using this
  have hpos := uvar_pos u.toNat
  simp only [↓RD,↓c_seq,RU,RL,if_true,if_false,forall_const,implies_true,Nat.reduceLeDiff,Nat.reduceLT,pureOp,binPure,intBin,strBin,eqPure,isConstO,unPure,sliceLo,sliceHi,slicePure,slice3Pure,lenPure,capPure,minPure,maxPure,buildP,resK,endV,yieldE,↓reduceIte,Nat.reduceEqDiff,reduceCtorEq,Nat.reduceAdd,Nat.reduceMul,Nat.reduceSub,Int.reduceLT,Int.reduceLE,Int.reduceToNat,Int.reduceAdd,Int.reduceSub,Int.reduceMul,ne_eq,decide_true,decide_false,tf31, h0', h1', wrap_u8, shr_u64_7]
  refine ⟨fun hge => ?_, fun hlt => ?_⟩
  · have hu := uvar_ge (v := u.toNat) (by omega)
    rw [or_u8_128 (by omega) (by omega)]
    refine put_ok (hW'.grow (Grow.alloc w' _)) (rd_new1 w' _ [u % 256 % 128 + 128] 1 rfl) (by omega) (fun w2 F2 hW2 hS2 => ?_)
    simp only [↓RD,↓c_seq,RU,RL,if_true,if_false,forall_const,implies_true,Nat.reduceLeDiff,Nat.reduceLT,pureOp,binPure,intBin,strBin,eqPure,isConstO,unPure,sliceLo,sliceHi,slicePure,slice3Pure,lenPure,capPure,minPure,maxPure,buildP,resK,endV,yieldE,↓reduceIte,Nat.reduceEqDiff,reduceCtorEq,Nat.reduceAdd,Nat.reduceMul,Nat.reduceSub,Int.reduceLT,Int.reduceLE,Int.reduceToNat,Int.reduceAdd,Int.reduceSub,Int.reduceMul,ne_eq,decide_true,decide_false,tf31, h0', h1', shr_u64_7]
    refine hold_intro ⟨⟨?_, u / 128, _, 0, F2, ?_, by omega, by omega, hW2, hS.trans ((Grow.alloc w' _).step hS2), ?_⟩, ?_⟩
    · simp only [↓RD,↓c_seq,RU,RL,if_true,if_false,forall_const,implies_true,Nat.reduceLeDiff,Nat.reduceLT,pureOp,binPure,intBin,strBin,eqPure,isConstO,unPure,sliceLo,sliceHi,slicePure,slice3Pure,lenPure,capPure,minPure,maxPure,buildP,resK,endV,yieldE,↓reduceIte,Nat.reduceEqDiff,reduceCtorEq,Nat.reduceAdd,Nat.reduceMul,Nat.reduceSub,Int.reduceLT,Int.reduceLE,Int.reduceToNat,Int.reduceAdd,Int.reduceSub,Int.reduceMul,ne_eq,decide_true,decide_false,tf31, h0']
    · simp only [↓RD,↓c_seq,RU,RL,if_true,if_false,forall_const,implies_true,Nat.reduceLeDiff,Nat.reduceLT,pureOp,binPure,intBin,strBin,eqPure,isConstO,unPure,sliceLo,sliceHi,slicePure,slice3Pure,lenPure,capPure,minPure,maxPure,buildP,resK,endV,yieldE,↓reduceIte,Nat.reduceEqDiff,reduceCtorEq,Nat.reduceAdd,Nat.reduceMul,Nat.reduceSub,Int.reduceLT,Int.reduceLE,Int.reduceToNat,Int.reduceAdd,Int.reduceSub,Int.reduceMul,ne_eq,decide_true,decide_false,tf31, h1']
    · rw [← hys, hu, List.append_assoc]
      simp only [List.singleton_append]
      congr 2
      · omega
      · congr 1; omega
    · simp only [↓RD,↓c_seq,RU,RL,if_true,if_false,forall_const,implies_true,Nat.reduceLeDiff,Nat.reduceLT,pureOp,binPure,intBin,strBin,eqPure,isConstO,unPure,sliceLo,sliceHi,slicePure,slice3Pure,lenPure,capPure,minPure,maxPure,buildP,resK,endV,yieldE,↓reduceIte,Nat.reduceEqDiff,reduceCtorEq,Nat.reduceAdd,Nat.reduceMul,Nat.reduceSub,Int.reduceLT,Int.reduceLE,Int.reduceToNat,Int.reduceAdd,Int.reduceSub,Int.reduceMul,ne_eq,decide_true,decide_false,tf31, h1']
      rw [envInt_int, envInt_int]; omega
  · have hu := uvar_lt (v := u.toNat) (by omega)
    rw [hu] at hys hlen
    refine put_ok (hW'.grow (Grow.alloc w' _)) (rd_new1 w' _ [u % 256] 1 rfl) (by simp at hlen; omega) (fun w2 F2 hW2 hS2 => ?_)
    simp only [↓RD,↓c_seq,RU,RL,if_true,if_false,forall_const,implies_true,Nat.reduceLeDiff,Nat.reduceLT,pureOp,binPure,intBin,strBin,eqPure,isConstO,unPure,sliceLo,sliceHi,slicePure,slice3Pure,lenPure,capPure,minPure,maxPure,buildP,resK,endV,yieldE,↓reduceIte,Nat.reduceEqDiff,reduceCtorEq,Nat.reduceAdd,Nat.reduceMul,Nat.reduceSub,Int.reduceLT,Int.reduceLE,Int.reduceToNat,Int.reduceAdd,Int.reduceSub,Int.reduceMul,ne_eq,decide_true,decide_false,tf31, h0', h1']
    refine h w2 F2 ?_ (hS.trans ((Grow.alloc w' _).step hS2))
    rw [← hys]
    rw [show (u.toNat : Int) = u % 256 by omega]
    exact hW2

theorem raw_ok {w : World} {F : Nat → Prop} {p : Nat} {zs : List Int} {bits : Nat} (hW : WAt 65 w F p zs bits) {A : Option Addr} {m c : Nat} {xs : List Int}
    (hR : Rd w A m 1 (xs.map (Value.int .u8))) (hA : 0 < m → ∀ k, fpA A k → ¬ F k) (hb : zs.length + 10 + m ≤ 140737488355328) {R : VWK}
    (h : ∀ w' F', WAt 65 w' F' p (zs ++ (uvar xs.length ++ xs)) 0 → Step F F' w w' → R (.tuple #[]) w') :
    CallsV Try.prog 19 [.pointer (some ⟨p, 0, none⟩), .slice A m c] w R := by
  have hx := hR.len1
  have hl := uvar_len64 (v := m) (by omega)
  refine calls_of_wpC mixed Try.func19 rfl (by kernel_rfl) ?_
  intro e he
  have he0 := he 0
  have he1 := he 1
  simp only [List.getD_cons_zero, List.getD_cons_succ] at he0 he1
  clear he
  simp only [↓RD,↓c_seq,RU,RL,if_true,if_false,forall_const,implies_true,Nat.reduceLeDiff,Nat.reduceLT,pureOp,binPure,intBin,strBin,eqPure,isConstO,unPure,sliceLo,sliceHi,slicePure,slice3Pure,lenPure,capPure,minPure,maxPure,buildP,resK,endV,yieldE,↓reduceIte,Nat.reduceEqDiff,reduceCtorEq,Nat.reduceAdd,Nat.reduceMul,Nat.reduceSub,Int.reduceLT,Int.reduceLE,Int.reduceToNat,Int.reduceAdd,Int.reduceSub,Int.reduceMul,ne_eq,decide_true,decide_false,tf19, he0, he1, wrap_u64]
  refine uint_ok hW (by omega) (by omega) (by omega) (fun w1 F1 hW1 hS1 => ?_)
  simp only [↓RD,↓c_seq,RU,RL,if_true,if_false,forall_const,implies_true,Nat.reduceLeDiff,Nat.reduceLT,pureOp,binPure,intBin,strBin,eqPure,isConstO,unPure,sliceLo,sliceHi,slicePure,slice3Pure,lenPure,capPure,minPure,maxPure,buildP,resK,endV,yieldE,↓reduceIte,Nat.reduceEqDiff,reduceCtorEq,Nat.reduceAdd,Nat.reduceMul,Nat.reduceSub,Int.reduceLT,Int.reduceLE,Int.reduceToNat,Int.reduceAdd,Int.reduceSub,Int.reduceMul,ne_eq,decide_true,decide_false,tf19, he0, he1]
  have e : ((m : Int) % 18446744073709551616).toNat = xs.length := by omega
  rw [e] at hW1
  refine put_ok hW1 (hR.keep0 hS1.keep hA) (by rw [List.length_append]; rw [hx]; omega) (fun w2 F2 hW2 hS2 => ?_)
  refine h w2 F2 ?_ (hS1.trans hS2)
  rw [← List.append_assoc]
  exact hW2

theorem int_ok {w : World} {F : Nat → Prop} {p : Nat} {zs : List Int} {bits : Nat} (hW : WAt 65 w F p zs bits) {v : Int} (h0 : -9223372036854775808 ≤ v) (h1 : v < 9223372036854775808) (hb : zs.length + 10 ≤ 140737488355328) {R : VWK}
    (h : ∀ w' F', WAt 65 w' F' p (zs ++ uvar (foldI v).toNat) 0 → Step F F' w w' → R (.tuple #[]) w') :
    CallsV Try.prog 32 [.pointer (some ⟨p, 0, none⟩), .int .i64 v] w R := by
  have hf := foldI_range h0 h1
  refine calls_of_wpC mixed Try.func32 rfl (by kernel_rfl) ?_
  intro e he
  have he0 := he 0
  have he1 := he 1
  simp only [List.getD_cons_zero, List.getD_cons_succ] at he0 he1
  clear he
  simp only [↓RD,↓c_seq,RU,RL,if_true,if_false,forall_const,implies_true,Nat.reduceLeDiff,Nat.reduceLT,pureOp,binPure,intBin,strBin,eqPure,isConstO,unPure,sliceLo,sliceHi,slicePure,slice3Pure,lenPure,capPure,minPure,maxPure,buildP,resK,endV,yieldE,↓reduceIte,Nat.reduceEqDiff,reduceCtorEq,Nat.reduceAdd,Nat.reduceMul,Nat.reduceSub,Int.reduceLT,Int.reduceLE,Int.reduceToNat,Int.reduceAdd,Int.reduceSub,Int.reduceMul,ne_eq,decide_true,decide_false,tf32, he0, he1, wrap_u64, shl_u64_1, shr_i64_63]
  have e : bitsOp .xor .u64 (v % 18446744073709551616 * 2 % 18446744073709551616) (v / 9223372036854775808 % 18446744073709551616) = foldI v := by
    unfold foldI
    by_cases hv : 0 ≤ v
    · rw [if_pos hv, show v / 9223372036854775808 % 18446744073709551616 = 0 by omega, xor_u64_zero (by omega) (by omega)]; omega
    · rw [if_neg hv, show v / 9223372036854775808 % 18446744073709551616 = 18446744073709551615 by omega, xor_u64_ones (by omega) (by omega)]; omega
  rw [e]
  refine uint_ok hW hf.1 hf.2 hb (fun w1 F1 hW1 hS1 => ?_)
  exact h w1 F1 hW1 hS1

/-- slices.Clone of bytes. -/
theorem clone_ok {w : World} {A : Option Addr} {n c : Nat} {xs : List Int} (hR : Rd w A n 1 (xs.map (Value.int .u8))) (hb : n ≤ 140737488355328) {R : VWK}
    (h : ∀ w' A' c', w'.ownsRow 0 5 1 (.slice A' n c') n (xs.map (Value.int .u8)) → Grow w w' → (∀ k, fpA A' k → w.heap.size ≤ k) → R (.slice A' n c') w') :
    CallsV Try.prog 39 [.slice A n c] w R := by
  refine calls_of_wpC mixed Try.func39 rfl (by kernel_rfl) ?_
  intro e he
  have he0 := he 0
  simp only [List.getD_cons_zero, List.getD_cons_succ] at he0
  clear he
  cases A with
  | none =>
    simp only [↓RD,↓c_seq,RU,RL,if_true,if_false,forall_const,implies_true,Nat.reduceLeDiff,Nat.reduceLT,pureOp,binPure,intBin,strBin,eqPure,isConstO,unPure,sliceLo,sliceHi,slicePure,slice3Pure,lenPure,capPure,minPure,maxPure,buildP,resK,endV,yieldE,↓reduceIte,Nat.reduceEqDiff,reduceCtorEq,Nat.reduceAdd,Nat.reduceMul,Nat.reduceSub,Int.reduceLT,Int.reduceLE,Int.reduceToNat,Int.reduceAdd,Int.reduceSub,Int.reduceMul,ne_eq,decide_true,decide_false,tf39, he0]
    have hn : n = 0 := by
      rcases Nat.eq_zero_or_pos n with h0 | h0
      · exact h0
      · obtain ⟨ad, h, _⟩ := hR.2 h0; cases h
    subst hn
    have hx : xs = [] := List.eq_nil_of_length_eq_zero hR.len1
    subst hx
    exact h w none 0 (own_nil w _ 1) (Keep.refl _ _) (fun k hk => by obtain ⟨ad, h, _⟩ := hk; cases h)
  | some ad =>
    simp only [↓RD,↓c_seq,RU,RL,if_true,if_false,forall_const,implies_true,Nat.reduceLeDiff,Nat.reduceLT,pureOp,binPure,intBin,strBin,eqPure,isConstO,unPure,sliceLo,sliceHi,slicePure,slice3Pure,lenPure,capPure,minPure,maxPure,buildP,resK,endV,yieldE,↓reduceIte,Nat.reduceEqDiff,reduceCtorEq,Nat.reduceAdd,Nat.reduceMul,Nat.reduceSub,Int.reduceLT,Int.reduceLE,Int.reduceToNat,Int.reduceAdd,Int.reduceSub,Int.reduceMul,ne_eq,decide_true,decide_false,tf39, he0]
    refine appK_own (bytes := 1) (by kernel_rfl) (own_new w 5 1 0 #[] rfl (by simp [maxLen])) (hR.grow (Grow.alloc w _)) (ints_one _ _) (by simp only [maxLen]; omega) (by omega) (fun A' c' w' hO hK hF => ?_)
    simp only [↓RD,↓c_seq,RU,RL,if_true,if_false,forall_const,implies_true,Nat.reduceLeDiff,Nat.reduceLT,pureOp,binPure,intBin,strBin,eqPure,isConstO,unPure,sliceLo,sliceHi,slicePure,slice3Pure,lenPure,capPure,minPure,maxPure,buildP,resK,endV,yieldE,↓reduceIte,Nat.reduceEqDiff,reduceCtorEq,Nat.reduceAdd,Nat.reduceMul,Nat.reduceSub,Int.reduceLT,Int.reduceLE,Int.reduceToNat,Int.reduceAdd,Int.reduceSub,Int.reduceMul,ne_eq,decide_true,decide_false,tf39, he0]
    refine h w' A' c' (by simpa using hO) ((Grow.alloc w _).above hK (fun i hi hf => ?_)) (fun k hk => ?_)
    · rw [fpV_some] at hf; subst hf; exact absurd hi (by simp)
    · rcases hF k (by rw [fpV_fpA]; exact hk) with hf | hf
      · rw [fpV_some] at hf; subst hf; exact Nat.le_refl _
      · rw [hf]; simp

theorem bytes_ok {w : World} {F : Nat → Prop} {p : Nat} {zs : List Int} {bits : Nat} (hW : WAt 65 w F p zs bits) (hb : zs.length ≤ 140737488355328) {R : VWK}
    (h : ∀ w' A' c', w'.ownsRow 0 5 1 (.slice A' zs.length c') zs.length (zs.map (Value.int .u8)) → Grow w w' → (∀ k, fpA A' k → w.heap.size ≤ k) → R (.slice A' zs.length c') w') :
    CallsV Try.prog 20 [.pointer (some ⟨p, 0, none⟩)] w R := by
  obtain ⟨sv, hB, hO, rfl⟩ := hW
  obtain ⟨A, c, rfl, _⟩ := own_form hO
  refine calls_of_wpC mixed Try.func20 rfl (by kernel_rfl) ?_
  intro e he
  have he0 := he 0
  simp only [List.getD_cons_zero, List.getD_cons_succ] at he0
  clear he
  simp only [↓RD,↓c_seq,RU,RL,if_true,if_false,forall_const,implies_true,Nat.reduceLeDiff,Nat.reduceLT,pureOp,binPure,intBin,strBin,eqPure,isConstO,unPure,sliceLo,sliceHi,slicePure,slice3Pure,lenPure,capPure,minPure,maxPure,buildP,resK,endV,yieldE,↓reduceIte,Nat.reduceEqDiff,reduceCtorEq,Nat.reduceAdd,Nat.reduceMul,Nat.reduceSub,Int.reduceLT,Int.reduceLE,Int.reduceToNat,Int.reduceAdd,Int.reduceSub,Int.reduceMul,ne_eq,decide_true,decide_false,tf20, he0, hB.cell]
  refine clone_ok (Rd.of_own hO) hb (fun w' A' c' hO' hG hF => ?_)
  simp only [↓RD,↓c_seq,RU,RL,if_true,if_false,forall_const,implies_true,Nat.reduceLeDiff,Nat.reduceLT,pureOp,binPure,intBin,strBin,eqPure,isConstO,unPure,sliceLo,sliceHi,slicePure,slice3Pure,lenPure,capPure,minPure,maxPure,buildP,resK,endV,yieldE,↓reduceIte,Nat.reduceEqDiff,reduceCtorEq,Nat.reduceAdd,Nat.reduceMul,Nat.reduceSub,Int.reduceLT,Int.reduceLE,Int.reduceToNat,Int.reduceAdd,Int.reduceSub,Int.reduceMul,ne_eq,decide_true,decide_false,tf20, he0, hB.cell]
  exact h w' A' c' hO' hG hF

end Go.Proofs.Ytpocfghkolppmaa
