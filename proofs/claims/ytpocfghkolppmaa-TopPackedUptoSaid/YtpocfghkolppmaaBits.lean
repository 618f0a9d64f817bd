/- Bits written: the program's Writer and the document's. -/
import Derived.Test.YtpocfghkolppmaaWire
set_option linter.unusedVariables false
set_option linter.unusedSimpArgs false
set_option maxRecDepth 100000
namespace Go.Proofs.Ytpocfghkolppmaa
open Go

theorem own_some {w : World} {e : TypeId} {size n : Nat} {v : Value} {xs : List Value} (h : w.ownsRow 0 e size v n xs) (hn : 0 < n) : ∃ g c, v = .slice (some ⟨g, 0, none⟩) n c ∧ n ≤ c := by
  rcases h.2 with ⟨_, h0⟩ | ⟨g, cap, cur, rfl, _, _, hc, _⟩
  · omega
  · exact ⟨g, cap, rfl, hc⟩
theorem map_set {α β : Type} (f : α → β) (l : List α) (i : Nat) (a : α) : (l.map f).set i (f a) = (l.set i a).map f := List.map_set.symm
theorem getD_map_int (zs : List Int) (i : Nat) (hi : i < zs.length) (kd : IntKind) : (zs.map (Value.int kd))[i]? = some (.int kd (zs.getD i 0)) := by
  rw [List.getElem?_map, List.getElem?_eq_getElem hi, List.getD_eq_getElem?_getD, List.getElem?_eq_getElem hi]; rfl
theorem pushBit_zero (zs : List Int) (b : Nat) : (pushBit zs b 0).1 = bitPad zs b := by
  simp only [pushBit, Int.zero_mul, Int.add_zero]
  apply List.ext_getElem?
  intro i
  rw [List.getElem?_set]
  split
  · rename_i h
    subst h
    split
    · rename_i h; rw [List.getD_eq_getElem?_getD, List.getElem?_eq_getElem h]; rfl
    · rename_i h; rw [List.getElem?_eq_none (by omega)]
  · rfl

/-- the last byte with one bit more, in place. -/
theorem wat_last {T : TypeId} (hT : T ≠ 5) {w : World} {F : Nat → Prop} {p : Nat} {ys : List Int} {b : Nat} (hW : WAt T w F p ys b) (hne : ys ≠ []) :
    ∃ g c, g ≠ p ∧ Blk w p T [.slice (some ⟨g, 0, none⟩) ys.length c, .int .i64 (b : Nat)] ∧ w.ownsRow 0 5 1 (.slice (some ⟨g, 0, none⟩) ys.length c) ys.length (ys.map (Value.int .u8)) ∧
      (F = fun k => k = p ∨ k = g) ∧ w.cell? ⟨g, ys.length - 1, none⟩ = some (.int .u8 (ys.getD (ys.length - 1) 0)) := by
  obtain ⟨sv, hB, hO, rfl⟩ := hW
  have hlen : 0 < ys.length := List.length_pos_iff.2 hne
  obtain ⟨g, c, rfl, hc⟩ := own_some hO hlen
  refine ⟨g, c, ?_, hB, hO, ?_, ?_⟩
  · rintro rfl
    exact own_blk_ne hO hB (Ne.symm hT) (by rw [fpV_some])
  · funext k; rw [fpV_some]
  · rw [hO.cellAt _ (by omega), getD_map_int _ _ (by omega)]
theorem wat_set {T : TypeId} (hT : T ≠ 5) {w : World} {p g c : Nat} {ys : List Int} {b : Nat} (hg : g ≠ p) (hB : Blk w p T [.slice (some ⟨g, 0, none⟩) ys.length c, .int .i64 (b : Nat)])
    (hO : w.ownsRow 0 5 1 (.slice (some ⟨g, 0, none⟩) ys.length c) ys.length (ys.map (Value.int .u8))) (hne : ys ≠ []) (z : Int) :
    WAt T (w.setCell ⟨g, ys.length - 1, none⟩ (.int .u8 z)) (fun k => k = p ∨ k = g) p (ys.set (ys.length - 1) z) b := by
  have hlen : 0 < ys.length := List.length_pos_iff.2 hne
  refine ⟨.slice (some ⟨g, 0, none⟩) ys.length c, ?_, ?_, ?_⟩
  · exact hB.far (Ne.symm hg) _
  · have := own_set hO (ys.length - 1) (by omega) (.int .u8 z)
    rw [map_set] at this
    rw [List.length_set]
    exact this
  · funext k; rw [fpV_some]
/-- the count of bits in place. -/
theorem wat_bits {T : TypeId} (hT : T ≠ 5) {w : World} {F : Nat → Prop} {p : Nat} {ys : List Int} {b b' : Nat} (hW : WAt T w F p ys b) :
    (∃ u, w.cell? ⟨p, 1, none⟩ = some u) ∧ w.frozen? ⟨p, 1, none⟩ = false ∧ w.cell? ⟨p, 1, none⟩ = some (.int .i64 (b : Nat)) ∧
      WAt T (w.setCell ⟨p, 1, none⟩ (.int .i64 (b' : Nat))) F p ys b' ∧ Step F F w (w.setCell ⟨p, 1, none⟩ (.int .i64 (b' : Nat))) := by
  obtain ⟨sv, hB, hO, rfl⟩ := hW
  have hne := own_blk_ne hO hB (Ne.symm hT)
  refine ⟨⟨_, hB.cell 1⟩, hB.frozen 1, hB.cell 1, ⟨sv, hB.set 1 _, own_keep hO (Keep.set1 _ _ _ _) (fun k hk e => hne (e ▸ hk)), rfl⟩, ⟨(Keep.set1 _ _ _ _).mono (fun _ _ h => .inl h), fun _ h => .inl h⟩⟩

theorem bits_mod {b : Nat} (hb : b < 8) : (IntKind.i64.wrap ((b : Int) + 1)).tmod 8 = (((b + 1) % 8 : Nat) : Int) := by
  rw [wrap_i64_in (by omega) (by omega)]; rfl

theorem bits_ok {w : World} {F : Nat → Prop} {p : Nat} {zs : List Int} {b : Nat} (hW : WAt 65 w F p zs b) (hok : WOk zs b) {v n : Int} (h0 : 0 ≤ v) (h1 : v < 18446744073709551616)
    (hn0 : -9223372036854775808 ≤ n) (hn1 : n < 9223372036854775808) (hb : zs.length + 64 ≤ 140737488355328) {R : VWK}
    (h : ∀ w' F', WAt 65 w' F' p (pushBits v (brought n) (zs, b)).1 (pushBits v (brought n) (zs, b)).2 → Step F F' w w' → R (.tuple #[]) w') :
    CallsV Try.prog 35 [.pointer (some ⟨p, 0, none⟩), .int .u64 v, .int .i64 n] w R := by
  have hbr := brought_le n
  refine calls_of_wpC mixed Try.func35 rfl (by kernel_rfl) ?_
  intro e he
  have he0 := he 0
  have he1 := he 1
  have he2 := he 2
  simp only [List.getD_cons_zero, List.getD_cons_succ] at he0 he1 he2
  clear he
  simp only [↓RD,↓c_seq,RU,RL,if_true,if_false,forall_const,implies_true,Nat.reduceLeDiff,Nat.reduceLT,pureOp,binPure,intBin,strBin,eqPure,isConstO,unPure,sliceLo,sliceHi,slicePure,slice3Pure,lenPure,capPure,minPure,maxPure,buildP,resK,endV,yieldE,↓reduceIte,Nat.reduceEqDiff,reduceCtorEq,Nat.reduceAdd,Nat.reduceMul,Nat.reduceSub,Int.reduceLT,Int.reduceLE,Int.reduceToNat,Int.reduceAdd,Int.reduceSub,Int.reduceMul,ne_eq,decide_true,decide_false,tf35, he0, he1, he2]
  have hmx : IntKind.i64.wrap ((if (if 64 < n then 64 else n) > 0 then if 64 < n then 64 else n else 0) - 1) = ((brought n : Nat) : Int) - 1 := by
    unfold brought
    rw [wrap_i64_in (by split <;> split <;> omega) (by split <;> split <;> omega)]
    split <;> split <;> (try split) <;> omega
  rw [hmx]
  refine wpLoop_intro (fun e' w' => e' 0 = .pointer (some ⟨p, 0, none⟩) ∧ e' 1 = .int .u64 v ∧ ∃ (k : Nat) (ys : List Int) (c : Nat) (G : Nat → Prop), e' 6 = .int .i64 ((k : Int) - 1) ∧ k ≤ 64 ∧ WAt 65 w' G p ys c ∧ WOk ys c ∧ Step F G w w' ∧
      pushBits v k (ys, c) = pushBits v (brought n) (zs, b) ∧ ys.length + k ≤ zs.length + 64) (fun e' _ => (envInt (e' 6) + 1).toNat) ?_ ?_
  · refine ⟨?_, ?_, brought n, zs, b, F, ?_, hbr, hW, hok, Step.refl F w, rfl, by omega⟩
    all_goals simp only [↓RD,↓c_seq,RU,RL,if_true,if_false,forall_const,implies_true,Nat.reduceLeDiff,Nat.reduceLT,pureOp,binPure,intBin,strBin,eqPure,isConstO,unPure,sliceLo,sliceHi,slicePure,slice3Pure,lenPure,capPure,minPure,maxPure,buildP,resK,endV,yieldE,↓reduceIte,Nat.reduceEqDiff,reduceCtorEq,Nat.reduceAdd,Nat.reduceMul,Nat.reduceSub,Int.reduceLT,Int.reduceLE,Int.reduceToNat,Int.reduceAdd,Int.reduceSub,Int.reduceMul,ne_eq,decide_true,decide_false,tf35, he0, he1, he2]
  · rintro e' w' ⟨g0, g1, k, ys, c, G, g6, hk, hW', hok', hS, hpb, hlen⟩
    rw [c_seq]
    simp only [↓RD,RU,RL,if_true,if_false,forall_const,implies_true,Nat.reduceLeDiff,Nat.reduceLT,pureOp,binPure,intBin,strBin,eqPure,isConstO,unPure,sliceLo,sliceHi,slicePure,slice3Pure,lenPure,capPure,minPure,maxPure,buildP,resK,endV,yieldE,↓reduceIte,Nat.reduceEqDiff,reduceCtorEq,Nat.reduceAdd,Nat.reduceMul,Nat.reduceSub,Int.reduceLT,Int.reduceLE,Int.reduceToNat,Int.reduceAdd,Int.reduceSub,Int.reduceMul,ne_eq,decide_true,decide_false,tf35, g0, g1, g6]
    rw [c_seq]
    simp only [↓RD,RU,RL,if_true,if_false,forall_const,implies_true,Nat.reduceLeDiff,Nat.reduceLT,pureOp,binPure,intBin,strBin,eqPure,isConstO,unPure,sliceLo,sliceHi,slicePure,slice3Pure,lenPure,capPure,minPure,maxPure,buildP,resK,endV,yieldE,↓reduceIte,Nat.reduceEqDiff,reduceCtorEq,Nat.reduceAdd,Nat.reduceMul,Nat.reduceSub,Int.reduceLT,Int.reduceLE,Int.reduceToNat,Int.reduceAdd,Int.reduceSub,Int.reduceMul,ne_eq,decide_true,decide_false,tf35, g0, g1, g6]
    refine ⟨fun hge => ?_, fun hlt => ?_⟩
    · obtain ⟨k, rfl⟩ : ∃ m, k = m + 1 := ⟨k - 1, by omega⟩
      have hpad := bitPad_ne ys c hok'
      have hpb1 := bitPad_byte ys c hok'
      have hpl := bitPad_last ys c hok'
      have hk1 : ((k + 1 : Nat) : Int) - 1 = (k : Int) := by omega
      rw [hk1] at g6
      rw [c_seq]
      simp only [↓RD,RU,RL,if_true,if_false,forall_const,implies_true,Nat.reduceLeDiff,Nat.reduceLT,pureOp,binPure,intBin,strBin,eqPure,isConstO,unPure,sliceLo,sliceHi,slicePure,slice3Pure,lenPure,capPure,minPure,maxPure,buildP,resK,endV,yieldE,↓reduceIte,Nat.reduceEqDiff,reduceCtorEq,Nat.reduceAdd,Nat.reduceMul,Nat.reduceSub,Int.reduceLT,Int.reduceLE,Int.reduceToNat,Int.reduceAdd,Int.reduceSub,Int.reduceMul,ne_eq,decide_true,decide_false,tf35, g0, g1, g6]
      refine c_seq_cut (fun e2 w2 => e2 0 = .pointer (some ⟨p, 0, none⟩) ∧ e2 1 = .int .u64 v ∧ e2 6 = .int .i64 (k : Nat) ∧ ∃ G2, WAt 65 w2 G2 p (bitPad ys c) c ∧ Step F G2 w w2) ?_ ?_
      · simp only [↓RD,↓c_seq,RU,RL,if_true,if_false,forall_const,implies_true,Nat.reduceLeDiff,Nat.reduceLT,pureOp,binPure,intBin,strBin,eqPure,isConstO,unPure,sliceLo,sliceHi,slicePure,slice3Pure,lenPure,capPure,minPure,maxPure,buildP,resK,endV,yieldE,↓reduceIte,Nat.reduceEqDiff,reduceCtorEq,Nat.reduceAdd,Nat.reduceMul,Nat.reduceSub,Int.reduceLT,Int.reduceLE,Int.reduceToNat,Int.reduceAdd,Int.reduceSub,Int.reduceMul,ne_eq,decide_true,decide_false,tf35, g0, g1, g6, (wat_bits (by decide) hW' (b' := 0)).2.2.1]
        refine ⟨fun hc0 => ?_, fun hc1 => ?_⟩
        · obtain rfl : c = 0 := by omega
          obtain ⟨sv, hB, hO, rfl⟩ := hW'
          simp only [↓RD,↓c_seq,RU,RL,if_true,if_false,forall_const,implies_true,Nat.reduceLeDiff,Nat.reduceLT,pureOp,binPure,intBin,strBin,eqPure,isConstO,unPure,sliceLo,sliceHi,slicePure,slice3Pure,lenPure,capPure,minPure,maxPure,buildP,resK,endV,yieldE,↓reduceIte,Nat.reduceEqDiff,reduceCtorEq,Nat.reduceAdd,Nat.reduceMul,Nat.reduceSub,Int.reduceLT,Int.reduceLE,Int.reduceToNat,Int.reduceAdd,Int.reduceSub,Int.reduceMul,ne_eq,decide_true,decide_false,tf35, g0, g1, g6, hB.cell]
          have hB1 := hB.alloc (.cells #[.int .u8 0] 5)
          have hO1 := own_grow hO (Grow.alloc w' (.cells #[.int .u8 0] 5))
          refine appK_own (bytes := 1) (by kernel_rfl) hO1 (rd_new1 w' _ [0] 1 rfl) (ints_one _ _) (by simp only [maxLen]; omega) (by omega) (fun A' c' w2 hO2 hK2 hF2 => ?_)
          have hne := own_blk_ne hO1 hB1 (by decide)
          have hB2 := hB1.keep hK2 hne
          have hne2 : ¬ fpV (.slice A' (ys.length + 1) c') p := fun hf => by
            rcases hF2 p hf with h1 | h1
            · exact hne h1
            · have := hB1.lt; omega
          simp only [↓RD,↓c_seq,RU,RL,if_true,if_false,forall_const,implies_true,Nat.reduceLeDiff,Nat.reduceLT,pureOp,binPure,intBin,strBin,eqPure,isConstO,unPure,sliceLo,sliceHi,slicePure,slice3Pure,lenPure,capPure,minPure,maxPure,buildP,resK,endV,yieldE,↓reduceIte,Nat.reduceEqDiff,reduceCtorEq,Nat.reduceAdd,Nat.reduceMul,Nat.reduceSub,Int.reduceLT,Int.reduceLE,Int.reduceToNat,Int.reduceAdd,Int.reduceSub,Int.reduceMul,ne_eq,decide_true,decide_false,tf35, g0, g1, g6]
          refine hB2.st (by simp) ?_
          try simp only [↓RD,↓c_seq,RU,RL,if_true,if_false,forall_const,implies_true,Nat.reduceLeDiff,Nat.reduceLT,pureOp,binPure,intBin,strBin,eqPure,isConstO,unPure,sliceLo,sliceHi,slicePure,slice3Pure,lenPure,capPure,minPure,maxPure,buildP,resK,endV,yieldE,↓reduceIte,Nat.reduceEqDiff,reduceCtorEq,Nat.reduceAdd,Nat.reduceMul,Nat.reduceSub,Int.reduceLT,Int.reduceLE,Int.reduceToNat,Int.reduceAdd,Int.reduceSub,Int.reduceMul,ne_eq,decide_true,decide_false,tf35, g0, g1, g6]
          refine hold_intro ⟨?_, ?_, ?_, ?_⟩
          · simp only [↓RD,↓c_seq,RU,RL,if_true,if_false,forall_const,implies_true,Nat.reduceLeDiff,Nat.reduceLT,pureOp,binPure,intBin,strBin,eqPure,isConstO,unPure,sliceLo,sliceHi,slicePure,slice3Pure,lenPure,capPure,minPure,maxPure,buildP,resK,endV,yieldE,↓reduceIte,Nat.reduceEqDiff,reduceCtorEq,Nat.reduceAdd,Nat.reduceMul,Nat.reduceSub,Int.reduceLT,Int.reduceLE,Int.reduceToNat,Int.reduceAdd,Int.reduceSub,Int.reduceMul,ne_eq,decide_true,decide_false,tf35, g0, g1, g6]
          · simp only [↓RD,↓c_seq,RU,RL,if_true,if_false,forall_const,implies_true,Nat.reduceLeDiff,Nat.reduceLT,pureOp,binPure,intBin,strBin,eqPure,isConstO,unPure,sliceLo,sliceHi,slicePure,slice3Pure,lenPure,capPure,minPure,maxPure,buildP,resK,endV,yieldE,↓reduceIte,Nat.reduceEqDiff,reduceCtorEq,Nat.reduceAdd,Nat.reduceMul,Nat.reduceSub,Int.reduceLT,Int.reduceLE,Int.reduceToNat,Int.reduceAdd,Int.reduceSub,Int.reduceMul,ne_eq,decide_true,decide_false,tf35, g0, g1, g6]
          · simp only [↓RD,↓c_seq,RU,RL,if_true,if_false,forall_const,implies_true,Nat.reduceLeDiff,Nat.reduceLT,pureOp,binPure,intBin,strBin,eqPure,isConstO,unPure,sliceLo,sliceHi,slicePure,slice3Pure,lenPure,capPure,minPure,maxPure,buildP,resK,endV,yieldE,↓reduceIte,Nat.reduceEqDiff,reduceCtorEq,Nat.reduceAdd,Nat.reduceMul,Nat.reduceSub,Int.reduceLT,Int.reduceLE,Int.reduceToNat,Int.reduceAdd,Int.reduceSub,Int.reduceMul,ne_eq,decide_true,decide_false,tf35, g0, g1, g6]
          · refine ⟨_, ⟨_, hB2.set 0 _, ?_, rfl⟩, ?_⟩
            · have := own_keep hO2 (Keep.set1 w2 p 0 (.slice A' (ys.length + 1) c')) (fun k hk e => hne2 (e ▸ hk))
              simpa [bitPad] using this
            · refine hS.trans ⟨((Grow.alloc w' _).then (hK2.trans (Keep.set1 w2 p 0 _) (H := fun k => k = p ∨ fpV sv k) (fun _ _ h => .inr h) (fun _ _ h => .inl h))), ?_⟩
              rintro k (rfl | hk)
              · exact .inl (.inl rfl)
              · rcases hF2 k hk with h1 | h1
                · exact .inl (.inr h1)
                · exact .inr (by rw [h1]; simp)
        · have hcne : c ≠ 0 := by omega
          refine hold_intro ⟨?_, ?_, ?_, G, ?_, hS⟩
          · simp only [↓RD,↓c_seq,RU,RL,if_true,if_false,forall_const,implies_true,Nat.reduceLeDiff,Nat.reduceLT,pureOp,binPure,intBin,strBin,eqPure,isConstO,unPure,sliceLo,sliceHi,slicePure,slice3Pure,lenPure,capPure,minPure,maxPure,buildP,resK,endV,yieldE,↓reduceIte,Nat.reduceEqDiff,reduceCtorEq,Nat.reduceAdd,Nat.reduceMul,Nat.reduceSub,Int.reduceLT,Int.reduceLE,Int.reduceToNat,Int.reduceAdd,Int.reduceSub,Int.reduceMul,ne_eq,decide_true,decide_false,tf35, g0, g1, g6]
          · simp only [↓RD,↓c_seq,RU,RL,if_true,if_false,forall_const,implies_true,Nat.reduceLeDiff,Nat.reduceLT,pureOp,binPure,intBin,strBin,eqPure,isConstO,unPure,sliceLo,sliceHi,slicePure,slice3Pure,lenPure,capPure,minPure,maxPure,buildP,resK,endV,yieldE,↓reduceIte,Nat.reduceEqDiff,reduceCtorEq,Nat.reduceAdd,Nat.reduceMul,Nat.reduceSub,Int.reduceLT,Int.reduceLE,Int.reduceToNat,Int.reduceAdd,Int.reduceSub,Int.reduceMul,ne_eq,decide_true,decide_false,tf35, g0, g1, g6]
          · simp only [↓RD,↓c_seq,RU,RL,if_true,if_false,forall_const,implies_true,Nat.reduceLeDiff,Nat.reduceLT,pureOp,binPure,intBin,strBin,eqPure,isConstO,unPure,sliceLo,sliceHi,slicePure,slice3Pure,lenPure,capPure,minPure,maxPure,buildP,resK,endV,yieldE,↓reduceIte,Nat.reduceEqDiff,reduceCtorEq,Nat.reduceAdd,Nat.reduceMul,Nat.reduceSub,Int.reduceLT,Int.reduceLE,Int.reduceToNat,Int.reduceAdd,Int.reduceSub,Int.reduceMul,ne_eq,decide_true,decide_false,tf35, g0, g1, g6]
          · simpa [bitPad, hcne] using hW'
      · rintro e2 w2 ⟨f0, f1, f6, G2, hW2, hS2⟩
        have hP := pushBit_ok hok' (bit_01 v k)
        have hPl : (pushBit ys c (v / 2 ^ k % 2)).1.length ≤ ys.length + 1 := pushBit_len _ _ _
        have hPe : pushBits v k (pushBit ys c (v / 2 ^ k % 2)) = pushBits v (brought n) (zs, b) := hpb
        have hPd : pushBit ys c (v / 2 ^ k % 2) = ((bitPad ys c).set ((bitPad ys c).length - 1) ((bitPad ys c).getD ((bitPad ys c).length - 1) 0 + v / 2 ^ k % 2 * 2 ^ (7 - c)), (c + 1) % 8) := rfl
        have hc8 := hok'.1
        generalize bitPad ys c = xs at hpad hpb1 hpl hW2 hPd
        obtain ⟨g, cp, hgp, hB, hO, rfl, hcl⟩ := wat_last (by decide) hW2 hpad
        have hlen0 : 0 < xs.length := List.length_pos_iff.2 hpad
        have hxl : xs.length < 9223372036854775808 := by
          obtain ⟨_, c', hcap, hle, _⟩ := own_form hO
          have := hO.2
          rcases hO.2 with ⟨h1, h2⟩ | ⟨g', cap, cur, h1, _, _, h4, h5, _⟩
          · cases h1
          · simp only [maxLen] at h5; omega
        have hw : IntKind.i64.wrap ((xs.length : Int) - 1) = ((xs.length - 1 : Nat) : Int) := by rw [wrap_i64_in (by omega) (by omega)]; omega
        have hrg := getD_mem_range hpb1 (xs.length - 1)
        rw [c_seq]
        simp only [↓c_draw]
        refine wpDraw_tail mixed 25 (by kernel_rfl) ?_
        simp only [↓RD,RU,RL,if_true,if_false,forall_const,implies_true,Nat.reduceLeDiff,Nat.reduceLT,pureOp,binPure,intBin,strBin,eqPure,isConstO,unPure,sliceLo,sliceHi,slicePure,slice3Pure,lenPure,capPure,minPure,maxPure,buildP,resK,endV,yieldE,↓reduceIte,Nat.reduceEqDiff,reduceCtorEq,Nat.reduceAdd,Nat.reduceMul,Nat.reduceSub,Int.reduceLT,Int.reduceLE,Int.reduceToNat,Int.reduceAdd,Int.reduceSub,Int.reduceMul,ne_eq,decide_true,decide_false,tf35, f0, f1, f6, World.cell?_drew, hB.cell, hw, hcl]
        refine ⟨⟨by omega, by omega⟩, ?_⟩
        refine ⟨by omega, ?_⟩
        have hsh : IntKind.i64.wrap ((7 : Int) - c) = (7 : Int) - c := wrap_i64_in (by omega) (by omega)
        have hand : bitsOp .and .u64 (shrOp .u64 v (k : Int)) 1 = v / 2 ^ k % 2 := by
          rw [shr_u64 v (by omega)]
          exact and_u64_1 (div_pow_range h0 h1 k).1 (div_pow_range h0 h1 k).2
        have hor := or_bit hc8 hrg.1 hrg.2 hpl (bit_01 v k)
        simp only [↓RD,RU,RL,if_true,if_false,forall_const,implies_true,Nat.reduceLeDiff,Nat.reduceLT,pureOp,binPure,intBin,strBin,eqPure,isConstO,unPure,sliceLo,sliceHi,slicePure,slice3Pure,lenPure,capPure,minPure,maxPure,buildP,resK,endV,yieldE,↓reduceIte,Nat.reduceEqDiff,reduceCtorEq,Nat.reduceAdd,Nat.reduceMul,Nat.reduceSub,Int.reduceLT,Int.reduceLE,Int.reduceToNat,Int.reduceAdd,Int.reduceSub,Int.reduceMul,ne_eq,decide_true,decide_false,tf35, f0, f1, f6, World.cell?_drew, hB.cell, hw, hcl, hsh, hand, hor]
        refine ⟨by omega, ⟨by omega, by omega⟩, ?_⟩
        try simp only [↓RD,↓c_seq,RU,RL,if_true,if_false,forall_const,implies_true,Nat.reduceLeDiff,Nat.reduceLT,pureOp,binPure,intBin,strBin,eqPure,isConstO,unPure,sliceLo,sliceHi,slicePure,slice3Pure,lenPure,capPure,minPure,maxPure,buildP,resK,endV,yieldE,↓reduceIte,Nat.reduceEqDiff,reduceCtorEq,Nat.reduceAdd,Nat.reduceMul,Nat.reduceSub,Int.reduceLT,Int.reduceLE,Int.reduceToNat,Int.reduceAdd,Int.reduceSub,Int.reduceMul,ne_eq,decide_true,decide_false,tf35, f0, f1, f6, World.cell?_drew, hB.cell, hw, hcl, hsh, hand, hor]
        refine own_st (w := w2.drew) (j := xs.length - 1) hO (by omega) ?_
        have hW3 := wat_set (w := w2.drew) (by decide) hgp hB hO hpad (xs.getD (xs.length - 1) 0 + v / 2 ^ k % 2 * 2 ^ (7 - c))
        have hS3 : Step (fun k => k = p ∨ k = g) (fun k => k = p ∨ k = g) w2 (w2.drew.setCell ⟨g, xs.length - 1, none⟩ (.int .u8 (xs.getD (xs.length - 1) 0 + v / 2 ^ k % 2 * 2 ^ (7 - c)))) :=
          ⟨(Grow.drew w2).then ((Keep.set1 _ _ _ _).mono (fun _ _ h => .inr h)), fun _ h => .inl h⟩
        have hb3 := wat_bits (b' := (c + 1) % 8) (by decide) hW3
        simp only [↓RD,↓c_seq,RU,RL,if_true,if_false,forall_const,implies_true,Nat.reduceLeDiff,Nat.reduceLT,pureOp,binPure,intBin,strBin,eqPure,isConstO,unPure,sliceLo,sliceHi,slicePure,slice3Pure,lenPure,capPure,minPure,maxPure,buildP,resK,endV,yieldE,↓reduceIte,Nat.reduceEqDiff,reduceCtorEq,Nat.reduceAdd,Nat.reduceMul,Nat.reduceSub,Int.reduceLT,Int.reduceLE,Int.reduceToNat,Int.reduceAdd,Int.reduceSub,Int.reduceMul,ne_eq,decide_true,decide_false,tf35, f0, f1, f6, hb3.2.2.1, bits_mod hc8]
        refine ⟨by omega, ?_⟩
        try simp only [↓RD,↓c_seq,RU,RL,if_true,if_false,forall_const,implies_true,Nat.reduceLeDiff,Nat.reduceLT,pureOp,binPure,intBin,strBin,eqPure,isConstO,unPure,sliceLo,sliceHi,slicePure,slice3Pure,lenPure,capPure,minPure,maxPure,buildP,resK,endV,yieldE,↓reduceIte,Nat.reduceEqDiff,reduceCtorEq,Nat.reduceAdd,Nat.reduceMul,Nat.reduceSub,Int.reduceLT,Int.reduceLE,Int.reduceToNat,Int.reduceAdd,Int.reduceSub,Int.reduceMul,ne_eq,decide_true,decide_false,tf35, f0, f1, f6, hb3.2.2.1, bits_mod hc8]
        refine ⟨hb3.1, hb3.2.1, ?_⟩
        try simp only [↓RD,↓c_seq,RU,RL,if_true,if_false,forall_const,implies_true,Nat.reduceLeDiff,Nat.reduceLT,pureOp,binPure,intBin,strBin,eqPure,isConstO,unPure,sliceLo,sliceHi,slicePure,slice3Pure,lenPure,capPure,minPure,maxPure,buildP,resK,endV,yieldE,↓reduceIte,Nat.reduceEqDiff,reduceCtorEq,Nat.reduceAdd,Nat.reduceMul,Nat.reduceSub,Int.reduceLT,Int.reduceLE,Int.reduceToNat,Int.reduceAdd,Int.reduceSub,Int.reduceMul,ne_eq,decide_true,decide_false,tf35, f0, f1, f6]
        rw [hPd] at hP hPl hPe
        refine hold_intro ⟨⟨?_, ?_, k, _, _, _, ?_, by omega, hb3.2.2.2.1, hP, (hS2.trans hS3).trans hb3.2.2.2.2, hPe, ?_⟩, ?_⟩
        · simp only [↓RD,↓c_seq,RU,RL,if_true,if_false,forall_const,implies_true,Nat.reduceLeDiff,Nat.reduceLT,pureOp,binPure,intBin,strBin,eqPure,isConstO,unPure,sliceLo,sliceHi,slicePure,slice3Pure,lenPure,capPure,minPure,maxPure,buildP,resK,endV,yieldE,↓reduceIte,Nat.reduceEqDiff,reduceCtorEq,Nat.reduceAdd,Nat.reduceMul,Nat.reduceSub,Int.reduceLT,Int.reduceLE,Int.reduceToNat,Int.reduceAdd,Int.reduceSub,Int.reduceMul,ne_eq,decide_true,decide_false,tf35, f0, f1, f6]
        · simp only [↓RD,↓c_seq,RU,RL,if_true,if_false,forall_const,implies_true,Nat.reduceLeDiff,Nat.reduceLT,pureOp,binPure,intBin,strBin,eqPure,isConstO,unPure,sliceLo,sliceHi,slicePure,slice3Pure,lenPure,capPure,minPure,maxPure,buildP,resK,endV,yieldE,↓reduceIte,Nat.reduceEqDiff,reduceCtorEq,Nat.reduceAdd,Nat.reduceMul,Nat.reduceSub,Int.reduceLT,Int.reduceLE,Int.reduceToNat,Int.reduceAdd,Int.reduceSub,Int.reduceMul,ne_eq,decide_true,decide_false,tf35, f0, f1, f6]
        · simp only [↓RD,↓c_seq,RU,RL,if_true,if_false,forall_const,implies_true,Nat.reduceLeDiff,Nat.reduceLT,pureOp,binPure,intBin,strBin,eqPure,isConstO,unPure,sliceLo,sliceHi,slicePure,slice3Pure,lenPure,capPure,minPure,maxPure,buildP,resK,endV,yieldE,↓reduceIte,Nat.reduceEqDiff,reduceCtorEq,Nat.reduceAdd,Nat.reduceMul,Nat.reduceSub,Int.reduceLT,Int.reduceLE,Int.reduceToNat,Int.reduceAdd,Int.reduceSub,Int.reduceMul,ne_eq,decide_true,decide_false,tf35, f0, f1, f6]
          rw [wrap_i64_in (by omega) (by omega)]
        · simp only at hPl; omega
        · simp only [↓RD,↓c_seq,RU,RL,if_true,if_false,forall_const,implies_true,Nat.reduceLeDiff,Nat.reduceLT,pureOp,binPure,intBin,strBin,eqPure,isConstO,unPure,sliceLo,sliceHi,slicePure,slice3Pure,lenPure,capPure,minPure,maxPure,buildP,resK,endV,yieldE,↓reduceIte,Nat.reduceEqDiff,reduceCtorEq,Nat.reduceAdd,Nat.reduceMul,Nat.reduceSub,Int.reduceLT,Int.reduceLE,Int.reduceToNat,Int.reduceAdd,Int.reduceSub,Int.reduceMul,ne_eq,decide_true,decide_false,tf35, f0, f1, f6, g6]
          rw [wrap_i64_in (by omega) (by omega), envInt_int, envInt_int]; omega
    · obtain rfl : k = 0 := by omega
      have e : (ys, c) = pushBits v (brought n) (zs, b) := hpb
      rw [← e] at h
      try simp only [↓RD,↓c_seq,RU,RL,if_true,if_false,forall_const,implies_true,Nat.reduceLeDiff,Nat.reduceLT,pureOp,binPure,intBin,strBin,eqPure,isConstO,unPure,sliceLo,sliceHi,slicePure,slice3Pure,lenPure,capPure,minPure,maxPure,buildP,resK,endV,yieldE,↓reduceIte,Nat.reduceEqDiff,reduceCtorEq,Nat.reduceAdd,Nat.reduceMul,Nat.reduceSub,Int.reduceLT,Int.reduceLE,Int.reduceToNat,Int.reduceAdd,Int.reduceSub,Int.reduceMul,ne_eq,decide_true,decide_false,tf35, g0, g1, g6]
      exact h w' G hW' hS

end Go.Proofs.Ytpocfghkolppmaa
