/- What the wire laws ask whatever is asked: 'live' is true. The law WireSums, walked. -/
import Derived.Test.YtcjlhfmjcioeeaaBits
import Derived.Test.YtcjlhfmjcioeeaaCrc
set_option linter.unusedVariables false
set_option linter.unusedSimpArgs false
set_option maxRecDepth 100000
namespace Go.Proofs.Ytcjlhfmjcioeeaa
open Go

theorem cell?_freeze (w : World) (a b : Addr) (n : Nat) : (w.freeze a n).cell? b = w.cell? b := by
  unfold World.freeze
  split
  · rfl
  · simp only [World.cell?, Array.getElem?_modify]
    by_cases h : a.block = b.block
    · rw [if_pos h]
      cases w.heap[b.block]? with
      | none => rfl
      | some o => cases o <;> rfl
    · rw [if_neg h]
theorem Keep.freeze (w : World) (a : Addr) (n : Nat) : Keep (fun k => k = a.block) w (w.freeze a n) := by
  unfold World.freeze
  split
  · exact Keep.refl _ _
  · exact ⟨rfl, rfl, rfl, by simp, fun k _ hn => by simp only [Array.getElem?_modify]; rw [if_neg (by omega)]⟩
theorem alloc_at (w : World) (o : Obj) : (w.alloc o).heap[w.heap.size]? = some o := by show (w.heap.push o)[w.heap.size]? = some o; exact Array.getElem?_push_size
/-- '[]byte(..)' of a text that is known: laid and marked. -/
theorem genK_mark {P : Program} {o : Oper} {t e : TypeId} {x : Operand} (hop : o.op = .convert t t x) (hu : P.underlying t = some (.slice e)) (he : P.underlying e = some (.int .u8)) {ρ : Operand → Value} {a : Addr} {n c : Nat}
    (hx : ρ x = .slice (some a) n c) {w : World} {cs : Array Value} {el : TypeId} {fr : Nat × Nat} (hb : w.heap[a.block]? = some (.cells cs el fr)) {K : VWK} {tk : Tok (ρ, K)}
    (hk : K (.slice (some a) n c) (w.freeze ⟨a.block, cs.size, none⟩ 1)) : genK P o ρ w K tk := by
  refine ⟨_, _, .inl ?_, hk⟩
  unfold execOp
  simp [hop, hx, convert, run_underlying hu, run_underlying he, markStringish, World.shape?, hb]

theorem live_ok {w : World} {R : VWK} (h : ∀ w', Grow w w' → R (.bool true) w') : CallsV Try.prog 9 [] w R := by
  have p3 : pushBits 5 (brought 3) ([], 0) = ([160], 3) := by decide
  have u3 : uvar (300 : Int).toNat = [172, 2] := by
    rw [show (300 : Int).toNat = 300 from rfl, uvar_ge (by omega), uvar_lt (by omega)]; rfl
  have c3 : crcOf [49, 50, 51, 52, 53, 54, 55, 56, 57] = 3421780262 := by decide +kernel
  refine calls_of_wpC mixed Try.func9 rfl (by kernel_rfl) ?_
  intro e he
  clear he
  simp only [↓RD,↓c_seq,RU,RL,if_true,if_false,forall_const,implies_true,Nat.reduceLeDiff,Nat.reduceLT,pureOp,binPure,intBin,strBin,eqPure,isConstO,unPure,sliceLo,sliceHi,slicePure,lenPure,minPure,maxPure,buildP,resK,endV,yieldE,↓reduceIte,Nat.reduceEqDiff,reduceCtorEq,Nat.reduceAdd,Nat.reduceMul,Nat.reduceSub,Int.reduceLT,Int.reduceLE,Int.reduceToNat,Int.reduceAdd,Int.reduceSub,Int.reduceMul,ne_eq,decide_true,decide_false,tf9]
  have hW0 : WAt 30 (w.alloc (.cells #[.slice none 0 0, .int .i64 0] 30)) (fun k => k = w.heap.size ∨ fpV (.slice none 0 0) k) w.heap.size [] 0 :=
    ⟨_, Blk.new' w _ _, own_nil _ _ _, rfl⟩
  have g0 := Grow.alloc w (.cells #[.slice none 0 0, .int .i64 0] 30)
  refine bits_ok hW0 WOk.nil (by omega) (by omega) (by omega) (by omega) (by simp) (fun w1 F1 hW1 hS1 => ?_)
  rw [p3] at hW1
  simp only [↓RD,↓c_seq,RU,RL,if_true,if_false,forall_const,implies_true,Nat.reduceLeDiff,Nat.reduceLT,pureOp,binPure,intBin,strBin,eqPure,isConstO,unPure,sliceLo,sliceHi,slicePure,lenPure,minPure,maxPure,buildP,resK,endV,yieldE,↓reduceIte,Nat.reduceEqDiff,reduceCtorEq,Nat.reduceAdd,Nat.reduceMul,Nat.reduceSub,Int.reduceLT,Int.reduceLE,Int.reduceToNat,Int.reduceAdd,Int.reduceSub,Int.reduceMul,ne_eq,decide_true,decide_false,tf9]
  refine uint_ok hW1 (by omega) (by omega) (by simp) (fun w2 F2 hW2 hS2 => ?_)
  rw [u3] at hW2
  simp only [↓RD,↓c_seq,RU,RL,if_true,if_false,forall_const,implies_true,Nat.reduceLeDiff,Nat.reduceLT,pureOp,binPure,intBin,strBin,eqPure,isConstO,unPure,sliceLo,sliceHi,slicePure,lenPure,minPure,maxPure,buildP,resK,endV,yieldE,↓reduceIte,Nat.reduceEqDiff,reduceCtorEq,Nat.reduceAdd,Nat.reduceMul,Nat.reduceSub,Int.reduceLT,Int.reduceLE,Int.reduceToNat,Int.reduceAdd,Int.reduceSub,Int.reduceMul,ne_eq,decide_true,decide_false,tf9]
  refine bytes_ok hW2 (by simp) (fun w3 A c hO3 g3 hA3 => ?_)
  simp only [↓RD,↓c_seq,RU,RL,if_true,if_false,forall_const,implies_true,Nat.reduceLeDiff,Nat.reduceLT,pureOp,binPure,intBin,strBin,eqPure,isConstO,unPure,sliceLo,sliceHi,slicePure,lenPure,minPure,maxPure,buildP,resK,endV,yieldE,↓reduceIte,Nat.reduceEqDiff,reduceCtorEq,Nat.reduceAdd,Nat.reduceMul,Nat.reduceSub,Int.reduceLT,Int.reduceLE,Int.reduceToNat,Int.reduceAdd,Int.reduceSub,Int.reduceMul,ne_eq,decide_true,decide_false,tf9]
  refine same_ok ((Rd.of_own hO3).grow (Grow.alloc w3 _)) (rd_new1 w3 _ [160, 172, 2] 3 rfl) (by simp) (by omega) (fun w4 g4 => ?_)
  simp only [↓RD,↓c_seq,RU,RL,if_true,if_false,forall_const,implies_true,Nat.reduceLeDiff,Nat.reduceLT,pureOp,binPure,intBin,strBin,eqPure,isConstO,unPure,sliceLo,sliceHi,slicePure,lenPure,minPure,maxPure,buildP,resK,endV,yieldE,↓reduceIte,Nat.reduceEqDiff,reduceCtorEq,Nat.reduceAdd,Nat.reduceMul,Nat.reduceSub,Int.reduceLT,Int.reduceLE,Int.reduceToNat,Int.reduceAdd,Int.reduceSub,Int.reduceMul,ne_eq,decide_true,decide_false,tf9]
  refine genK_mark rfl Try.underlying22 Try.underlying5 (a := ⟨w4.heap.size, 0, none⟩) (n := 9) (c := 9) rfl (cs := #[.int .u8 49, .int .u8 50, .int .u8 51, .int .u8 52, .int .u8 53, .int .u8 54, .int .u8 55, .int .u8 56, .int .u8 57]) (el := 5) (fr := (0, 0)) (alloc_at _ _) ?_
  have gk := Keep.freeze (w4.alloc (.cells #[.int .u8 49, .int .u8 50, .int .u8 51, .int .u8 52, .int .u8 53, .int .u8 54, .int .u8 55, .int .u8 56, .int .u8 57] 5)) ⟨w4.heap.size, 9, none⟩ 1
  have hR5 := rd_new1 w4 5 [49, 50, 51, 52, 53, 54, 55, 56, 57] 9 rfl
  simp only [↓RD,↓c_seq,RU,RL,if_true,if_false,forall_const,implies_true,Nat.reduceLeDiff,Nat.reduceLT,pureOp,binPure,intBin,strBin,eqPure,isConstO,unPure,sliceLo,sliceHi,slicePure,lenPure,minPure,maxPure,buildP,resK,endV,yieldE,↓reduceIte,Nat.reduceEqDiff,reduceCtorEq,Nat.reduceAdd,Nat.reduceMul,Nat.reduceSub,Int.reduceLT,Int.reduceLE,Int.reduceToNat,Int.reduceAdd,Int.reduceSub,Int.reduceMul,ne_eq,decide_true,decide_false,tf9]
  refine crc_ok (xs := [49, 50, 51, 52, 53, 54, 55, 56, 57]) (A := some ⟨w4.heap.size, 0, none⟩) (n := 9) ⟨rfl, fun _ => ⟨_, rfl, fun j u hu => ?_⟩⟩ (by decide) (by omega) (fun w6 g6 => ?_)
  · rw [cell?_freeze]
    obtain ⟨ad, hh, hc⟩ := hR5.2 (by omega)
    injection hh with hh
    subst hh
    exact hc j u hu
  · rw [c3]
    simp only [↓RD,↓c_seq,RU,RL,if_true,if_false,forall_const,implies_true,Nat.reduceLeDiff,Nat.reduceLT,pureOp,binPure,intBin,strBin,eqPure,isConstO,unPure,sliceLo,sliceHi,slicePure,lenPure,minPure,maxPure,buildP,resK,endV,yieldE,↓reduceIte,Nat.reduceEqDiff,reduceCtorEq,Nat.reduceAdd,Nat.reduceMul,Nat.reduceSub,Int.reduceLT,Int.reduceLE,Int.reduceToNat,Int.reduceAdd,Int.reduceSub,Int.reduceMul,ne_eq,decide_true,decide_false,tf9]
    have hS := hS1.trans hS2
    refine h w6 ?_
    have a1 : Grow w w2 := g0.above hS.keep (fun i hi hf => by
      rcases hf with rfl | hf
      · omega
      · exact absurd hf (fpV_none i))
    have a2 : Grow w (w4.alloc (.cells #[.int .u8 49, .int .u8 50, .int .u8 51, .int .u8 52, .int .u8 53, .int .u8 54, .int .u8 55, .int .u8 56, .int .u8 57] 5)) := (((a1.trans g3).trans (Grow.alloc w3 _)).trans g4).trans (Grow.alloc w4 _)
    have hle : w.heap.size ≤ w4.heap.size := (((a1.trans g3).trans (Grow.alloc w3 _)).trans g4).size
    have a3 : Grow w _ := a2.above gk (fun i hi e => by simp only at e; omega)
    exact a3.trans g6

theorem sums_walk {w : World} {A : Option Addr} {n c : Nat} {xs : List Int} (hA : Rd w A n 1 (xs.map (Value.int .u8))) (hx : ∀ x ∈ xs, 0 ≤ x ∧ x < 256) (hn : n ≤ 140737488355328) {R : VWK}
    (h : ∀ w', Grow w w' → R (.bool true) w') : CallsV Try.prog 3 [.slice A n c] w R := by
  refine calls_of_wpC mixed Try.func3 rfl (by kernel_rfl) ?_
  intro e he
  have he0 := he 0
  simp only [List.getD_cons_zero, List.getD_cons_succ] at he0
  clear he
  simp only [↓RD,↓c_seq,RU,RL,if_true,if_false,forall_const,implies_true,Nat.reduceLeDiff,Nat.reduceLT,pureOp,binPure,intBin,strBin,eqPure,isConstO,unPure,sliceLo,sliceHi,slicePure,lenPure,minPure,maxPure,buildP,resK,endV,yieldE,↓reduceIte,Nat.reduceEqDiff,reduceCtorEq,Nat.reduceAdd,Nat.reduceMul,Nat.reduceSub,Int.reduceLT,Int.reduceLE,Int.reduceToNat,Int.reduceAdd,Int.reduceSub,Int.reduceMul,ne_eq,decide_true,decide_false,tf3, he0]
  refine live_ok (fun w1 g1 => ?_)
  simp only [↓RD,↓c_seq,RU,RL,if_true,if_false,forall_const,implies_true,Nat.reduceLeDiff,Nat.reduceLT,pureOp,binPure,intBin,strBin,eqPure,isConstO,unPure,sliceLo,sliceHi,slicePure,lenPure,minPure,maxPure,buildP,resK,endV,yieldE,↓reduceIte,Nat.reduceEqDiff,reduceCtorEq,Nat.reduceAdd,Nat.reduceMul,Nat.reduceSub,Int.reduceLT,Int.reduceLE,Int.reduceToNat,Int.reduceAdd,Int.reduceSub,Int.reduceMul,ne_eq,decide_true,decide_false,tf3, he0]
  refine crc_ok (hA.grow g1) hx hn (fun w2 g2 => ?_)
  simp only [↓RD,↓c_seq,RU,RL,if_true,if_false,forall_const,implies_true,Nat.reduceLeDiff,Nat.reduceLT,pureOp,binPure,intBin,strBin,eqPure,isConstO,unPure,sliceLo,sliceHi,slicePure,lenPure,minPure,maxPure,buildP,resK,endV,yieldE,↓reduceIte,Nat.reduceEqDiff,reduceCtorEq,Nat.reduceAdd,Nat.reduceMul,Nat.reduceSub,Int.reduceLT,Int.reduceLE,Int.reduceToNat,Int.reduceAdd,Int.reduceSub,Int.reduceMul,ne_eq,decide_true,decide_false,tf3, he0]
  refine refcrc_ok ((hA.grow g1).grow g2) hx hn ?_
  simp only [↓RD,↓c_seq,RU,RL,if_true,if_false,forall_const,implies_true,Nat.reduceLeDiff,Nat.reduceLT,pureOp,binPure,intBin,strBin,eqPure,isConstO,unPure,sliceLo,sliceHi,slicePure,lenPure,minPure,maxPure,buildP,resK,endV,yieldE,↓reduceIte,Nat.reduceEqDiff,reduceCtorEq,Nat.reduceAdd,Nat.reduceMul,Nat.reduceSub,Int.reduceLT,Int.reduceLE,Int.reduceToNat,Int.reduceAdd,Int.reduceSub,Int.reduceMul,ne_eq,decide_true,decide_false,tf3, he0]
  exact h w2 (g1.trans g2)

end Go.Proofs.Ytcjlhfmjcioeeaa
