/- A frame: what Seal makes, what Open reads, walked. -/
import Derived.Test.YtcjlhfmjcioeeaaReader
import Derived.Test.YtcjlhfmjcioeeaaCrc
set_option linter.unusedVariables false
set_option linter.unusedSimpArgs false
set_option maxRecDepth 100000
namespace Go.Proofs.Ytcjlhfmjcioeeaa
open Go

def frameHead (kind number : Int) (n : Nat) : List Int := [kind] ++ be32 ((n : Int) % 4294967296) ++ be32 (number / 4294967296 % 4294967296) ++ be32 (number % 4294967296)
def frameBody (kind number : Int) (xs : List Int) : List Int := frameHead kind number xs.length ++ be32 (crcOf (frameHead kind number xs.length) : Nat) ++ xs
def frameOf (kind number : Int) (xs : List Int) : List Int := frameBody kind number xs ++ be32 (crcOf (frameBody kind number xs) : Nat)

theorem frameHead_len (kind number : Int) (n : Nat) : (frameHead kind number n).length = 13 := rfl
theorem frameBody_len (kind number : Int) (xs : List Int) : (frameBody kind number xs).length = 17 + xs.length := by
  simp only [frameBody, List.length_append, frameHead_len, be32_len]
theorem frameOf_len (kind number : Int) (xs : List Int) : (frameOf kind number xs).length = 21 + xs.length := by
  simp only [frameOf, List.length_append, frameBody_len, be32_len]; omega
theorem mem_app {p : Int → Prop} {l r : List Int} (h1 : ∀ z ∈ l, p z) (h2 : ∀ z ∈ r, p z) : ∀ z ∈ l ++ r, p z := fun z hz => (List.mem_append.1 hz).elim (h1 z) (h2 z)
theorem frameHead_byte {kind number : Int} {n : Nat} (h0 : 0 ≤ kind) (h1 : kind < 256) : ∀ z ∈ frameHead kind number n, 0 ≤ z ∧ z < 256 :=
  mem_app (mem_app (mem_app (by simp; omega) (be32_byte _)) (be32_byte _)) (be32_byte _)
theorem frameBody_byte {kind number : Int} {xs : List Int} (h0 : 0 ≤ kind) (h1 : kind < 256) (hx : ∀ z ∈ xs, 0 ≤ z ∧ z < 256) : ∀ z ∈ frameBody kind number xs, 0 ≤ z ∧ z < 256 :=
  mem_app (mem_app (frameHead_byte h0 h1) (be32_byte _)) hx

theorem seal_ok {w : World} {kind number : Int} (k0 : 0 ≤ kind) (k1 : kind < 256) {A : Option Addr} {n c : Nat} {xs : List Int} (hR : Rd w A n 1 (xs.map (Value.int .u8))) (hx : ∀ z ∈ xs, 0 ≤ z ∧ z < 256)
    (hn : n ≤ 140737488355328) {R : VWK}
    (hlong : 67108864 < n → ∀ w', Grow w w' → R (.tuple #[.slice none 0 0, .iface 105 (.int .i64 6)]) w')
    (h : n ≤ 67108864 → ∀ w' A' c', w'.ownsRow 0 5 1 (.slice A' (21 + n) c') (21 + n) ((frameOf kind number xs).map (Value.int .u8)) → Grow w w' → (∀ k, fpA A' k → w.heap.size ≤ k) →
      R (.tuple #[.slice A' (21 + n) c', .nilIface]) w') :
    CallsV Try.prog 16 [.int .u8 kind, .int .u64 number, .slice A n c] w R := by
  have hl := hR.len1
  refine calls_of_wpC mixed Try.func16 rfl (by kernel_rfl) ?_
  intro e he
  have he0 := he 0
  have he1 := he 1
  have he2 := he 2
  simp only [List.getD_cons_zero, List.getD_cons_succ] at he0 he1 he2
  clear he
  simp only [↓RD,↓c_seq,RU,RL,if_true,if_false,forall_const,implies_true,Nat.reduceLeDiff,Nat.reduceLT,pureOp,binPure,intBin,strBin,eqPure,isConstO,unPure,sliceLo,sliceHi,slicePure,lenPure,minPure,maxPure,buildP,resK,endV,yieldE,↓reduceIte,Nat.reduceEqDiff,reduceCtorEq,Nat.reduceAdd,Nat.reduceMul,Nat.reduceSub,Int.reduceLT,Int.reduceLE,Int.reduceToNat,Int.reduceAdd,Int.reduceSub,Int.reduceMul,ne_eq,decide_true,decide_false,tf16, he0, he1, he2]
  refine ⟨fun hgt => ?_, fun hle => ?_⟩
  · refine fnew_ok (by decide) ?_
    simp only [↓RD,↓c_seq,RU,RL,if_true,if_false,forall_const,implies_true,Nat.reduceLeDiff,Nat.reduceLT,pureOp,binPure,intBin,strBin,eqPure,isConstO,unPure,sliceLo,sliceHi,slicePure,lenPure,minPure,maxPure,buildP,resK,endV,yieldE,↓reduceIte,Nat.reduceEqDiff,reduceCtorEq,Nat.reduceAdd,Nat.reduceMul,Nat.reduceSub,Int.reduceLT,Int.reduceLE,Int.reduceToNat,Int.reduceAdd,Int.reduceSub,Int.reduceMul,ne_eq,decide_true,decide_false,tf16, he0]
    exact hlong (by omega) w (Keep.refl _ _)
  · have hle : n ≤ 67108864 := by omega
    try simp only [↓RD,↓c_seq,RU,RL,if_true,if_false,forall_const,implies_true,Nat.reduceLeDiff,Nat.reduceLT,pureOp,binPure,intBin,strBin,eqPure,isConstO,unPure,sliceLo,sliceHi,slicePure,lenPure,minPure,maxPure,buildP,resK,endV,yieldE,↓reduceIte,Nat.reduceEqDiff,reduceCtorEq,Nat.reduceAdd,Nat.reduceMul,Nat.reduceSub,Int.reduceLT,Int.reduceLE,Int.reduceToNat,Int.reduceAdd,Int.reduceSub,Int.reduceMul,ne_eq,decide_true,decide_false,tf16, he0, he1, he2]
    have hW0 : WAt 30 (w.alloc (.cells #[.slice none 0 0, .int .i64 0] 30)) (fun k => k = w.heap.size ∨ fpV (.slice none 0 0) k) w.heap.size [] 0 :=
      ⟨_, Blk.new' w _ _, own_nil _ _ _, rfl⟩
    have g0 := Grow.alloc w (.cells #[.slice none 0 0, .int .i64 0] 30)
    have hF0 : ∀ k, (k = w.heap.size ∨ fpV (.slice none 0 0) k) → w.heap.size ≤ k := by
      rintro k (rfl | hk)
      · omega
      · exact absurd hk (fpV_none _)
    have hR0 := hR.grow g0
    have hAl : 0 < n → ∀ k, fpA A k → k < w.heap.size := fun h0 => hR.lt h0 (by omega)
    refine byte_ok hW0 (by simp) (fun w1 F1 hW1 hS1 => ?_)
    simp only [↓RD,↓c_seq,RU,RL,if_true,if_false,forall_const,implies_true,Nat.reduceLeDiff,Nat.reduceLT,pureOp,binPure,intBin,strBin,eqPure,isConstO,unPure,sliceLo,sliceHi,slicePure,lenPure,minPure,maxPure,buildP,resK,endV,yieldE,↓reduceIte,Nat.reduceEqDiff,reduceCtorEq,Nat.reduceAdd,Nat.reduceMul,Nat.reduceSub,Int.reduceLT,Int.reduceLE,Int.reduceToNat,Int.reduceAdd,Int.reduceSub,Int.reduceMul,ne_eq,decide_true,decide_false,tf16, he0, he1, he2, wrap_u32]
    refine fix32_ok hW1 (by simp) (fun w2 F2 hW2 hS2 => ?_)
    simp only [↓RD,↓c_seq,RU,RL,if_true,if_false,forall_const,implies_true,Nat.reduceLeDiff,Nat.reduceLT,pureOp,binPure,intBin,strBin,eqPure,isConstO,unPure,sliceLo,sliceHi,slicePure,lenPure,minPure,maxPure,buildP,resK,endV,yieldE,↓reduceIte,Nat.reduceEqDiff,reduceCtorEq,Nat.reduceAdd,Nat.reduceMul,Nat.reduceSub,Int.reduceLT,Int.reduceLE,Int.reduceToNat,Int.reduceAdd,Int.reduceSub,Int.reduceMul,ne_eq,decide_true,decide_false,tf16, he0, he1, he2, wrap_u32, shr_u64_32]
    refine fix32_ok hW2 (by simp [be32]) (fun w3 F3 hW3 hS3 => ?_)
    simp only [↓RD,↓c_seq,RU,RL,if_true,if_false,forall_const,implies_true,Nat.reduceLeDiff,Nat.reduceLT,pureOp,binPure,intBin,strBin,eqPure,isConstO,unPure,sliceLo,sliceHi,slicePure,lenPure,minPure,maxPure,buildP,resK,endV,yieldE,↓reduceIte,Nat.reduceEqDiff,reduceCtorEq,Nat.reduceAdd,Nat.reduceMul,Nat.reduceSub,Int.reduceLT,Int.reduceLE,Int.reduceToNat,Int.reduceAdd,Int.reduceSub,Int.reduceMul,ne_eq,decide_true,decide_false,tf16, he0, he1, he2, wrap_u32]
    refine fix32_ok hW3 (by simp [be32]) (fun w4 F4 hW4 hS4 => ?_)
    have e4 : [] ++ [kind] ++ be32 ((n : Int) % 4294967296) ++ be32 (number / 4294967296 % 4294967296) ++ be32 (number % 4294967296) = frameHead kind number xs.length := by rw [hl]; rfl
    rw [e4] at hW4
    have hS14 := (((hS1.trans hS2).trans hS3).trans hS4)
    have hW4' := hW4
    obtain ⟨sv, hB, hO, hFe⟩ := hW4
    obtain ⟨A4, c4, rfl, _⟩ := own_form hO
    simp only [↓RD,↓c_seq,RU,RL,if_true,if_false,forall_const,implies_true,Nat.reduceLeDiff,Nat.reduceLT,pureOp,binPure,intBin,strBin,eqPure,isConstO,unPure,sliceLo,sliceHi,slicePure,lenPure,minPure,maxPure,buildP,resK,endV,yieldE,↓reduceIte,Nat.reduceEqDiff,reduceCtorEq,Nat.reduceAdd,Nat.reduceMul,Nat.reduceSub,Int.reduceLT,Int.reduceLE,Int.reduceToNat,Int.reduceAdd,Int.reduceSub,Int.reduceMul,ne_eq,decide_true,decide_false,tf16, he0, he1, he2, hB.cell]
    refine crc_ok (Rd.of_own hO) (frameHead_byte k0 k1) (by simp [frameHead_len]) (fun w5 g5 => ?_)
    simp only [↓RD,↓c_seq,RU,RL,if_true,if_false,forall_const,implies_true,Nat.reduceLeDiff,Nat.reduceLT,pureOp,binPure,intBin,strBin,eqPure,isConstO,unPure,sliceLo,sliceHi,slicePure,lenPure,minPure,maxPure,buildP,resK,endV,yieldE,↓reduceIte,Nat.reduceEqDiff,reduceCtorEq,Nat.reduceAdd,Nat.reduceMul,Nat.reduceSub,Int.reduceLT,Int.reduceLE,Int.reduceToNat,Int.reduceAdd,Int.reduceSub,Int.reduceMul,ne_eq,decide_true,decide_false,tf16, he0, he1, he2]
    refine fix32_ok (hW4'.grow g5) (by simp [frameHead_len]) (fun w6 F6 hW6 hS6 => ?_)
    simp only [↓RD,↓c_seq,RU,RL,if_true,if_false,forall_const,implies_true,Nat.reduceLeDiff,Nat.reduceLT,pureOp,binPure,intBin,strBin,eqPure,isConstO,unPure,sliceLo,sliceHi,slicePure,lenPure,minPure,maxPure,buildP,resK,endV,yieldE,↓reduceIte,Nat.reduceEqDiff,reduceCtorEq,Nat.reduceAdd,Nat.reduceMul,Nat.reduceSub,Int.reduceLT,Int.reduceLE,Int.reduceToNat,Int.reduceAdd,Int.reduceSub,Int.reduceMul,ne_eq,decide_true,decide_false,tf16, he0, he1, he2]
    have hS6' := hS14.trans (g5.step hS6)
    have hR6 := hR0.keep0 hS6'.keep (fun h0 k hk hf => absurd (hF0 k hf) (by have := hAl h0 k hk; omega))
    refine put_ok hW6 hR6 (by simp [frameHead_len, be32]; omega) (fun w7 F7 hW7 hS7 => ?_)
    rw [show frameHead kind number xs.length ++ be32 (crcOf (frameHead kind number xs.length) : Nat) ++ xs = frameBody kind number xs from rfl] at hW7
    have hS7' := hS6'.trans hS7
    have hW7' := hW7
    obtain ⟨sv, hB7, hO7, hFe7⟩ := hW7
    obtain ⟨A7, c7, rfl, _⟩ := own_form hO7
    simp only [↓RD,↓c_seq,RU,RL,if_true,if_false,forall_const,implies_true,Nat.reduceLeDiff,Nat.reduceLT,pureOp,binPure,intBin,strBin,eqPure,isConstO,unPure,sliceLo,sliceHi,slicePure,lenPure,minPure,maxPure,buildP,resK,endV,yieldE,↓reduceIte,Nat.reduceEqDiff,reduceCtorEq,Nat.reduceAdd,Nat.reduceMul,Nat.reduceSub,Int.reduceLT,Int.reduceLE,Int.reduceToNat,Int.reduceAdd,Int.reduceSub,Int.reduceMul,ne_eq,decide_true,decide_false,tf16, he0, he1, he2, hB7.cell]
    refine crc_ok (Rd.of_own hO7) (frameBody_byte k0 k1 hx) (by rw [frameBody_len]; omega) (fun w8 g8 => ?_)
    simp only [↓RD,↓c_seq,RU,RL,if_true,if_false,forall_const,implies_true,Nat.reduceLeDiff,Nat.reduceLT,pureOp,binPure,intBin,strBin,eqPure,isConstO,unPure,sliceLo,sliceHi,slicePure,lenPure,minPure,maxPure,buildP,resK,endV,yieldE,↓reduceIte,Nat.reduceEqDiff,reduceCtorEq,Nat.reduceAdd,Nat.reduceMul,Nat.reduceSub,Int.reduceLT,Int.reduceLE,Int.reduceToNat,Int.reduceAdd,Int.reduceSub,Int.reduceMul,ne_eq,decide_true,decide_false,tf16, he0, he1, he2]
    refine fix32_ok (hW7'.grow g8) (by rw [frameBody_len]; omega) (fun w9 F9 hW9 hS9 => ?_)
    have hS9' := hS7'.trans (g8.step hS9)
    rw [show frameBody kind number xs ++ be32 (crcOf (frameBody kind number xs) : Nat) = frameOf kind number xs from rfl] at hW9
    have gw : Grow w w9 := g0.above hS9'.keep (fun i hi hf => absurd (hF0 i hf) (by omega))
    have hsub : ∀ k, F9 k → w.heap.size ≤ k := fun k hk => (hS9'.sub k hk).elim (hF0 k) (fun h => by have := g0.size; omega)
    obtain ⟨sv, hB9, hO9, rfl⟩ := hW9
    obtain ⟨A9, c9, rfl, _⟩ := own_form hO9
    simp only [↓RD,↓c_seq,RU,RL,if_true,if_false,forall_const,implies_true,Nat.reduceLeDiff,Nat.reduceLT,pureOp,binPure,intBin,strBin,eqPure,isConstO,unPure,sliceLo,sliceHi,slicePure,lenPure,minPure,maxPure,buildP,resK,endV,yieldE,↓reduceIte,Nat.reduceEqDiff,reduceCtorEq,Nat.reduceAdd,Nat.reduceMul,Nat.reduceSub,Int.reduceLT,Int.reduceLE,Int.reduceToNat,Int.reduceAdd,Int.reduceSub,Int.reduceMul,ne_eq,decide_true,decide_false,tf16, he0, he1, he2, hB9.cell]
    have hl9 : (frameOf kind number xs).length = 21 + n := by rw [frameOf_len, hl]
    rw [hl9] at hO9 ⊢
    exact h hle w9 A9 c9 hO9 gw (fun k hk => hsub k (.inr (by rw [hl9, fpV_fpA]; exact hk)))

end Go.Proofs.Ytcjlhfmjcioeeaa
