/- One thing written, with both Writers: weirlaw03.write. -/
import Derived.Test.YtcjlhfmjcioeeaaText
set_option linter.unusedVariables false
set_option linter.unusedSimpArgs false
set_option maxRecDepth 100000
namespace Go.Proofs.Ytcjlhfmjcioeeaa
open Go

/-- one weirlaw03.Op, as the walk reads it. -/
structure OpV where
  k : Int
  n : Int
  b : Int
  A : Option Addr
  m : Nat
  c : Nat
  xs : List Int
def OpV.cells (o : OpV) : List Value := [.int .i64 o.k, .int .u64 o.n, .int .i64 o.b, .slice o.A o.m o.c]
structure OpV.Ok (w : World) (o : OpV) : Prop where
  n0 : 0 ≤ o.n
  n1 : o.n < 18446744073709551616
  b0 : -9223372036854775808 ≤ o.b
  b1 : o.b < 9223372036854775808
  rd : Rd w o.A o.m 1 (o.xs.map (Value.int .u8))
  bytes : ∀ z ∈ o.xs, 0 ≤ z ∧ z < 256
theorem OpV.Ok.keep {w w' : World} {o : OpV} {F : Nat → Prop} (h : o.Ok w) (hk : Keep F w w') (hF : 0 < o.m → ∀ k, fpA o.A k → ¬ F k) : o.Ok w' := ⟨h.n0, h.n1, h.b0, h.b1, h.rd.keep0 hk hF, h.bytes⟩
theorem OpV.Ok.len {w : World} {o : OpV} (h : o.Ok w) : o.xs.length = o.m := h.rd.len1

/-- what writing it leaves of the bytes and of the count of bits. -/
def wr (o : OpV) (s : List Int × Nat) : List Int × Nat :=
  if o.k = 0 then (s.1 ++ [o.n % 256], 0)
  else if o.k = 1 then (s.1 ++ be32 (o.n % 4294967296), 0)
  else if o.k = 2 then (s.1 ++ uvar o.n.toNat, 0)
  else if o.k = 3 then (s.1 ++ uvar (foldI (IntKind.i64.wrap o.n)).toNat, 0)
  else if o.k = 4 ∨ o.k = 5 then (s.1 ++ (uvar o.xs.length ++ o.xs), 0)
  else if o.k = 6 then pushBits o.n (brought o.b) s
  else s

theorem wr_ok {w : World} {o : OpV} (ho : o.Ok w) {s : List Int × Nat} (h : WOk s.1 s.2) : WOk (wr o s).1 (wr o s).2 := by
  unfold wr
  split
  · exact h.app (by simp; omega)
  split
  · exact h.app (be32_byte _)
  split
  · exact h.app (uvar_byte _)
  split
  · exact h.app (uvar_byte _)
  split
  · exact h.app (fun z hz => (List.mem_append.1 hz).elim (uvar_byte _ z) (ho.bytes z))
  split
  · exact pushBits_ok _ _ _ h
  · exact h
theorem wrap_i64_range (n : Int) : -9223372036854775808 ≤ IntKind.i64.wrap n ∧ IntKind.i64.wrap n < 9223372036854775808 := by
  simp only [IntKind.wrap, IntKind.bits, IntKind.signed]; simp; omega
theorem wr_len {w : World} {o : OpV} (ho : o.Ok w) (hm : o.m < 18446744073709551616) (s : List Int × Nat) : (wr o s).1.length ≤ s.1.length + 64 + o.m := by
  have h1 := uvar_len64 (v := o.n.toNat) (by have := ho.n1; have := ho.n0; omega)
  have h2 := uvar_len64 (v := (foldI (IntKind.i64.wrap o.n)).toNat) (by have := wrap_i64_range o.n; have := foldI_range this.1 this.2; omega)
  have h3 := uvar_len64 (v := o.xs.length) (by rw [ho.len]; exact hm)
  have h4 := pushBits_len o.n (brought o.b) s
  have h5 := brought_le o.b
  have h6 := ho.len
  unfold wr
  repeat' split
  all_goals (try simp only [List.length_append, List.length_cons, List.length_nil, be32_len])
  all_goals omega

/-- two things side by side: first the one is turned, then the other. -/
theorem Step.both {F F' G G' : Nat → Prop} {w w1 w2 : World} (hF : ∀ k, F' k → k < w1.heap.size) (hG : ∀ k, G k → k < w.heap.size) (hd : ∀ k, F k → ¬ G k) (h1 : Step F F' w w1) (h2 : Step G G' w1 w2) :
    (∀ k, F' k → ¬ G k) ∧ (∀ k, F' k → ¬ G' k) ∧ Step (fun k => F k ∨ G k) (fun k => F' k ∨ G' k) w w2 := by
  have a : ∀ k, F' k → ¬ G k := fun k hk hg => (h1.sub k hk).elim (fun h => hd k h hg) (fun h => absurd (hG k hg) (by omega))
  refine ⟨a, fun k hk hg => (h2.sub k hg).elim (a k hk) (fun h => absurd (hF k hk) (by omega)), ⟨h1.keep.trans h2.keep (fun _ _ h => .inl h) (fun _ _ h => .inr h), ?_⟩⟩
  rintro k (hk | hk)
  · exact (h1.sub k hk).elim (fun h => .inl (.inl h)) .inr
  · exact (h2.sub k hk).elim (fun h => .inl (.inr h)) (fun h => .inr (Nat.le_trans h1.keep.size h))

theorem write_ok {w : World} {F G : Nat → Prop} {p q : Nat} {zs : List Int} {b : Nat} (hW : WAt 30 w F p zs b) (hM : WAt 33 w G q zs b) (hd : ∀ k, F k → ¬ G k) (hok : WOk zs b)
    {o : OpV} (ho : o.Ok w) (hA : 0 < o.m → ∀ k, fpA o.A k → ¬ F k ∧ ¬ G k) (hb : zs.length + 74 + o.m ≤ 140737488355328) {R : VWK}
    (h : ∀ w' F' G', WAt 30 w' F' p (wr o (zs, b)).1 (wr o (zs, b)).2 → WAt 33 w' G' q (wr o (zs, b)).1 (wr o (zs, b)).2 → (∀ k, F' k → ¬ G' k) →
      Step (fun k => F k ∨ G k) (fun k => F' k ∨ G' k) w w' → R (.tuple #[]) w') :
    CallsV Try.prog 12 [.pointer (some ⟨p, 0, none⟩), .pointer (some ⟨q, 0, none⟩), .agg o.cells.toArray] w R := by
  have hgw := Grow.alloc w (.cells o.cells.toArray 36)
  have hBk : Blk (w.alloc (.cells o.cells.toArray 36)) w.heap.size 36 o.cells := Blk.new w _ _
  have hW1 := hW.grow hgw
  have hM1 := hM.grow hgw
  have ho1 := ho.keep hgw (fun _ _ _ h => h)
  have hnF : ¬ F w.heap.size := fun hf => absurd (hW.lt _ hf) (by omega)
  have hnG : ¬ G w.heap.size := fun hf => absurd (hM.lt _ hf) (by omega)
  have hn0 := ho.n0
  have hn1 := ho.n1
  have hm := ho.len
  -- what each way comes to
  have fin : ∀ w2 F2 w3 G3 zs' b', WAt 30 w2 F2 p zs' b' → Step F F2 (w.alloc (.cells o.cells.toArray 36)) w2 → WAt 33 w3 G3 q zs' b' → Step G G3 w2 w3 → wr o (zs, b) = (zs', b') → R (.tuple #[]) w3 := by
    intro w2 F2 w3 G3 zs' b' hW2 hS2 hM3 hS3 he
    obtain ⟨a1, a2, a3⟩ := Step.both hW2.lt (fun k hk => Nat.lt_of_lt_of_le (hM.lt k hk) hgw.size) hd hS2 hS3
    rw [he] at h
    exact h w3 F2 G3 (hW2.keep hS3.keep a1) hM3 a2 (hgw.step a3)
  have mk : ∀ {w2 F2}, Step F F2 (w.alloc (.cells o.cells.toArray 36)) w2 → WAt 33 w2 G q zs b ∧ Blk w2 w.heap.size 36 o.cells ∧ o.Ok w2 := fun hS2 =>
    ⟨hM1.keep hS2.keep (fun k hk hf => hd k hf hk), hBk.keep hS2.keep hnF, ho1.keep hS2.keep (fun h0 k hk => (hA h0 k hk).1)⟩
  unfold OpV.cells at hBk mk fin ⊢
  clear hgw
  generalize hw1 : w.alloc (.cells [Value.int .i64 o.k, .int .u64 o.n, .int .i64 o.b, .slice o.A o.m o.c].toArray 36) = w1 at hBk mk fin
  have hw1' : w.alloc (.cells o.cells.toArray 36) = w1 := hw1
  rw [hw1'] at hW1 hM1 ho1
  refine calls_of_wpC mixed Try.func12 rfl (by kernel_rfl) ?_
  intro e he
  have he0 := he 0
  have he1 := he 1
  have he2 := he 2
  simp only [List.getD_cons_zero, List.getD_cons_succ] at he0 he1 he2
  clear he
  simp only [↓RD,↓c_seq,RU,RL,if_true,if_false,forall_const,implies_true,Nat.reduceLeDiff,Nat.reduceLT,pureOp,binPure,intBin,strBin,eqPure,isConstO,unPure,sliceLo,sliceHi,slicePure,lenPure,minPure,maxPure,buildP,resK,endV,yieldE,↓reduceIte,Nat.reduceEqDiff,reduceCtorEq,Nat.reduceAdd,Nat.reduceMul,Nat.reduceSub,Int.reduceLT,Int.reduceLE,Int.reduceToNat,Int.reduceAdd,Int.reduceSub,Int.reduceMul,ne_eq,decide_true,decide_false,tf12, he0, he1, he2, hw1, hBk.cell]
  refine ⟨fun hk => ?_, fun hk => ?_⟩
  · try simp only [↓RD,↓c_seq,RU,RL,if_true,if_false,forall_const,implies_true,Nat.reduceLeDiff,Nat.reduceLT,pureOp,binPure,intBin,strBin,eqPure,isConstO,unPure,sliceLo,sliceHi,slicePure,lenPure,minPure,maxPure,buildP,resK,endV,yieldE,↓reduceIte,Nat.reduceEqDiff,reduceCtorEq,Nat.reduceAdd,Nat.reduceMul,Nat.reduceSub,Int.reduceLT,Int.reduceLE,Int.reduceToNat,Int.reduceAdd,Int.reduceSub,Int.reduceMul,ne_eq,decide_true,decide_false,tf12, he0, he1, he2, hw1, hBk.cell, wrap_u8]
    refine byte_ok hW1 (by omega) (fun w2 F2 hW2 hS2 => ?_)
    obtain ⟨hM2, hB2, ho2⟩ := mk hS2
    simp only [↓RD,↓c_seq,RU,RL,if_true,if_false,forall_const,implies_true,Nat.reduceLeDiff,Nat.reduceLT,pureOp,binPure,intBin,strBin,eqPure,isConstO,unPure,sliceLo,sliceHi,slicePure,lenPure,minPure,maxPure,buildP,resK,endV,yieldE,↓reduceIte,Nat.reduceEqDiff,reduceCtorEq,Nat.reduceAdd,Nat.reduceMul,Nat.reduceSub,Int.reduceLT,Int.reduceLE,Int.reduceToNat,Int.reduceAdd,Int.reduceSub,Int.reduceMul,ne_eq,decide_true,decide_false,tf12, he0, he1, he2, hB2.cell, wrap_u8]
    refine rbyte_ok hM2 (by omega) (fun w3 G3 hM3 hS3 => ?_)
    try simp only [↓RD,↓c_seq,RU,RL,if_true,if_false,forall_const,implies_true,Nat.reduceLeDiff,Nat.reduceLT,pureOp,binPure,intBin,strBin,eqPure,isConstO,unPure,sliceLo,sliceHi,slicePure,lenPure,minPure,maxPure,buildP,resK,endV,yieldE,↓reduceIte,Nat.reduceEqDiff,reduceCtorEq,Nat.reduceAdd,Nat.reduceMul,Nat.reduceSub,Int.reduceLT,Int.reduceLE,Int.reduceToNat,Int.reduceAdd,Int.reduceSub,Int.reduceMul,ne_eq,decide_true,decide_false,tf12, he0]
    exact fin w2 F2 w3 G3 _ _ hW2 hS2 hM3 hS3 (by unfold wr; rw [if_pos hk])
  have n0 := hk
  clear hk
  try simp only [↓RD,↓c_seq,RU,RL,if_true,if_false,forall_const,implies_true,Nat.reduceLeDiff,Nat.reduceLT,pureOp,binPure,intBin,strBin,eqPure,isConstO,unPure,sliceLo,sliceHi,slicePure,lenPure,minPure,maxPure,buildP,resK,endV,yieldE,↓reduceIte,Nat.reduceEqDiff,reduceCtorEq,Nat.reduceAdd,Nat.reduceMul,Nat.reduceSub,Int.reduceLT,Int.reduceLE,Int.reduceToNat,Int.reduceAdd,Int.reduceSub,Int.reduceMul,ne_eq,decide_true,decide_false,tf12, he0, he1, he2, hw1, hBk.cell]
  refine ⟨fun hk' => ?_, fun hk' => ?_⟩
  · try simp only [↓RD,↓c_seq,RU,RL,if_true,if_false,forall_const,implies_true,Nat.reduceLeDiff,Nat.reduceLT,pureOp,binPure,intBin,strBin,eqPure,isConstO,unPure,sliceLo,sliceHi,slicePure,lenPure,minPure,maxPure,buildP,resK,endV,yieldE,↓reduceIte,Nat.reduceEqDiff,reduceCtorEq,Nat.reduceAdd,Nat.reduceMul,Nat.reduceSub,Int.reduceLT,Int.reduceLE,Int.reduceToNat,Int.reduceAdd,Int.reduceSub,Int.reduceMul,ne_eq,decide_true,decide_false,tf12, he0, he1, he2, hw1, hBk.cell, wrap_u32]
    refine fix32_ok hW1 (by omega) (fun w2 F2 hW2 hS2 => ?_)
    obtain ⟨hM2, hB2, ho2⟩ := mk hS2
    simp only [↓RD,↓c_seq,RU,RL,if_true,if_false,forall_const,implies_true,Nat.reduceLeDiff,Nat.reduceLT,pureOp,binPure,intBin,strBin,eqPure,isConstO,unPure,sliceLo,sliceHi,slicePure,lenPure,minPure,maxPure,buildP,resK,endV,yieldE,↓reduceIte,Nat.reduceEqDiff,reduceCtorEq,Nat.reduceAdd,Nat.reduceMul,Nat.reduceSub,Int.reduceLT,Int.reduceLE,Int.reduceToNat,Int.reduceAdd,Int.reduceSub,Int.reduceMul,ne_eq,decide_true,decide_false,tf12, he0, he1, he2, hB2.cell, wrap_u32]
    refine rfix32_ok hM2 (by omega) (fun w3 G3 hM3 hS3 => ?_)
    try simp only [↓RD,↓c_seq,RU,RL,if_true,if_false,forall_const,implies_true,Nat.reduceLeDiff,Nat.reduceLT,pureOp,binPure,intBin,strBin,eqPure,isConstO,unPure,sliceLo,sliceHi,slicePure,lenPure,minPure,maxPure,buildP,resK,endV,yieldE,↓reduceIte,Nat.reduceEqDiff,reduceCtorEq,Nat.reduceAdd,Nat.reduceMul,Nat.reduceSub,Int.reduceLT,Int.reduceLE,Int.reduceToNat,Int.reduceAdd,Int.reduceSub,Int.reduceMul,ne_eq,decide_true,decide_false,tf12, he0]
    exact fin w2 F2 w3 G3 _ _ hW2 hS2 hM3 hS3 (by unfold wr; rw [if_neg n0, if_pos hk'])
  have n1 := hk'
  clear hk'
  try simp only [↓RD,↓c_seq,RU,RL,if_true,if_false,forall_const,implies_true,Nat.reduceLeDiff,Nat.reduceLT,pureOp,binPure,intBin,strBin,eqPure,isConstO,unPure,sliceLo,sliceHi,slicePure,lenPure,minPure,maxPure,buildP,resK,endV,yieldE,↓reduceIte,Nat.reduceEqDiff,reduceCtorEq,Nat.reduceAdd,Nat.reduceMul,Nat.reduceSub,Int.reduceLT,Int.reduceLE,Int.reduceToNat,Int.reduceAdd,Int.reduceSub,Int.reduceMul,ne_eq,decide_true,decide_false,tf12, he0, he1, he2, hw1, hBk.cell]
  refine ⟨fun hk' => ?_, fun hk' => ?_⟩
  · try simp only [↓RD,↓c_seq,RU,RL,if_true,if_false,forall_const,implies_true,Nat.reduceLeDiff,Nat.reduceLT,pureOp,binPure,intBin,strBin,eqPure,isConstO,unPure,sliceLo,sliceHi,slicePure,lenPure,minPure,maxPure,buildP,resK,endV,yieldE,↓reduceIte,Nat.reduceEqDiff,reduceCtorEq,Nat.reduceAdd,Nat.reduceMul,Nat.reduceSub,Int.reduceLT,Int.reduceLE,Int.reduceToNat,Int.reduceAdd,Int.reduceSub,Int.reduceMul,ne_eq,decide_true,decide_false,tf12, he0, he1, he2, hw1, hBk.cell]
    refine uint_ok hW1 hn0 hn1 (by omega) (fun w2 F2 hW2 hS2 => ?_)
    obtain ⟨hM2, hB2, ho2⟩ := mk hS2
    simp only [↓RD,↓c_seq,RU,RL,if_true,if_false,forall_const,implies_true,Nat.reduceLeDiff,Nat.reduceLT,pureOp,binPure,intBin,strBin,eqPure,isConstO,unPure,sliceLo,sliceHi,slicePure,lenPure,minPure,maxPure,buildP,resK,endV,yieldE,↓reduceIte,Nat.reduceEqDiff,reduceCtorEq,Nat.reduceAdd,Nat.reduceMul,Nat.reduceSub,Int.reduceLT,Int.reduceLE,Int.reduceToNat,Int.reduceAdd,Int.reduceSub,Int.reduceMul,ne_eq,decide_true,decide_false,tf12, he0, he1, he2, hB2.cell]
    refine ruint_ok hM2 hn0 hn1 (by omega) (fun w3 G3 hM3 hS3 => ?_)
    try simp only [↓RD,↓c_seq,RU,RL,if_true,if_false,forall_const,implies_true,Nat.reduceLeDiff,Nat.reduceLT,pureOp,binPure,intBin,strBin,eqPure,isConstO,unPure,sliceLo,sliceHi,slicePure,lenPure,minPure,maxPure,buildP,resK,endV,yieldE,↓reduceIte,Nat.reduceEqDiff,reduceCtorEq,Nat.reduceAdd,Nat.reduceMul,Nat.reduceSub,Int.reduceLT,Int.reduceLE,Int.reduceToNat,Int.reduceAdd,Int.reduceSub,Int.reduceMul,ne_eq,decide_true,decide_false,tf12, he0]
    exact fin w2 F2 w3 G3 _ _ hW2 hS2 hM3 hS3 (by unfold wr; rw [if_neg n0, if_neg n1, if_pos hk'])
  have n2 := hk'
  clear hk'
  try simp only [↓RD,↓c_seq,RU,RL,if_true,if_false,forall_const,implies_true,Nat.reduceLeDiff,Nat.reduceLT,pureOp,binPure,intBin,strBin,eqPure,isConstO,unPure,sliceLo,sliceHi,slicePure,lenPure,minPure,maxPure,buildP,resK,endV,yieldE,↓reduceIte,Nat.reduceEqDiff,reduceCtorEq,Nat.reduceAdd,Nat.reduceMul,Nat.reduceSub,Int.reduceLT,Int.reduceLE,Int.reduceToNat,Int.reduceAdd,Int.reduceSub,Int.reduceMul,ne_eq,decide_true,decide_false,tf12, he0, he1, he2, hw1, hBk.cell]
  refine ⟨fun hk' => ?_, fun hk' => ?_⟩
  · try simp only [↓RD,↓c_seq,RU,RL,if_true,if_false,forall_const,implies_true,Nat.reduceLeDiff,Nat.reduceLT,pureOp,binPure,intBin,strBin,eqPure,isConstO,unPure,sliceLo,sliceHi,slicePure,lenPure,minPure,maxPure,buildP,resK,endV,yieldE,↓reduceIte,Nat.reduceEqDiff,reduceCtorEq,Nat.reduceAdd,Nat.reduceMul,Nat.reduceSub,Int.reduceLT,Int.reduceLE,Int.reduceToNat,Int.reduceAdd,Int.reduceSub,Int.reduceMul,ne_eq,decide_true,decide_false,tf12, he0, he1, he2, hw1, hBk.cell]
    refine int_ok hW1 (wrap_i64_range _).1 (wrap_i64_range _).2 (by omega) (fun w2 F2 hW2 hS2 => ?_)
    obtain ⟨hM2, hB2, ho2⟩ := mk hS2
    simp only [↓RD,↓c_seq,RU,RL,if_true,if_false,forall_const,implies_true,Nat.reduceLeDiff,Nat.reduceLT,pureOp,binPure,intBin,strBin,eqPure,isConstO,unPure,sliceLo,sliceHi,slicePure,lenPure,minPure,maxPure,buildP,resK,endV,yieldE,↓reduceIte,Nat.reduceEqDiff,reduceCtorEq,Nat.reduceAdd,Nat.reduceMul,Nat.reduceSub,Int.reduceLT,Int.reduceLE,Int.reduceToNat,Int.reduceAdd,Int.reduceSub,Int.reduceMul,ne_eq,decide_true,decide_false,tf12, he0, he1, he2, hB2.cell]
    refine rint_ok hM2 (wrap_i64_range _).1 (wrap_i64_range _).2 (by omega) (fun w3 G3 hM3 hS3 => ?_)
    try simp only [↓RD,↓c_seq,RU,RL,if_true,if_false,forall_const,implies_true,Nat.reduceLeDiff,Nat.reduceLT,pureOp,binPure,intBin,strBin,eqPure,isConstO,unPure,sliceLo,sliceHi,slicePure,lenPure,minPure,maxPure,buildP,resK,endV,yieldE,↓reduceIte,Nat.reduceEqDiff,reduceCtorEq,Nat.reduceAdd,Nat.reduceMul,Nat.reduceSub,Int.reduceLT,Int.reduceLE,Int.reduceToNat,Int.reduceAdd,Int.reduceSub,Int.reduceMul,ne_eq,decide_true,decide_false,tf12, he0]
    exact fin w2 F2 w3 G3 _ _ hW2 hS2 hM3 hS3 (by unfold wr; rw [if_neg n0, if_neg n1, if_neg n2, if_pos hk'])
  have n3 := hk'
  clear hk'
  try simp only [↓RD,↓c_seq,RU,RL,if_true,if_false,forall_const,implies_true,Nat.reduceLeDiff,Nat.reduceLT,pureOp,binPure,intBin,strBin,eqPure,isConstO,unPure,sliceLo,sliceHi,slicePure,lenPure,minPure,maxPure,buildP,resK,endV,yieldE,↓reduceIte,Nat.reduceEqDiff,reduceCtorEq,Nat.reduceAdd,Nat.reduceMul,Nat.reduceSub,Int.reduceLT,Int.reduceLE,Int.reduceToNat,Int.reduceAdd,Int.reduceSub,Int.reduceMul,ne_eq,decide_true,decide_false,tf12, he0, he1, he2, hw1, hBk.cell]
  refine ⟨fun hk' => ?_, fun hk' => ?_⟩
  · try simp only [↓RD,↓c_seq,RU,RL,if_true,if_false,forall_const,implies_true,Nat.reduceLeDiff,Nat.reduceLT,pureOp,binPure,intBin,strBin,eqPure,isConstO,unPure,sliceLo,sliceHi,slicePure,lenPure,minPure,maxPure,buildP,resK,endV,yieldE,↓reduceIte,Nat.reduceEqDiff,reduceCtorEq,Nat.reduceAdd,Nat.reduceMul,Nat.reduceSub,Int.reduceLT,Int.reduceLE,Int.reduceToNat,Int.reduceAdd,Int.reduceSub,Int.reduceMul,ne_eq,decide_true,decide_false,tf12, he0, he1, he2, hw1, hBk.cell]
    refine genK_totext rfl Try.underlying22 Try.underlying5 Try.underlying9 (A := o.A) (n := o.m) (c := o.c) (xs := o.xs) (by simp only [↓RD,↓c_seq,RU,RL,if_true,if_false,forall_const,implies_true,Nat.reduceLeDiff,Nat.reduceLT,pureOp,binPure,intBin,strBin,eqPure,isConstO,unPure,sliceLo,sliceHi,slicePure,lenPure,minPure,maxPure,buildP,resK,endV,yieldE,↓reduceIte,Nat.reduceEqDiff,reduceCtorEq,Nat.reduceAdd,Nat.reduceMul,Nat.reduceSub,Int.reduceLT,Int.reduceLE,Int.reduceToNat,Int.reduceAdd,Int.reduceSub,Int.reduceMul,ne_eq,decide_true,decide_false,tf12, he0, he1, he2, hw1]) ho1.rd ?_
    simp only [↓RD,↓c_seq,RU,RL,if_true,if_false,forall_const,implies_true,Nat.reduceLeDiff,Nat.reduceLT,pureOp,binPure,intBin,strBin,eqPure,isConstO,unPure,sliceLo,sliceHi,slicePure,lenPure,minPure,maxPure,buildP,resK,endV,yieldE,↓reduceIte,Nat.reduceEqDiff,reduceCtorEq,Nat.reduceAdd,Nat.reduceMul,Nat.reduceSub,Int.reduceLT,Int.reduceLE,Int.reduceToNat,Int.reduceAdd,Int.reduceSub,Int.reduceMul,ne_eq,decide_true,decide_false,tf12, he0, he1, he2, hw1]
    refine text_ok hW1 ho1.bytes (by omega) (fun w2 F2 hW2 hS2 => ?_)
    obtain ⟨hM2, hB2, ho2⟩ := mk hS2
    simp only [↓RD,↓c_seq,RU,RL,if_true,if_false,forall_const,implies_true,Nat.reduceLeDiff,Nat.reduceLT,pureOp,binPure,intBin,strBin,eqPure,isConstO,unPure,sliceLo,sliceHi,slicePure,lenPure,minPure,maxPure,buildP,resK,endV,yieldE,↓reduceIte,Nat.reduceEqDiff,reduceCtorEq,Nat.reduceAdd,Nat.reduceMul,Nat.reduceSub,Int.reduceLT,Int.reduceLE,Int.reduceToNat,Int.reduceAdd,Int.reduceSub,Int.reduceMul,ne_eq,decide_true,decide_false,tf12, he0, he1, he2, hB2.cell]
    refine genK_totext rfl Try.underlying22 Try.underlying5 Try.underlying9 (A := o.A) (n := o.m) (c := o.c) (xs := o.xs) (by simp only [↓RD,↓c_seq,RU,RL,if_true,if_false,forall_const,implies_true,Nat.reduceLeDiff,Nat.reduceLT,pureOp,binPure,intBin,strBin,eqPure,isConstO,unPure,sliceLo,sliceHi,slicePure,lenPure,minPure,maxPure,buildP,resK,endV,yieldE,↓reduceIte,Nat.reduceEqDiff,reduceCtorEq,Nat.reduceAdd,Nat.reduceMul,Nat.reduceSub,Int.reduceLT,Int.reduceLE,Int.reduceToNat,Int.reduceAdd,Int.reduceSub,Int.reduceMul,ne_eq,decide_true,decide_false,tf12, he0, he1, he2, hw1]) ho2.rd ?_
    simp only [↓RD,↓c_seq,RU,RL,if_true,if_false,forall_const,implies_true,Nat.reduceLeDiff,Nat.reduceLT,pureOp,binPure,intBin,strBin,eqPure,isConstO,unPure,sliceLo,sliceHi,slicePure,lenPure,minPure,maxPure,buildP,resK,endV,yieldE,↓reduceIte,Nat.reduceEqDiff,reduceCtorEq,Nat.reduceAdd,Nat.reduceMul,Nat.reduceSub,Int.reduceLT,Int.reduceLE,Int.reduceToNat,Int.reduceAdd,Int.reduceSub,Int.reduceMul,ne_eq,decide_true,decide_false,tf12, he0, he1, he2, hw1]
    refine rtext_ok hM2 ho1.bytes (by omega) (fun w3 G3 hM3 hS3 => ?_)
    try simp only [↓RD,↓c_seq,RU,RL,if_true,if_false,forall_const,implies_true,Nat.reduceLeDiff,Nat.reduceLT,pureOp,binPure,intBin,strBin,eqPure,isConstO,unPure,sliceLo,sliceHi,slicePure,lenPure,minPure,maxPure,buildP,resK,endV,yieldE,↓reduceIte,Nat.reduceEqDiff,reduceCtorEq,Nat.reduceAdd,Nat.reduceMul,Nat.reduceSub,Int.reduceLT,Int.reduceLE,Int.reduceToNat,Int.reduceAdd,Int.reduceSub,Int.reduceMul,ne_eq,decide_true,decide_false,tf12, he0]
    exact fin w2 F2 w3 G3 _ _ hW2 hS2 hM3 hS3 (by unfold wr; rw [if_neg n0, if_neg n1, if_neg n2, if_neg n3, if_pos (.inl hk')])
  have n4 := hk'
  clear hk'
  try simp only [↓RD,↓c_seq,RU,RL,if_true,if_false,forall_const,implies_true,Nat.reduceLeDiff,Nat.reduceLT,pureOp,binPure,intBin,strBin,eqPure,isConstO,unPure,sliceLo,sliceHi,slicePure,lenPure,minPure,maxPure,buildP,resK,endV,yieldE,↓reduceIte,Nat.reduceEqDiff,reduceCtorEq,Nat.reduceAdd,Nat.reduceMul,Nat.reduceSub,Int.reduceLT,Int.reduceLE,Int.reduceToNat,Int.reduceAdd,Int.reduceSub,Int.reduceMul,ne_eq,decide_true,decide_false,tf12, he0, he1, he2, hw1, hBk.cell]
  refine ⟨fun hk' => ?_, fun hk' => ?_⟩
  · try simp only [↓RD,↓c_seq,RU,RL,if_true,if_false,forall_const,implies_true,Nat.reduceLeDiff,Nat.reduceLT,pureOp,binPure,intBin,strBin,eqPure,isConstO,unPure,sliceLo,sliceHi,slicePure,lenPure,minPure,maxPure,buildP,resK,endV,yieldE,↓reduceIte,Nat.reduceEqDiff,reduceCtorEq,Nat.reduceAdd,Nat.reduceMul,Nat.reduceSub,Int.reduceLT,Int.reduceLE,Int.reduceToNat,Int.reduceAdd,Int.reduceSub,Int.reduceMul,ne_eq,decide_true,decide_false,tf12, he0, he1, he2, hw1, hBk.cell]
    refine raw_ok hW1 ho1.rd (fun h0 k hk => (hA h0 k hk).1) (by omega) (fun w2 F2 hW2 hS2 => ?_)
    obtain ⟨hM2, hB2, ho2⟩ := mk hS2
    simp only [↓RD,↓c_seq,RU,RL,if_true,if_false,forall_const,implies_true,Nat.reduceLeDiff,Nat.reduceLT,pureOp,binPure,intBin,strBin,eqPure,isConstO,unPure,sliceLo,sliceHi,slicePure,lenPure,minPure,maxPure,buildP,resK,endV,yieldE,↓reduceIte,Nat.reduceEqDiff,reduceCtorEq,Nat.reduceAdd,Nat.reduceMul,Nat.reduceSub,Int.reduceLT,Int.reduceLE,Int.reduceToNat,Int.reduceAdd,Int.reduceSub,Int.reduceMul,ne_eq,decide_true,decide_false,tf12, he0, he1, he2, hB2.cell]
    refine rraw_ok hM2 ho2.rd (fun h0 k hk => (hA h0 k hk).2) (by omega) (fun w3 G3 hM3 hS3 => ?_)
    try simp only [↓RD,↓c_seq,RU,RL,if_true,if_false,forall_const,implies_true,Nat.reduceLeDiff,Nat.reduceLT,pureOp,binPure,intBin,strBin,eqPure,isConstO,unPure,sliceLo,sliceHi,slicePure,lenPure,minPure,maxPure,buildP,resK,endV,yieldE,↓reduceIte,Nat.reduceEqDiff,reduceCtorEq,Nat.reduceAdd,Nat.reduceMul,Nat.reduceSub,Int.reduceLT,Int.reduceLE,Int.reduceToNat,Int.reduceAdd,Int.reduceSub,Int.reduceMul,ne_eq,decide_true,decide_false,tf12, he0]
    exact fin w2 F2 w3 G3 _ _ hW2 hS2 hM3 hS3 (by unfold wr; rw [if_neg n0, if_neg n1, if_neg n2, if_neg n3, if_pos (.inr hk')])
  have n5 := hk'
  clear hk'
  try simp only [↓RD,↓c_seq,RU,RL,if_true,if_false,forall_const,implies_true,Nat.reduceLeDiff,Nat.reduceLT,pureOp,binPure,intBin,strBin,eqPure,isConstO,unPure,sliceLo,sliceHi,slicePure,lenPure,minPure,maxPure,buildP,resK,endV,yieldE,↓reduceIte,Nat.reduceEqDiff,reduceCtorEq,Nat.reduceAdd,Nat.reduceMul,Nat.reduceSub,Int.reduceLT,Int.reduceLE,Int.reduceToNat,Int.reduceAdd,Int.reduceSub,Int.reduceMul,ne_eq,decide_true,decide_false,tf12, he0, he1, he2, hw1, hBk.cell]
  refine ⟨fun hk' => ?_, fun hk' => ?_⟩
  · try simp only [↓RD,↓c_seq,RU,RL,if_true,if_false,forall_const,implies_true,Nat.reduceLeDiff,Nat.reduceLT,pureOp,binPure,intBin,strBin,eqPure,isConstO,unPure,sliceLo,sliceHi,slicePure,lenPure,minPure,maxPure,buildP,resK,endV,yieldE,↓reduceIte,Nat.reduceEqDiff,reduceCtorEq,Nat.reduceAdd,Nat.reduceMul,Nat.reduceSub,Int.reduceLT,Int.reduceLE,Int.reduceToNat,Int.reduceAdd,Int.reduceSub,Int.reduceMul,ne_eq,decide_true,decide_false,tf12, he0, he1, he2, hw1, hBk.cell]
    refine bits_ok hW1 hok hn0 hn1 ho1.b0 ho1.b1 (by omega) (fun w2 F2 hW2 hS2 => ?_)
    obtain ⟨hM2, hB2, ho2⟩ := mk hS2
    simp only [↓RD,↓c_seq,RU,RL,if_true,if_false,forall_const,implies_true,Nat.reduceLeDiff,Nat.reduceLT,pureOp,binPure,intBin,strBin,eqPure,isConstO,unPure,sliceLo,sliceHi,slicePure,lenPure,minPure,maxPure,buildP,resK,endV,yieldE,↓reduceIte,Nat.reduceEqDiff,reduceCtorEq,Nat.reduceAdd,Nat.reduceMul,Nat.reduceSub,Int.reduceLT,Int.reduceLE,Int.reduceToNat,Int.reduceAdd,Int.reduceSub,Int.reduceMul,ne_eq,decide_true,decide_false,tf12, he0, he1, he2, hB2.cell]
    refine rbits_ok hM2 hok hn0 hn1 (by omega) (fun w3 G3 hM3 hS3 => ?_)
    try simp only [↓RD,↓c_seq,RU,RL,if_true,if_false,forall_const,implies_true,Nat.reduceLeDiff,Nat.reduceLT,pureOp,binPure,intBin,strBin,eqPure,isConstO,unPure,sliceLo,sliceHi,slicePure,lenPure,minPure,maxPure,buildP,resK,endV,yieldE,↓reduceIte,Nat.reduceEqDiff,reduceCtorEq,Nat.reduceAdd,Nat.reduceMul,Nat.reduceSub,Int.reduceLT,Int.reduceLE,Int.reduceToNat,Int.reduceAdd,Int.reduceSub,Int.reduceMul,ne_eq,decide_true,decide_false,tf12, he0]
    exact fin w2 F2 w3 G3 _ _ hW2 hS2 hM3 hS3 (by unfold wr; rw [if_neg n0, if_neg n1, if_neg n2, if_neg n3, if_neg (by omega), if_pos hk'])
  have n6 := hk'
  try simp only [↓RD,↓c_seq,RU,RL,if_true,if_false,forall_const,implies_true,Nat.reduceLeDiff,Nat.reduceLT,pureOp,binPure,intBin,strBin,eqPure,isConstO,unPure,sliceLo,sliceHi,slicePure,lenPure,minPure,maxPure,buildP,resK,endV,yieldE,↓reduceIte,Nat.reduceEqDiff,reduceCtorEq,Nat.reduceAdd,Nat.reduceMul,Nat.reduceSub,Int.reduceLT,Int.reduceLE,Int.reduceToNat,Int.reduceAdd,Int.reduceSub,Int.reduceMul,ne_eq,decide_true,decide_false,tf12, he0, he1, he2, hw1, hBk.cell]
  exact fin w1 F w1 G _ _ hW1 (Step.refl _ _) hM1 (Step.refl _ _) (by unfold wr; rw [if_neg n0, if_neg n1, if_neg n2, if_neg n3, if_neg (by omega), if_neg n6])

end Go.Proofs.Ytcjlhfmjcioeeaa
