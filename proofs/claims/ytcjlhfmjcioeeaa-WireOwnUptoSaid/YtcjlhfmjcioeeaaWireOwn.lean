/- The law WireOwn, walked. -/
import Derived.Test.YtcjlhfmjcioeeaaWOwn
import Derived.Test.YtcjlhfmjcioeeaaWrites
import Derived.Test.YtcjlhfmjcioeeaaTornSpec
import Derived.Test.YtcjlhfmjcioeeaaOpen
import Derived.Test.YtcjlhfmjcioeeaaLoadLib
import Derived.Test.YtcjlhfmjcioeeaaLive
set_option linter.unusedVariables false
set_option linter.unusedSimpArgs false
set_option maxRecDepth 100000
namespace Go.Proofs.Ytcjlhfmjcioeeaa
open Go

theorem noneF {k : Nat} (h : fpA none k) : False := by obtain ⟨ad, h, _⟩ := h; cases h
theorem capO {w : World} {e : TypeId} {size n c : Nat} {A : Option Addr} {xs : List Value} (h : w.ownsRow 0 e size (.slice A n c) n xs) : n ≤ c := by
  obtain ⟨A', c', hf, h1, _⟩ := own_form h
  cases hf
  exact h1
theorem oErr_small {xs : List Int} (h : oErr xs = none) : oN xs ≤ 67108864 := by
  rcases Nat.lt_or_ge 67108864 (oN xs) with hl | hl
  · unfold oErr at h
    split at h
    · cases h
    split at h
    · cases h
    first | cases h | (rw [if_pos hl] at h; cases h)
  · exact hl
theorem seal_any {w : World} {kind number : Int} (k0 : 0 ≤ kind) (k1 : kind < 256) {A : Option Addr} {n c : Nat} {xs : List Int} (hR : Rd w A n 1 (xs.map (Value.int .u8))) (hx : ∀ z ∈ xs, 0 ≤ z ∧ z < 256) (hn : n ≤ 140737488355328) {R : VWK}
    (h : ∀ w' A' n' c' (Z : List Int) ev, w'.ownsRow 0 5 1 (.slice A' n' c') n' (Z.map (Value.int .u8)) → (∀ z ∈ Z, 0 ≤ z ∧ z < 256) → n' ≤ 67109000 → Grow w w' → (∀ k, fpA A' k → w.heap.size ≤ k) → R (.tuple #[.slice A' n' c', ev]) w') :
    CallsV Try.prog 16 [.int .u8 kind, .int .u64 number, .slice A n c] w R :=
  seal_ok k0 k1 hR hx hn (fun _ w' g => h w' none 0 0 [] _ (own_nil _ _ _) (by simp) (by omega) g (fun k hk => (noneF hk).elim))
    (fun hs w' A' c' hO g hF => h w' A' _ c' _ _ hO (frameOf_byte k0 k1 hx) (by omega) g hF)
theorem open_any {w : World} {A : Option Addr} {n c : Nat} {xs : List Int} (hR : Rd w A n 1 (xs.map (Value.int .u8))) (hc : n ≤ c) (hx : ∀ z ∈ xs, 0 ≤ z ∧ z < 256) (hn : n ≤ 140737488355328) {R : VWK}
    (h : ∀ w' A' n' c' (ys : List Value) v1 v2 v4 v5, w'.ownsRow 0 5 1 (.slice A' n' c') n' ys → n' ≤ 67108864 → Grow w w' → (∀ k, fpA A' k → w.heap.size ≤ k) → R (.tuple #[v1, v2, .slice A' n' c', v4, v5]) w') :
    CallsV Try.prog 17 [.slice A n c] w R :=
  open_ok hR hc hx hn (fun e w' _ g => h w' none 0 0 [] _ _ _ _ (own_nil _ _ _) (by omega) g (fun k hk => (noneF hk).elim)) (fun he w' A' c' hO g hF => h w' A' _ c' _ _ _ _ _ hO (oErr_small he) g hF)

theorem wown_walk {w : World} {A : Option Addr} {n c : Nat} {ops : List OpV} (hA : Rd w A n 4 (ops.flatMap OpV.cells)) (ho : ∀ o ∈ ops, o.Ok w) (hn : n ≤ 1048576) (hT : tot ops ≤ 67108864) {B : Option Addr} {m d : Nat} {xs : List Int} (hB : Rd w B m 1 (xs.map (Value.int .u8)))
    (hx : ∀ z ∈ xs, 0 ≤ z ∧ z < 256) (hm : m ≤ 1048576) {R : VWK} (h : ∀ w', Grow w w' → R (.bool true) w') : CallsV Try.prog 6 [.slice A n c, .slice B m d] w R := by
  have hnl : n = ops.length := by
    have := hA.1.symm.trans (flat_len OpV.cells ops (cells4 ops)); omega
  -- two Writers and the book
  have hB1 := Blk.new' w 30 #[.slice none 0 0, .int .i64 0]
  have g1 := Grow.alloc w (.cells #[.slice none 0 0, .int .i64 0] 30)
  generalize hw1 : w.alloc (.cells #[.slice none 0 0, .int .i64 0] 30) = w1 at hB1 g1
  have e1 : w1.heap.size = w.heap.size + 1 := by rw [← hw1]; simp
  have hB2 := Blk.new' w1 33 #[.slice none 0 0, .int .i64 0]
  have g2 := Grow.alloc w1 (.cells #[.slice none 0 0, .int .i64 0] 33)
  generalize hw2 : w1.alloc (.cells #[.slice none 0 0, .int .i64 0] 33) = w2 at hB2 g2
  have e2 : w2.heap.size = w.heap.size + 2 := by rw [← hw2]; simp [e1]
  have hB3 : Blk (w2.alloc (.cells (bkb (.slice none 0 0)).toArray 80)) w2.heap.size 80 (bkb (.slice none 0 0)) := Blk.new _ _ _
  have g3 := Grow.alloc w2 (.cells (bkb (.slice none 0 0)).toArray 80)
  generalize hw3 : w2.alloc (.cells (bkb (.slice none 0 0)).toArray 80) = w3 at hB3 g3
  have hw3' : w2.alloc (.cells #[.slice none 0 0, .slice none 0 0, .slice none 0 0, .slice none 0 0, .slice none 0 0, .slice none 0 0, .slice none 0 0, .slice none 0 0, .slice none 0 0, .slice none 0 0, .slice none 0 0, .slice none 0 0, .slice none 0 0, .slice none 0 0, .slice none 0 0, .slice none 0 0, .slice none 0 0, .slice none 0 0, .slice none 0 0, .slice none 0 0, .slice none 0 0, .slice none 0 0, .slice none 0 0, .slice none 0 0, .slice none 0 0, .slice none 0 0, .slice none 0 0, .slice none 0 0] 80) = w3 := hw3
  have hWO0 : WO w w3 w2.heap.size w.heap.size w1.heap.size (fun k => k = w.heap.size ∨ fpV (.slice none 0 0) k) (fun k => k = w1.heap.size ∨ fpV (.slice none 0 0) k) [] 0 [] (.slice none 0 0) (fun _ => []) :=
    ⟨⟨_, (hB1.grow g2).grow g3, own_nil _ _ _, rfl⟩, ⟨_, hB2.grow g3, own_nil _ _ _, rfl⟩, fun k a b => a.elim (fun a => b.elim (fun b => by omega) (fun b => fpV_none _ b)) (fun a => fpV_none _ a), fun k a => a.elim (fun a => by omega) (fun a => absurd a (fpV_none _)), fun k a => a.elim (fun a => by omega) (fun a => absurd a (fpV_none _)),
      ⟨hB3, own_nil _ _ _, Held.nil _ _ _ _ _, by omega, fun k q => absurd q (fpV_none k), fun k q => by obtain ⟨v, hv, _⟩ := q; cases hv⟩, fun k q => (by obtain ⟨v, hv, _⟩ := q; cases hv), (g1.trans g2).trans g3⟩
  refine calls_of_wpC mixed Try.func6 rfl (by kernel_rfl) ?_
  intro e he
  have he0 := he 0
  have he1 := he 1
  simp only [List.getD_cons_zero, List.getD_cons_succ] at he0 he1
  clear he
  rw [c_seq]
  simp -dsimp only [↓RE,RU,RL,if_true,if_false,forall_const,implies_true,Nat.reduceLeDiff,Nat.reduceLT,pureOp,binPure,intBin,strBin,eqPure,isConstO,unPure,sliceLo,sliceHi,slicePure,lenPure,minPure,maxPure,buildP,resK,endV,yieldE,↓reduceIte,Nat.reduceEqDiff,reduceCtorEq,Nat.reduceAdd,Nat.reduceMul,Nat.reduceSub,Int.reduceLT,Int.reduceLE,Int.reduceToNat,Int.reduceAdd,Int.reduceSub,Int.reduceMul,ne_eq,decide_true,decide_false,tf6, he0]
  rw [c_seq]
  simp -dsimp only [↓RE,RU,RL,if_true,if_false,forall_const,implies_true,Nat.reduceLeDiff,Nat.reduceLT,pureOp,binPure,intBin,strBin,eqPure,isConstO,unPure,sliceLo,sliceHi,slicePure,lenPure,minPure,maxPure,buildP,resK,endV,yieldE,↓reduceIte,Nat.reduceEqDiff,reduceCtorEq,Nat.reduceAdd,Nat.reduceMul,Nat.reduceSub,Int.reduceLT,Int.reduceLE,Int.reduceToNat,Int.reduceAdd,Int.reduceSub,Int.reduceMul,ne_eq,decide_true,decide_false,tf6, he0, hw1]
  rw [c_seq]
  simp -dsimp only [↓RE,RU,RL,if_true,if_false,forall_const,implies_true,Nat.reduceLeDiff,Nat.reduceLT,pureOp,binPure,intBin,strBin,eqPure,isConstO,unPure,sliceLo,sliceHi,slicePure,lenPure,minPure,maxPure,buildP,resK,endV,yieldE,↓reduceIte,Nat.reduceEqDiff,reduceCtorEq,Nat.reduceAdd,Nat.reduceMul,Nat.reduceSub,Int.reduceLT,Int.reduceLE,Int.reduceToNat,Int.reduceAdd,Int.reduceSub,Int.reduceMul,ne_eq,decide_true,decide_false,tf6, he0, hw1, hw2]
  rw [c_seq]
  simp -dsimp only [↓RE,RU,RL,if_true,if_false,forall_const,implies_true,Nat.reduceLeDiff,Nat.reduceLT,pureOp,binPure,intBin,strBin,eqPure,isConstO,unPure,sliceLo,sliceHi,slicePure,lenPure,minPure,maxPure,buildP,resK,endV,yieldE,↓reduceIte,Nat.reduceEqDiff,reduceCtorEq,Nat.reduceAdd,Nat.reduceMul,Nat.reduceSub,Int.reduceLT,Int.reduceLE,Int.reduceToNat,Int.reduceAdd,Int.reduceSub,Int.reduceMul,ne_eq,decide_true,decide_false,tf6, he0, hw1, hw2, hw3']
  refine c_seq_cut (fun e' w' => e' 0 = .slice A n c ∧ e' 1 = .slice B m d ∧ e' 5 = .pointer (some ⟨w.heap.size, 0, none⟩) ∧ e' 6 = .pointer (some ⟨w1.heap.size, 0, none⟩) ∧ e' 7 = .pointer (some ⟨w2.heap.size, 0, none⟩) ∧
      ∃ (F G : Nat → Prop) (zs : List Int) (b : Nat) (vs : List Value) (s0 : Value) (c0 : Nat → List Value), WO w w' w2.heap.size w.heap.size w1.heap.size F G zs b vs s0 c0 ∧ WOk zs b ∧ vs.length ≤ n ∧ zs.length ≤ 67108864) ?_ ?_
  · try simp -dsimp only [↓RE,↓c_seq,RU,RL,if_true,if_false,forall_const,implies_true,Nat.reduceLeDiff,Nat.reduceLT,pureOp,binPure,intBin,strBin,eqPure,isConstO,unPure,sliceLo,sliceHi,slicePure,lenPure,minPure,maxPure,buildP,resK,endV,yieldE,↓reduceIte,Nat.reduceEqDiff,reduceCtorEq,Nat.reduceAdd,Nat.reduceMul,Nat.reduceSub,Int.reduceLT,Int.reduceLE,Int.reduceToNat,Int.reduceAdd,Int.reduceSub,Int.reduceMul,ne_eq,decide_true,decide_false,tf6, he0, he1]
    refine wpLoop_intro (fun e' w' => e' 0 = .slice A n c ∧ e' 1 = .slice B m d ∧ e' 5 = .pointer (some ⟨w.heap.size, 0, none⟩) ∧ e' 6 = .pointer (some ⟨w1.heap.size, 0, none⟩) ∧ e' 7 = .pointer (some ⟨w2.heap.size, 0, none⟩) ∧ e' 24 = .slice A n c ∧ e' 25 = .int .i64 n ∧
        ∃ (done rest : List OpV) (F G : Nat → Prop) (vs : List Value) (s0 : Value) (c0 : Nat → List Value), ops = done ++ rest ∧ e' 26 = .int .i64 done.length ∧ WO w w' w2.heap.size w.heap.size w1.heap.size F G (wrs done ([], 0)).1 (wrs done ([], 0)).2 vs s0 c0 ∧
        WOk (wrs done ([], 0)).1 (wrs done ([], 0)).2 ∧ vs.length = done.length ∧ (wrs done ([], 0)).1.length + tot rest ≤ tot ops)
      (fun e' _ => n - (envInt (e' 26)).toNat) ⟨?_, ?_, ?_, ?_, ?_, ?_, ?_, [], ops, _, _, _, _, _, rfl, ?_, hWO0, WOk.nil, rfl, by simp [wrs]⟩ ?_
    · simp -dsimp only [↓RE,RU,RL,if_true,if_false,↓reduceIte,Nat.reduceEqDiff,reduceCtorEq,decide_true,decide_false, he0]
    · simp -dsimp only [↓RE,RU,RL,if_true,if_false,↓reduceIte,Nat.reduceEqDiff,reduceCtorEq,decide_true,decide_false, he1]
    · simp -dsimp only [↓RE,RU,RL,if_true,if_false,↓reduceIte,Nat.reduceEqDiff,reduceCtorEq,decide_true,decide_false, he0]
    · simp -dsimp only [↓RE,RU,RL,if_true,if_false,↓reduceIte,Nat.reduceEqDiff,reduceCtorEq,decide_true,decide_false, he0]
    · simp -dsimp only [↓RE,RU,RL,if_true,if_false,↓reduceIte,Nat.reduceEqDiff,reduceCtorEq,decide_true,decide_false, he0]
    · simp -dsimp only [↓RE,RU,RL,if_true,if_false,↓reduceIte,Nat.reduceEqDiff,reduceCtorEq,decide_true,decide_false, he0]
    · simp -dsimp only [↓RE,RU,RL,if_true,if_false,↓reduceIte,Nat.reduceEqDiff,reduceCtorEq,decide_true,decide_false, he0]
    · simp -dsimp only [↓RE,RU,RL,if_true,if_false,↓reduceIte,Nat.reduceEqDiff,reduceCtorEq,decide_true,decide_false, he0, Int.cast_ofNat_Int, List.length_nil]
    rintro e' w' ⟨h0, h1, h5, h6, h7, h24, h25, done, rest, F, G, vs, s0, c0, hops, h26, hO, hok, hvl, hlen⟩
    generalize hz : wrs done ([], 0) = s at hO hok hlen
    obtain ⟨zs, b⟩ := s
    simp only at hO hok hlen
    have hnd : n = done.length + rest.length := by rw [hnl, hops, List.length_append]
    have hvn : vs.length ≤ n := by omega
    try simp -dsimp only [↓RE,↓c_seq,RU,RL,if_true,if_false,forall_const,implies_true,Nat.reduceLeDiff,Nat.reduceLT,pureOp,binPure,intBin,strBin,eqPure,isConstO,unPure,sliceLo,sliceHi,slicePure,lenPure,minPure,maxPure,buildP,resK,endV,yieldE,↓reduceIte,Nat.reduceEqDiff,reduceCtorEq,Nat.reduceAdd,Nat.reduceMul,Nat.reduceSub,Int.reduceLT,Int.reduceLE,Int.reduceToNat,Int.reduceAdd,Int.reduceSub,Int.reduceMul,ne_eq,decide_true,decide_false,tf6, h0, h1, h5, h6, h7, h24, h25, h26]
    refine ⟨fun hlt => ?_, fun hge => ?_⟩
    · obtain ⟨o, rest, rfl⟩ : ∃ o r, rest = o :: r := by
        cases rest with
        | nil => simp at hnd; omega
        | cons o r => exact ⟨o, r, rfl⟩
      have hmem : o ∈ ops := by rw [hops]; simp
      have hget : ops[done.length]? = some o := by rw [hops]; simp
      have hg := hO.gr
      have hsg := hg.size
      obtain ⟨hkn, ad, rfl, hc⟩ := (hA.grow hg).flat (cells4 ops) hget (by omega)
      have hoo := (ho o hmem).keep hg (fun _ _ _ h => h)
      have htm := tot_mem hmem
      simp only [tot] at hlen
      try simp -dsimp only [↓RE,↓c_seq,RU,RL,if_true,if_false,forall_const,implies_true,Nat.reduceLeDiff,Nat.reduceLT,pureOp,binPure,intBin,strBin,eqPure,isConstO,unPure,sliceLo,sliceHi,slicePure,lenPure,minPure,maxPure,buildP,resK,endV,yieldE,↓reduceIte,Nat.reduceEqDiff,reduceCtorEq,Nat.reduceAdd,Nat.reduceMul,Nat.reduceSub,Int.reduceLT,Int.reduceLE,Int.reduceToNat,Int.reduceAdd,Int.reduceSub,Int.reduceMul,ne_eq,decide_true,decide_false,tf6, h0, h1, h5, h6, h7, h24, h25, h26]
      refine ⟨⟨by omega, by omega⟩, o.cells, rfl, hc, ?_⟩
      try simp -dsimp only [↓RE,↓c_seq,RU,RL,if_true,if_false,forall_const,implies_true,Nat.reduceLeDiff,Nat.reduceLT,pureOp,binPure,intBin,strBin,eqPure,isConstO,unPure,sliceLo,sliceHi,slicePure,lenPure,minPure,maxPure,buildP,resK,endV,yieldE,↓reduceIte,Nat.reduceEqDiff,reduceCtorEq,Nat.reduceAdd,Nat.reduceMul,Nat.reduceSub,Int.reduceLT,Int.reduceLE,Int.reduceToNat,Int.reduceAdd,Int.reduceSub,Int.reduceMul,ne_eq,decide_true,decide_false,tf6, h0, h1, h5, h6, h7, h24, h25, h26]
      have hz0 := Blk.new' w' 36 #[.int .i64 0, .int .u64 0, .int .i64 0, .slice none 0 0]
      have ga := Grow.alloc w' (.cells #[.int .i64 0, .int .u64 0, .int .i64 0, .slice none 0 0] 36)
      refine ⟨rfl, hz0.stAgg (by simp [OpV.cells]) (by simp [OpV.cells, Value.oneCell']) (fun wa hBa hKa => ?_)⟩
      have hBa : Blk wa w'.heap.size 36 o.cells := by simpa [OpV.cells] using hBa
      have ga2 : Grow w' wa := ga.above hKa (fun i hi e => by omega)
      have hOa := hO.grow ga2
      try simp -dsimp only [↓RE,↓c_seq,RU,RL,if_true,if_false,forall_const,implies_true,Nat.reduceLeDiff,Nat.reduceLT,pureOp,binPure,intBin,strBin,eqPure,isConstO,unPure,sliceLo,sliceHi,slicePure,lenPure,minPure,maxPure,buildP,resK,endV,yieldE,↓reduceIte,Nat.reduceEqDiff,reduceCtorEq,Nat.reduceAdd,Nat.reduceMul,Nat.reduceSub,Int.reduceLT,Int.reduceLE,Int.reduceToNat,Int.reduceAdd,Int.reduceSub,Int.reduceMul,ne_eq,decide_true,decide_false,tf6, h0, h1, h5, h6, h7, h24, h25, h26]
      refine hBa.aggK (by simp [OpV.cells]) ?_
      try simp -dsimp only [↓RE,↓c_seq,RU,RL,if_true,if_false,forall_const,implies_true,Nat.reduceLeDiff,Nat.reduceLT,pureOp,binPure,intBin,strBin,eqPure,isConstO,unPure,sliceLo,sliceHi,slicePure,lenPure,minPure,maxPure,buildP,resK,endV,yieldE,↓reduceIte,Nat.reduceEqDiff,reduceCtorEq,Nat.reduceAdd,Nat.reduceMul,Nat.reduceSub,Int.reduceLT,Int.reduceLE,Int.reduceToNat,Int.reduceAdd,Int.reduceSub,Int.reduceMul,ne_eq,decide_true,decide_false,tf6, h0, h1, h5, h6, h7, h24, h25, h26]
      rw [List.drop_zero, List.take_of_length_le (by simp [OpV.cells])]
      refine write_ok hOa.W hOa.M hOa.d hok (hoo.keep ga2 (fun _ _ _ h => h)) (fun q0 k hk => ?_) (by omega) (fun wb Fb Gb hWb hMb hdb hSb => ?_)
      · have := (ho o hmem).rd.lt q0 (by omega) k hk
        exact ⟨fun hf => absurd (hOa.f k hf) (by omega), fun hf => absurd (hOa.g k hf) (by omega)⟩
      have hOb := hOa.wrote hWb hMb hdb hSb
      have hokb := wr_ok (s := (zs, b)) (ho o hmem) hok
      have hlb := wr_len (ho o hmem) (by omega) (zs, b)
      have nd : wrs (done ++ [o]) ([], 0) = wr o (zs, b) := by rw [wrs_snoc, hz]
      rw [← nd] at hOb hokb hlb
      have hsb := hOb.gr.size
      try simp -dsimp only [↓RE,↓c_seq,RU,RL,if_true,if_false,forall_const,implies_true,Nat.reduceLeDiff,Nat.reduceLT,pureOp,binPure,intBin,strBin,eqPure,isConstO,unPure,sliceLo,sliceHi,slicePure,lenPure,minPure,maxPure,buildP,resK,endV,yieldE,↓reduceIte,Nat.reduceEqDiff,reduceCtorEq,Nat.reduceAdd,Nat.reduceMul,Nat.reduceSub,Int.reduceLT,Int.reduceLE,Int.reduceToNat,Int.reduceAdd,Int.reduceSub,Int.reduceMul,ne_eq,decide_true,decide_false,tf6, h0, h1, h5, h6, h7, h24, h25, h26]
      refine bytes_ok hOb.W (by simp only at hlb; omega) (fun wc Ac cc hOc gc hFc => ?_)
      have hOcw := hOb.grow gc
      have hlt := hOb.W.lt
      have hlm := hOb.M.lt
      have hlr := hOb.B.row_lt
      try simp -dsimp only [↓RE,↓c_seq,RU,RL,if_true,if_false,forall_const,implies_true,Nat.reduceLeDiff,Nat.reduceLT,pureOp,binPure,intBin,strBin,eqPure,isConstO,unPure,sliceLo,sliceHi,slicePure,lenPure,minPure,maxPure,buildP,resK,endV,yieldE,↓reduceIte,Nat.reduceEqDiff,reduceCtorEq,Nat.reduceAdd,Nat.reduceMul,Nat.reduceSub,Int.reduceLT,Int.reduceLE,Int.reduceToNat,Int.reduceAdd,Int.reduceSub,Int.reduceMul,ne_eq,decide_true,decide_false,tf6, h0, h1, h5, h6, h7, h24, h25, h26]
      refine hOcw.take hOc (fun k hk => ⟨by have := hFc k hk; omega, fun q => by have := hFc k hk; have := hlr k q; omega, fun q => by have := hFc k hk; have := hlt k q; omega, fun q => by have := hFc k hk; have := hlm k q; omega⟩) (by simp only at hlb; omega) (by omega) (fun wd s' c' hOd _ _ => ?_)
      try simp -dsimp only [↓RE,↓c_seq,RU,RL,if_true,if_false,forall_const,implies_true,Nat.reduceLeDiff,Nat.reduceLT,pureOp,binPure,intBin,strBin,eqPure,isConstO,unPure,sliceLo,sliceHi,slicePure,lenPure,minPure,maxPure,buildP,resK,endV,yieldE,↓reduceIte,Nat.reduceEqDiff,reduceCtorEq,Nat.reduceAdd,Nat.reduceMul,Nat.reduceSub,Int.reduceLT,Int.reduceLE,Int.reduceToNat,Int.reduceAdd,Int.reduceSub,Int.reduceMul,ne_eq,decide_true,decide_false,tf6, h0, h1, h5, h6, h7, h24, h25, h26]
      refine hold_intro ⟨⟨?_, ?_, ?_, ?_, ?_, ?_, ?_, done ++ [o], rest, _, _, _, _, _, by rw [hops]; simp, ?_, hOd, hokb, by simp [hvl], by simp only at hlb; omega⟩, ?_⟩
      · simp -dsimp only [↓RE,RU,RL,if_true,if_false,↓reduceIte,Nat.reduceEqDiff,reduceCtorEq,decide_true,decide_false, h0]
      · simp -dsimp only [↓RE,RU,RL,if_true,if_false,↓reduceIte,Nat.reduceEqDiff,reduceCtorEq,decide_true,decide_false, h1]
      · simp -dsimp only [↓RE,RU,RL,if_true,if_false,↓reduceIte,Nat.reduceEqDiff,reduceCtorEq,decide_true,decide_false, h5]
      · simp -dsimp only [↓RE,RU,RL,if_true,if_false,↓reduceIte,Nat.reduceEqDiff,reduceCtorEq,decide_true,decide_false, h6]
      · simp -dsimp only [↓RE,RU,RL,if_true,if_false,↓reduceIte,Nat.reduceEqDiff,reduceCtorEq,decide_true,decide_false, h7]
      · simp -dsimp only [↓RE,RU,RL,if_true,if_false,↓reduceIte,Nat.reduceEqDiff,reduceCtorEq,decide_true,decide_false, h24]
      · simp -dsimp only [↓RE,RU,RL,if_true,if_false,↓reduceIte,Nat.reduceEqDiff,reduceCtorEq,decide_true,decide_false, h25]
      · simp -dsimp only [↓RE,RU,RL,if_true,if_false,↓reduceIte,Nat.reduceEqDiff,reduceCtorEq,decide_true,decide_false, h26]
        rw [wrap_i64_in (by omega) (by omega)]; simp
      · simp -dsimp only [↓RE,RU,RL,if_true,if_false,↓reduceIte,Nat.reduceEqDiff,reduceCtorEq,decide_true,decide_false, h26]
        rw [wrap_i64_in (by omega) (by omega), envInt_int, envInt_int]; omega
    · try simp -dsimp only [↓RE,↓c_seq,RU,RL,if_true,if_false,forall_const,implies_true,Nat.reduceLeDiff,Nat.reduceLT,pureOp,binPure,intBin,strBin,eqPure,isConstO,unPure,sliceLo,sliceHi,slicePure,lenPure,minPure,maxPure,buildP,resK,endV,yieldE,↓reduceIte,Nat.reduceEqDiff,reduceCtorEq,Nat.reduceAdd,Nat.reduceMul,Nat.reduceSub,Int.reduceLT,Int.reduceLE,Int.reduceToNat,Int.reduceAdd,Int.reduceSub,Int.reduceMul,ne_eq,decide_true,decide_false,tf6, h0, h1, h5, h6, h7, h24, h25, h26]
      refine hold_intro ⟨?_, ?_, ?_, ?_, ?_, F, G, zs, b, vs, s0, c0, hO, hok, hvn, by omega⟩
      · simp -dsimp only [↓RE,RU,RL,if_true,if_false,↓reduceIte,Nat.reduceEqDiff,reduceCtorEq,decide_true,decide_false, h0]
      · simp -dsimp only [↓RE,RU,RL,if_true,if_false,↓reduceIte,Nat.reduceEqDiff,reduceCtorEq,decide_true,decide_false, h1]
      · simp -dsimp only [↓RE,RU,RL,if_true,if_false,↓reduceIte,Nat.reduceEqDiff,reduceCtorEq,decide_true,decide_false, h5]
      · simp -dsimp only [↓RE,RU,RL,if_true,if_false,↓reduceIte,Nat.reduceEqDiff,reduceCtorEq,decide_true,decide_false, h6]
      · simp -dsimp only [↓RE,RU,RL,if_true,if_false,↓reduceIte,Nat.reduceEqDiff,reduceCtorEq,decide_true,decide_false, h7]
  rintro e1' w4 ⟨h0, h1, h5, h6, h7, F, G, zs, b, vs, s0, c0, hO, hok, hvn, hzl⟩
  have hs4 := hO.gr.size
  rw [c_seq]
  simp -dsimp only [↓RE,RU,RL,if_true,if_false,forall_const,implies_true,Nat.reduceLeDiff,Nat.reduceLT,pureOp,binPure,intBin,strBin,eqPure,isConstO,unPure,sliceLo,sliceHi,slicePure,lenPure,minPure,maxPure,buildP,resK,endV,yieldE,↓reduceIte,Nat.reduceEqDiff,reduceCtorEq,Nat.reduceAdd,Nat.reduceMul,Nat.reduceSub,Int.reduceLT,Int.reduceLE,Int.reduceToNat,Int.reduceAdd,Int.reduceSub,Int.reduceMul,ne_eq,decide_true,decide_false,tf6, h0, h1, h5, h6, h7]
  refine seal_any (by omega) (by omega) (hB.grow hO.gr) hx (by omega) (fun w5 Af nf cf Zf ef of_ bf nf1 g5 ff => ?_)
  have hs5 := g5.size
  simp -dsimp only [↓RE,RU,RL,if_true,if_false,forall_const,implies_true,Nat.reduceLeDiff,Nat.reduceLT,pureOp,binPure,intBin,strBin,eqPure,isConstO,unPure,sliceLo,sliceHi,slicePure,lenPure,minPure,maxPure,buildP,resK,endV,yieldE,↓reduceIte,Nat.reduceEqDiff,reduceCtorEq,Nat.reduceAdd,Nat.reduceMul,Nat.reduceSub,Int.reduceLT,Int.reduceLE,Int.reduceToNat,Int.reduceAdd,Int.reduceSub,Int.reduceMul,ne_eq,decide_true,decide_false,tf6, h0, h1, h5, h6, h7]
  rw [c_seq]
  simp -dsimp only [↓RE,RU,RL,if_true,if_false,forall_const,implies_true,Nat.reduceLeDiff,Nat.reduceLT,pureOp,binPure,intBin,strBin,eqPure,isConstO,unPure,sliceLo,sliceHi,slicePure,lenPure,minPure,maxPure,buildP,resK,endV,yieldE,↓reduceIte,Nat.reduceEqDiff,reduceCtorEq,Nat.reduceAdd,Nat.reduceMul,Nat.reduceSub,Int.reduceLT,Int.reduceLE,Int.reduceToNat,Int.reduceAdd,Int.reduceSub,Int.reduceMul,ne_eq,decide_true,decide_false,tf6, h0, h1, h5, h6, h7]
  refine open_any (Rd.of_own of_) (capO of_) bf (by omega) (fun w6 Ap np cp yp v1 v2 v4 v5 op np1 g6 fp => ?_)
  have hs6 := g6.size
  have lf := own_lt of_
  have hO6 := (hO.grow g5).grow g6
  have of6 := own_grow of_ g6
  have L := hO.B.row_lt
  have LW := hO.W.lt
  have LM := hO.M.lt
  simp -dsimp only [↓RE,RU,RL,if_true,if_false,forall_const,implies_true,Nat.reduceLeDiff,Nat.reduceLT,pureOp,binPure,intBin,strBin,eqPure,isConstO,unPure,sliceLo,sliceHi,slicePure,lenPure,minPure,maxPure,buildP,resK,endV,yieldE,↓reduceIte,Nat.reduceEqDiff,reduceCtorEq,Nat.reduceAdd,Nat.reduceMul,Nat.reduceSub,Int.reduceLT,Int.reduceLE,Int.reduceToNat,Int.reduceAdd,Int.reduceSub,Int.reduceMul,ne_eq,decide_true,decide_false,tf6, h0, h1, h5, h6, h7]
  rw [c_seq]
  simp -dsimp only [↓RE,RU,RL,if_true,if_false,forall_const,implies_true,Nat.reduceLeDiff,Nat.reduceLT,pureOp,binPure,intBin,strBin,eqPure,isConstO,unPure,sliceLo,sliceHi,slicePure,lenPure,minPure,maxPure,buildP,resK,endV,yieldE,↓reduceIte,Nat.reduceEqDiff,reduceCtorEq,Nat.reduceAdd,Nat.reduceMul,Nat.reduceSub,Int.reduceLT,Int.reduceLE,Int.reduceToNat,Int.reduceAdd,Int.reduceSub,Int.reduceMul,ne_eq,decide_true,decide_false,tf6, h0, h1, h5, h6, h7]
  refine hO6.take of6 (fun k hk => ⟨by have := ff k hk; omega, fun q => by have := ff k hk; have := L k q; omega, fun q => by have := ff k hk; have := LW k q; omega, fun q => by have := ff k hk; have := LM k q; omega⟩) (by omega) (by omega) (fun w7 s7 c7 hO7 k7 f7 => ?_)
  have o6 := own_keep op k7 (fun k q q' => q'.elim (fun e => own_blk_ne op hO6.B.b (by decide) (by rw [← e]; exact q)) (fun q' => own_ne op hO6.B.o (by decide) k q q'))
  simp -dsimp only [↓RE,RU,RL,if_true,if_false,forall_const,implies_true,Nat.reduceLeDiff,Nat.reduceLT,pureOp,binPure,intBin,strBin,eqPure,isConstO,unPure,sliceLo,sliceHi,slicePure,lenPure,minPure,maxPure,buildP,resK,endV,yieldE,↓reduceIte,Nat.reduceEqDiff,reduceCtorEq,Nat.reduceAdd,Nat.reduceMul,Nat.reduceSub,Int.reduceLT,Int.reduceLE,Int.reduceToNat,Int.reduceAdd,Int.reduceSub,Int.reduceMul,ne_eq,decide_true,decide_false,tf6, h0, h1, h5, h6, h7]
  rw [c_seq]
  simp -dsimp only [↓RE,RU,RL,if_true,if_false,forall_const,implies_true,Nat.reduceLeDiff,Nat.reduceLT,pureOp,binPure,intBin,strBin,eqPure,isConstO,unPure,sliceLo,sliceHi,slicePure,lenPure,minPure,maxPure,buildP,resK,endV,yieldE,↓reduceIte,Nat.reduceEqDiff,reduceCtorEq,Nat.reduceAdd,Nat.reduceMul,Nat.reduceSub,Int.reduceLT,Int.reduceLE,Int.reduceToNat,Int.reduceAdd,Int.reduceSub,Int.reduceMul,ne_eq,decide_true,decide_false,tf6, h0, h1, h5, h6, h7]
  refine hO7.take o6 (fun k hk => ⟨by have := fp k hk; omega, fun q => ?_, fun q => by have := fp k hk; have := LW k q; omega, fun q => by have := fp k hk; have := LM k q; omega⟩) (by omega) (by simp; omega) (fun w8 s8 c8 hO8 k8 f8 => ?_)
  · obtain ⟨u, hu, hq⟩ := q
    have := fp k hk
    rcases List.mem_append.1 hu with hu | hu
    · have := L k ⟨u, hu, hq⟩; omega
    · rw [List.mem_singleton.1 hu] at hq; have := lf k hq; omega
  simp -dsimp only [↓RE,RU,RL,if_true,if_false,forall_const,implies_true,Nat.reduceLeDiff,Nat.reduceLT,pureOp,binPure,intBin,strBin,eqPure,isConstO,unPure,sliceLo,sliceHi,slicePure,lenPure,minPure,maxPure,buildP,resK,endV,yieldE,↓reduceIte,Nat.reduceEqDiff,reduceCtorEq,Nat.reduceAdd,Nat.reduceMul,Nat.reduceSub,Int.reduceLT,Int.reduceLE,Int.reduceToNat,Int.reduceAdd,Int.reduceSub,Int.reduceMul,ne_eq,decide_true,decide_false,tf6, h0, h1, h5, h6, h7]
  rw [c_seq]
  simp -dsimp only [↓RE,RU,RL,if_true,if_false,forall_const,implies_true,Nat.reduceLeDiff,Nat.reduceLT,pureOp,binPure,intBin,strBin,eqPure,isConstO,unPure,sliceLo,sliceHi,slicePure,lenPure,minPure,maxPure,buildP,resK,endV,yieldE,↓reduceIte,Nat.reduceEqDiff,reduceCtorEq,Nat.reduceAdd,Nat.reduceMul,Nat.reduceSub,Int.reduceLT,Int.reduceLE,Int.reduceToNat,Int.reduceAdd,Int.reduceSub,Int.reduceMul,ne_eq,decide_true,decide_false,tf6, h0, h1, h5, h6, h7]
  refine bytes_ok hO8.W (by omega) (fun w9 A9 c9 o9 g9 f9 => ?_)
  simp -dsimp only [↓RE,RU,RL,if_true,if_false,forall_const,implies_true,Nat.reduceLeDiff,Nat.reduceLT,pureOp,binPure,intBin,strBin,eqPure,isConstO,unPure,sliceLo,sliceHi,slicePure,lenPure,minPure,maxPure,buildP,resK,endV,yieldE,↓reduceIte,Nat.reduceEqDiff,reduceCtorEq,Nat.reduceAdd,Nat.reduceMul,Nat.reduceSub,Int.reduceLT,Int.reduceLE,Int.reduceToNat,Int.reduceAdd,Int.reduceSub,Int.reduceMul,ne_eq,decide_true,decide_false,tf6, h0, h1, h5, h6, h7]
  refine newReader_ok (Rd.of_own o9) (by omega) (fun w10 Fr pr hRr g10 fr => ?_)
  have hO10 := (hO8.grow g9).grow g10
  have hs9 := g9.size
  have LW8 := hO8.W.lt
  have LM8 := hO8.M.lt
  have LB8 := hO8.B.b.lt
  have LS8 := own_lt hO8.B.o
  have LR8 := hO8.B.row_lt
  have hpr := hRr.at
  have hprf := fr pr hpr
  have hzb := hok.2.1
  have rok0 : RSok ⟨zs, 0, 0, none⟩ := ⟨Nat.zero_le _, by show (0 : Nat) < 8; omega, fun h => absurd h (Nat.lt_irrefl 0), by show zs.length ≤ 140737488355328; omega, hzb⟩
  generalize hvs8 : (vs ++ [Value.slice Af nf cf]) ++ [Value.slice Ap np cp] = vs8 at hO10 hO8 LR8
  have hv8 : vs8.length ≤ n + 2 := by rw [← hvs8]; simp; omega
  simp -dsimp only [↓RE,RU,RL,if_true,if_false,forall_const,implies_true,Nat.reduceLeDiff,Nat.reduceLT,pureOp,binPure,intBin,strBin,eqPure,isConstO,unPure,sliceLo,sliceHi,slicePure,lenPure,minPure,maxPure,buildP,resK,endV,yieldE,↓reduceIte,Nat.reduceEqDiff,reduceCtorEq,Nat.reduceAdd,Nat.reduceMul,Nat.reduceSub,Int.reduceLT,Int.reduceLE,Int.reduceToNat,Int.reduceAdd,Int.reduceSub,Int.reduceMul,ne_eq,decide_true,decide_false,tf6, h0, h1, h5, h6, h7]
  refine c_seq_cut (fun e' w' => e' 5 = .pointer (some ⟨w.heap.size, 0, none⟩) ∧ e' 6 = .pointer (some ⟨w1.heap.size, 0, none⟩) ∧ e' 7 = .pointer (some ⟨w2.heap.size, 0, none⟩) ∧ ∃ (vs : List Value) (s0 : Value) (c0 : Nat → List Value), WO w w' w2.heap.size w.heap.size w1.heap.size F G zs b vs s0 c0 ∧ vs.length ≤ 4194304) ?_ ?_
  · try simp -dsimp only [↓RE,↓c_seq,RU,RL,if_true,if_false,forall_const,implies_true,Nat.reduceLeDiff,Nat.reduceLT,pureOp,binPure,intBin,strBin,eqPure,isConstO,unPure,sliceLo,sliceHi,slicePure,lenPure,minPure,maxPure,buildP,resK,endV,yieldE,↓reduceIte,Nat.reduceEqDiff,reduceCtorEq,Nat.reduceAdd,Nat.reduceMul,Nat.reduceSub,Int.reduceLT,Int.reduceLE,Int.reduceToNat,Int.reduceAdd,Int.reduceSub,Int.reduceMul,ne_eq,decide_true,decide_false,tf6, h0, h1, h5, h6, h7]
    refine wpLoop_intro (fun e' w' => e' 5 = .pointer (some ⟨w.heap.size, 0, none⟩) ∧ e' 6 = .pointer (some ⟨w1.heap.size, 0, none⟩) ∧ e' 7 = .pointer (some ⟨w2.heap.size, 0, none⟩) ∧ e' 17 = .pointer (some ⟨pr, 0, none⟩) ∧ e' 58 = .slice A n c ∧ e' 59 = .int .i64 n ∧
        ∃ (k : Nat) (s : RS) (vs : List Value) (s0 : Value) (c0 : Nat → List Value), k ≤ n ∧ e' 60 = .int .i64 k ∧ WO w w' w2.heap.size w.heap.size w1.heap.size F G zs b vs s0 c0 ∧ RAt w' Fr pr s ∧ RSok s ∧ s.xs = zs ∧ vs.length ≤ n + 2 + k ∧
        (∀ i, Fr i → ¬ F i ∧ ¬ G i ∧ i ≠ w2.heap.size ∧ ¬ fpV s0 i) ∧ ¬ fpL vs pr)
      (fun e' _ => n - (envInt (e' 60)).toNat) ⟨?_, ?_, ?_, ?_, ?_, ?_, 0, _, vs8, s8, _, Nat.zero_le _, ?_, hO10, hRr, rok0, rfl, by omega, fun i hi => ?_, fun q => by have := LR8 pr q; omega⟩ ?_
    · simp -dsimp only [↓RE,RU,RL,if_true,if_false,↓reduceIte,Nat.reduceEqDiff,reduceCtorEq,decide_true,decide_false, h5]
    · simp -dsimp only [↓RE,RU,RL,if_true,if_false,↓reduceIte,Nat.reduceEqDiff,reduceCtorEq,decide_true,decide_false, h6]
    · simp -dsimp only [↓RE,RU,RL,if_true,if_false,↓reduceIte,Nat.reduceEqDiff,reduceCtorEq,decide_true,decide_false, h7]
    · simp -dsimp only [↓RE,RU,RL,if_true,if_false,↓reduceIte,Nat.reduceEqDiff,reduceCtorEq,decide_true,decide_false, h5]
    · simp -dsimp only [↓RE,RU,RL,if_true,if_false,↓reduceIte,Nat.reduceEqDiff,reduceCtorEq,decide_true,decide_false, h0]
    · simp -dsimp only [↓RE,RU,RL,if_true,if_false,↓reduceIte,Nat.reduceEqDiff,reduceCtorEq,decide_true,decide_false, h0]
    · simp -dsimp only [↓RE,RU,RL,if_true,if_false,↓reduceIte,Nat.reduceEqDiff,reduceCtorEq,decide_true,decide_false, h0, Int.cast_ofNat_Int]
    · have := fr i hi
      exact ⟨fun q => by have := LW8 i q; omega, fun q => by have := LM8 i q; omega, fun q => by omega, fun q => by have := LS8 i q; omega⟩
    rintro e2 wl ⟨g5', g6', g7', g17, g58, g59, k, s, vs9, s9, c9', hk, g60, hOl, hRl, hsok, hsx, hvl9, hdis, hprl⟩
    try simp -dsimp only [↓RE,↓c_seq,RU,RL,if_true,if_false,forall_const,implies_true,Nat.reduceLeDiff,Nat.reduceLT,pureOp,binPure,intBin,strBin,eqPure,isConstO,unPure,sliceLo,sliceHi,slicePure,lenPure,minPure,maxPure,buildP,resK,endV,yieldE,↓reduceIte,Nat.reduceEqDiff,reduceCtorEq,Nat.reduceAdd,Nat.reduceMul,Nat.reduceSub,Int.reduceLT,Int.reduceLE,Int.reduceToNat,Int.reduceAdd,Int.reduceSub,Int.reduceMul,ne_eq,decide_true,decide_false,tf6, g5', g6', g7', g17, g58, g59, g60]
    refine ⟨fun hlt => ?_, fun hge => ?_⟩
    · obtain ⟨o, hget⟩ : ∃ o, ops[k]? = some o := ⟨ops[k]'(by omega), List.getElem?_eq_getElem (by omega)⟩
      have hmem : o ∈ ops := List.mem_of_getElem? hget
      have hg := hOl.gr
      have hsl := hg.size
      have htm := tot_mem hmem
      obtain ⟨hkn, ad, hAd, hc⟩ := (hA.grow hg).flat (cells4 ops) hget (by omega)
      subst hAd
      try simp -dsimp only [↓RE,↓c_seq,RU,RL,if_true,if_false,forall_const,implies_true,Nat.reduceLeDiff,Nat.reduceLT,pureOp,binPure,intBin,strBin,eqPure,isConstO,unPure,sliceLo,sliceHi,slicePure,lenPure,minPure,maxPure,buildP,resK,endV,yieldE,↓reduceIte,Nat.reduceEqDiff,reduceCtorEq,Nat.reduceAdd,Nat.reduceMul,Nat.reduceSub,Int.reduceLT,Int.reduceLE,Int.reduceToNat,Int.reduceAdd,Int.reduceSub,Int.reduceMul,ne_eq,decide_true,decide_false,tf6, g5', g6', g7', g17, g58, g59, g60]
      refine ⟨⟨by omega, by omega⟩, o.cells, rfl, hc, ?_⟩
      try simp -dsimp only [↓RE,↓c_seq,RU,RL,if_true,if_false,forall_const,implies_true,Nat.reduceLeDiff,Nat.reduceLT,pureOp,binPure,intBin,strBin,eqPure,isConstO,unPure,sliceLo,sliceHi,slicePure,lenPure,minPure,maxPure,buildP,resK,endV,yieldE,↓reduceIte,Nat.reduceEqDiff,reduceCtorEq,Nat.reduceAdd,Nat.reduceMul,Nat.reduceSub,Int.reduceLT,Int.reduceLE,Int.reduceToNat,Int.reduceAdd,Int.reduceSub,Int.reduceMul,ne_eq,decide_true,decide_false,tf6, g5', g6', g7', g17, g58, g59, g60]
      have hz0 := Blk.new' wl 36 #[.int .i64 0, .int .u64 0, .int .i64 0, .slice none 0 0]
      have ga := Grow.alloc wl (.cells #[.int .i64 0, .int .u64 0, .int .i64 0, .slice none 0 0] 36)
      refine ⟨rfl, hz0.stAgg (by simp [OpV.cells]) (by simp [OpV.cells, Value.oneCell']) (fun wa hBa hKa => ?_)⟩
      have hBa : Blk wa wl.heap.size 36 o.cells := by simpa [OpV.cells] using hBa
      have ga2 : Grow wl wa := ga.above hKa (fun i hi e => by omega)
      have hOa := hOl.grow ga2
      have hRa := hRl.grow ga2
      have hsa := ga2.size
      have hc0 : wa.cell? ⟨wl.heap.size, 0, none⟩ = some (.int .i64 o.k) := (hBa.cell 0).trans rfl
      have hc3 : wa.cell? ⟨wl.heap.size, 3, none⟩ = some (.slice o.A o.m o.c) := (hBa.cell 3).trans rfl
      try simp -dsimp only [↓RE,↓c_seq,RU,RL,if_true,if_false,forall_const,implies_true,Nat.reduceLeDiff,Nat.reduceLT,pureOp,binPure,intBin,strBin,eqPure,isConstO,unPure,sliceLo,sliceHi,slicePure,lenPure,minPure,maxPure,buildP,resK,endV,yieldE,↓reduceIte,Nat.reduceEqDiff,reduceCtorEq,Nat.reduceAdd,Nat.reduceMul,Nat.reduceSub,Int.reduceLT,Int.reduceLE,Int.reduceToNat,Int.reduceAdd,Int.reduceSub,Int.reduceMul,ne_eq,decide_true,decide_false,tf6, g5', g6', g7', g17, g58, g59, g60, hc0]
      refine ⟨fun h5k => ?_, fun h5k => ?_⟩
      · try simp -dsimp only [↓RE,↓c_seq,RU,RL,if_true,if_false,forall_const,implies_true,Nat.reduceLeDiff,Nat.reduceLT,pureOp,binPure,intBin,strBin,eqPure,isConstO,unPure,sliceLo,sliceHi,slicePure,lenPure,minPure,maxPure,buildP,resK,endV,yieldE,↓reduceIte,Nat.reduceEqDiff,reduceCtorEq,Nat.reduceAdd,Nat.reduceMul,Nat.reduceSub,Int.reduceLT,Int.reduceLE,Int.reduceToNat,Int.reduceAdd,Int.reduceSub,Int.reduceMul,ne_eq,decide_true,decide_false,tf6, g5', g6', g7', g17, g58, g59, g60, hc3]
        refine rawR_ok hRa hsok (by omega) (by omega) (fun wb Ab cb hRb ob fb kb => ?_)
        have hll := rLoad_len (m := (o.m : Int)) hsok
        have hlx := rLoad_xs (o.m : Int) s
        have hlp := hRl.lt pr hRl.at
        have hsb := kb.size
        have hOb := hOa.keep kb (fun i hi e => (hdis pr hpr).1 (by rw [← e]; exact hi)) (fun i hi e => (hdis pr hpr).2.1 (by rw [← e]; exact hi)) (fun e => (hdis pr hpr).2.2.1 e.symm) (fun i hi e => (hdis pr hpr).2.2.2 (by rw [← e]; exact hi)) (fun i hi e => hprl (by rw [← e]; exact hi)) (fun i hi e => by have := hO.gr.size; have := fr pr hpr; have := hO8.gr.size; omega)
        have LWb := hOa.W.lt
        have LMb := hOa.M.lt
        have LRb := hOa.B.row_lt
        rw [hsx] at hll
        try simp -dsimp only [↓RE,↓c_seq,RU,RL,if_true,if_false,forall_const,implies_true,Nat.reduceLeDiff,Nat.reduceLT,pureOp,binPure,intBin,strBin,eqPure,isConstO,unPure,sliceLo,sliceHi,slicePure,lenPure,minPure,maxPure,buildP,resK,endV,yieldE,↓reduceIte,Nat.reduceEqDiff,reduceCtorEq,Nat.reduceAdd,Nat.reduceMul,Nat.reduceSub,Int.reduceLT,Int.reduceLE,Int.reduceToNat,Int.reduceAdd,Int.reduceSub,Int.reduceMul,ne_eq,decide_true,decide_false,tf6, g5', g6', g7', g17, g58, g59, g60]
        refine hOb.take ob (fun i hi => ⟨by have := fb i hi; omega, fun q => by have := fb i hi; have := LRb i q; omega, fun q => by have := fb i hi; have := LWb i q; omega, fun q => by have := fb i hi; have := LMb i q; omega⟩) (by omega) (by omega) (fun wc s10 c10 hOc kc fc => ?_)
        have LFb := hRb.lt
        have hRc := hRb.keep kc (fun i hi q => q.elim (fun e => (hdis i hi).2.2.1 e) (fun q => (hdis i hi).2.2.2 q))
        try simp -dsimp only [↓RE,↓c_seq,RU,RL,if_true,if_false,forall_const,implies_true,Nat.reduceLeDiff,Nat.reduceLT,pureOp,binPure,intBin,strBin,eqPure,isConstO,unPure,sliceLo,sliceHi,slicePure,lenPure,minPure,maxPure,buildP,resK,endV,yieldE,↓reduceIte,Nat.reduceEqDiff,reduceCtorEq,Nat.reduceAdd,Nat.reduceMul,Nat.reduceSub,Int.reduceLT,Int.reduceLE,Int.reduceToNat,Int.reduceAdd,Int.reduceSub,Int.reduceMul,ne_eq,decide_true,decide_false,tf6, g5', g6', g7', g17, g58, g59, g60]
        refine hold_intro ⟨⟨?_, ?_, ?_, ?_, ?_, ?_, k + 1, _, _, s10, c10, by omega, ?_, hOc, hRc, hsok.load _, by rw [hlx]; exact hsx, by simp; omega, fun i hi => ?_, fun q => ?_⟩, ?_⟩
        · simp -dsimp only [↓RE,RU,RL,if_true,if_false,↓reduceIte,Nat.reduceEqDiff,reduceCtorEq,decide_true,decide_false, g5']
        · simp -dsimp only [↓RE,RU,RL,if_true,if_false,↓reduceIte,Nat.reduceEqDiff,reduceCtorEq,decide_true,decide_false, g6']
        · simp -dsimp only [↓RE,RU,RL,if_true,if_false,↓reduceIte,Nat.reduceEqDiff,reduceCtorEq,decide_true,decide_false, g7']
        · simp -dsimp only [↓RE,RU,RL,if_true,if_false,↓reduceIte,Nat.reduceEqDiff,reduceCtorEq,decide_true,decide_false, g17]
        · simp -dsimp only [↓RE,RU,RL,if_true,if_false,↓reduceIte,Nat.reduceEqDiff,reduceCtorEq,decide_true,decide_false, g58]
        · simp -dsimp only [↓RE,RU,RL,if_true,if_false,↓reduceIte,Nat.reduceEqDiff,reduceCtorEq,decide_true,decide_false, g59]
        · simp -dsimp only [↓RE,RU,RL,if_true,if_false,↓reduceIte,Nat.reduceEqDiff,reduceCtorEq,decide_true,decide_false, g60]
          rw [wrap_i64_in (by omega) (by omega)]; rfl
        · exact ⟨(hdis i hi).1, (hdis i hi).2.1, (hdis i hi).2.2.1, fun q => (fc i q).elim (hdis i hi).2.2.2 (fun q => by have := LFb i hi; omega)⟩
        · obtain ⟨u, hu, hq⟩ := q
          rcases List.mem_append.1 hu with hu | hu
          · exact hprl ⟨u, hu, hq⟩
          · rw [List.mem_singleton.1 hu] at hq; have := fb pr ((fpV_fpA _ _ _ _).1 hq); omega
        · simp -dsimp only [↓RE,RU,RL,if_true,if_false,↓reduceIte,Nat.reduceEqDiff,reduceCtorEq,decide_true,decide_false, g60]
          rw [wrap_i64_in (by omega) (by omega), envInt_int, envInt_int]; omega
      · try simp -dsimp only [↓RE,↓c_seq,RU,RL,if_true,if_false,forall_const,implies_true,Nat.reduceLeDiff,Nat.reduceLT,pureOp,binPure,intBin,strBin,eqPure,isConstO,unPure,sliceLo,sliceHi,slicePure,lenPure,minPure,maxPure,buildP,resK,endV,yieldE,↓reduceIte,Nat.reduceEqDiff,reduceCtorEq,Nat.reduceAdd,Nat.reduceMul,Nat.reduceSub,Int.reduceLT,Int.reduceLE,Int.reduceToNat,Int.reduceAdd,Int.reduceSub,Int.reduceMul,ne_eq,decide_true,decide_false,tf6, g5', g6', g7', g17, g58, g59, g60]
        refine hold_intro ⟨⟨?_, ?_, ?_, ?_, ?_, ?_, k + 1, s, vs9, s9, c9', by omega, ?_, hOa, hRa, hsok, hsx, by omega, hdis, hprl⟩, ?_⟩
        · simp -dsimp only [↓RE,RU,RL,if_true,if_false,↓reduceIte,Nat.reduceEqDiff,reduceCtorEq,decide_true,decide_false, g5']
        · simp -dsimp only [↓RE,RU,RL,if_true,if_false,↓reduceIte,Nat.reduceEqDiff,reduceCtorEq,decide_true,decide_false, g6']
        · simp -dsimp only [↓RE,RU,RL,if_true,if_false,↓reduceIte,Nat.reduceEqDiff,reduceCtorEq,decide_true,decide_false, g7']
        · simp -dsimp only [↓RE,RU,RL,if_true,if_false,↓reduceIte,Nat.reduceEqDiff,reduceCtorEq,decide_true,decide_false, g17]
        · simp -dsimp only [↓RE,RU,RL,if_true,if_false,↓reduceIte,Nat.reduceEqDiff,reduceCtorEq,decide_true,decide_false, g58]
        · simp -dsimp only [↓RE,RU,RL,if_true,if_false,↓reduceIte,Nat.reduceEqDiff,reduceCtorEq,decide_true,decide_false, g59]
        · simp -dsimp only [↓RE,RU,RL,if_true,if_false,↓reduceIte,Nat.reduceEqDiff,reduceCtorEq,decide_true,decide_false, g60]
          rw [wrap_i64_in (by omega) (by omega)]; rfl
        · simp -dsimp only [↓RE,RU,RL,if_true,if_false,↓reduceIte,Nat.reduceEqDiff,reduceCtorEq,decide_true,decide_false, g60]
          rw [wrap_i64_in (by omega) (by omega), envInt_int, envInt_int]; omega
    · try simp -dsimp only [↓RE,↓c_seq,RU,RL,if_true,if_false,forall_const,implies_true,Nat.reduceLeDiff,Nat.reduceLT,pureOp,binPure,intBin,strBin,eqPure,isConstO,unPure,sliceLo,sliceHi,slicePure,lenPure,minPure,maxPure,buildP,resK,endV,yieldE,↓reduceIte,Nat.reduceEqDiff,reduceCtorEq,Nat.reduceAdd,Nat.reduceMul,Nat.reduceSub,Int.reduceLT,Int.reduceLE,Int.reduceToNat,Int.reduceAdd,Int.reduceSub,Int.reduceMul,ne_eq,decide_true,decide_false,tf6, g5', g6', g7', g17, g58, g59, g60]
      refine hold_intro ⟨?_, ?_, ?_, vs9, s9, c9', hOl, by omega⟩
      · simp -dsimp only [↓RE,RU,RL,if_true,if_false,↓reduceIte,Nat.reduceEqDiff,reduceCtorEq,decide_true,decide_false, g5']
      · simp -dsimp only [↓RE,RU,RL,if_true,if_false,↓reduceIte,Nat.reduceEqDiff,reduceCtorEq,decide_true,decide_false, g6']
      · simp -dsimp only [↓RE,RU,RL,if_true,if_false,↓reduceIte,Nat.reduceEqDiff,reduceCtorEq,decide_true,decide_false, g7']
  rintro e3 w11 ⟨h5, h6, h7, vs, s0, c0, hO, hvl⟩
  have q1 := hO.B.off hO.W (by decide) (by decide)
  have q2 := hO.B.off hO.M (by decide) (by decide)
  have hM := hO.M
  have hrr := hO.r
  obtain ⟨sv, hBm, hOm, hGe⟩ := hO.M
  obtain ⟨Am, cm, rfl, _⟩ := own_form hOm
  have hGq : G w1.heap.size := by rw [hGe]; exact .inl rfl
  try simp -dsimp only [↓RE,↓c_seq,RU,RL,if_true,if_false,forall_const,implies_true,Nat.reduceLeDiff,Nat.reduceLT,pureOp,binPure,intBin,strBin,eqPure,isConstO,unPure,sliceLo,sliceHi,slicePure,lenPure,minPure,maxPure,buildP,resK,endV,yieldE,↓reduceIte,Nat.reduceEqDiff,reduceCtorEq,Nat.reduceAdd,Nat.reduceMul,Nat.reduceSub,Int.reduceLT,Int.reduceLE,Int.reduceToNat,Int.reduceAdd,Int.reduceSub,Int.reduceMul,ne_eq,decide_true,decide_false,tf6, h5, h6, h7]
  refine wpDraw_by (fun wq => wq.cell? ⟨w1.heap.size, 0, none⟩ = some (.slice Am zs.length cm)) [(0, false), (1, true), (2, false), (3, true), (4, true), (5, true), (7, true), (8, true), (9, true), (10, true), (6, false), (11, false), (12, true), (13, true)] (by kernel_rfl) ((hBm.grow (Grow.drew w11)).cell 0) ?_
  simp only [planL, List.getElem?_toArray, List.getElem?_cons_zero, List.getElem?_cons_succ, Option.toList_some, List.map_cons, List.map_nil, List.cons_append, List.nil_append]
  try simp -dsimp only [↓RE,↓c_seq,RU,RL,if_true,if_false,forall_const,implies_true,Nat.reduceLeDiff,Nat.reduceLT,pureOp,binPure,intBin,strBin,eqPure,isConstO,unPure,sliceLo,sliceHi,slicePure,lenPure,minPure,maxPure,buildP,resK,endV,yieldE,↓reduceIte,Nat.reduceEqDiff,reduceCtorEq,Nat.reduceAdd,Nat.reduceMul,Nat.reduceSub,Int.reduceLT,Int.reduceLE,Int.reduceToNat,Int.reduceAdd,Int.reduceSub,Int.reduceMul,ne_eq,decide_true,decide_false,tf6, h5, h6, h7]
  refine live_ok (fun w12 g12 => ?_)
  have g12 := (Grow.drew w11).trans g12
  have hO12 := hO.grow g12
  try simp -dsimp only [↓RE,↓c_seq,RU,RL,if_true,if_false,forall_const,implies_true,Nat.reduceLeDiff,Nat.reduceLT,pureOp,binPure,intBin,strBin,eqPure,isConstO,unPure,sliceLo,sliceHi,slicePure,lenPure,minPure,maxPure,buildP,resK,endV,yieldE,↓reduceIte,Nat.reduceEqDiff,reduceCtorEq,Nat.reduceAdd,Nat.reduceMul,Nat.reduceSub,Int.reduceLT,Int.reduceLE,Int.reduceToNat,Int.reduceAdd,Int.reduceSub,Int.reduceMul,ne_eq,decide_true,decide_false,tf6, h5, h6, h7]
  refine ⟨(hBm.grow g12).cell 0, ?_⟩
  try simp -dsimp only [↓RE,↓c_seq,RU,RL,if_true,if_false,forall_const,implies_true,Nat.reduceLeDiff,Nat.reduceLT,pureOp,binPure,intBin,strBin,eqPure,isConstO,unPure,sliceLo,sliceHi,slicePure,lenPure,minPure,maxPure,buildP,resK,endV,yieldE,↓reduceIte,Nat.reduceEqDiff,reduceCtorEq,Nat.reduceAdd,Nat.reduceMul,Nat.reduceSub,Int.reduceLT,Int.reduceLE,Int.reduceToNat,Int.reduceAdd,Int.reduceSub,Int.reduceMul,ne_eq,decide_true,decide_false,tf6, h5, h6, h7]
  refine aloneB_ok hO12.B (by omega) (fun w13 k13 => ?_)
  have W13 := hO12.W.keep k13 (fun i hi q => q.elim (fun q => (hrr i q).1 hi) (fun e => q1.1 (by rw [← e]; exact hi)))
  have hq13 : ¬ (fpL vs w1.heap.size ∨ w1.heap.size = w2.heap.size) := fun q => q.elim (fun q => (hrr _ q).2 hGq) (fun e => q2.1 (by rw [← e]; exact hGq))
  have B13 := (hBm.grow g12).keep k13 hq13
  have O13 := own_keep (own_grow hOm g12) k13 (fun i hi q => q.elim (fun q => (hrr i q).2 (by rw [hGe]; exact .inr hi)) (fun e => q2.1 (by rw [← e, hGe]; exact .inr hi)))
  have gg : Grow w w13 := hO12.gr.above k13 (fun i hi q => q.elim (fun q => by have := hO12.B.fl i q; omega) (fun e => by omega))
  try simp -dsimp only [↓RE,↓c_seq,RU,RL,if_true,if_false,forall_const,implies_true,Nat.reduceLeDiff,Nat.reduceLT,pureOp,binPure,intBin,strBin,eqPure,isConstO,unPure,sliceLo,sliceHi,slicePure,lenPure,minPure,maxPure,buildP,resK,endV,yieldE,↓reduceIte,Nat.reduceEqDiff,reduceCtorEq,Nat.reduceAdd,Nat.reduceMul,Nat.reduceSub,Int.reduceLT,Int.reduceLE,Int.reduceToNat,Int.reduceAdd,Int.reduceSub,Int.reduceMul,ne_eq,decide_true,decide_false,tf6, h5, h6, h7]
  refine ⟨B13.cell 0, ?_⟩
  try simp -dsimp only [↓RE,↓c_seq,RU,RL,if_true,if_false,forall_const,implies_true,Nat.reduceLeDiff,Nat.reduceLT,pureOp,binPure,intBin,strBin,eqPure,isConstO,unPure,sliceLo,sliceHi,slicePure,lenPure,minPure,maxPure,buildP,resK,endV,yieldE,↓reduceIte,Nat.reduceEqDiff,reduceCtorEq,Nat.reduceAdd,Nat.reduceMul,Nat.reduceSub,Int.reduceLT,Int.reduceLE,Int.reduceToNat,Int.reduceAdd,Int.reduceSub,Int.reduceMul,ne_eq,decide_true,decide_false,tf6, h5, h6, h7]
  refine ⟨_, fun wq hS => hS, ?_⟩
  try simp -dsimp only [↓RE,↓c_seq,RU,RL,if_true,if_false,forall_const,implies_true,Nat.reduceLeDiff,Nat.reduceLT,pureOp,binPure,intBin,strBin,eqPure,isConstO,unPure,sliceLo,sliceHi,slicePure,lenPure,minPure,maxPure,buildP,resK,endV,yieldE,↓reduceIte,Nat.reduceEqDiff,reduceCtorEq,Nat.reduceAdd,Nat.reduceMul,Nat.reduceSub,Int.reduceLT,Int.reduceLE,Int.reduceToNat,Int.reduceAdd,Int.reduceSub,Int.reduceMul,ne_eq,decide_true,decide_false,tf6, h5, h6, h7]
  refine bytes_ok W13 (by omega) (fun w14 A14 c14 o14 g14 _ => ?_)
  try simp -dsimp only [↓RE,↓c_seq,RU,RL,if_true,if_false,forall_const,implies_true,Nat.reduceLeDiff,Nat.reduceLT,pureOp,binPure,intBin,strBin,eqPure,isConstO,unPure,sliceLo,sliceHi,slicePure,lenPure,minPure,maxPure,buildP,resK,endV,yieldE,↓reduceIte,Nat.reduceEqDiff,reduceCtorEq,Nat.reduceAdd,Nat.reduceMul,Nat.reduceSub,Int.reduceLT,Int.reduceLE,Int.reduceToNat,Int.reduceAdd,Int.reduceSub,Int.reduceMul,ne_eq,decide_true,decide_false,tf6, h5, h6, h7]
  refine ⟨(B13.grow g14).cell 0, ?_⟩
  refine same_ok (Rd.of_own o14) (Rd.of_own (own_grow O13 g14)) (by omega) (by omega) (fun w15 g15 => ?_)
  try simp -dsimp only [↓RE,↓c_seq,RU,RL,if_true,if_false,forall_const,implies_true,Nat.reduceLeDiff,Nat.reduceLT,pureOp,binPure,intBin,strBin,eqPure,isConstO,unPure,sliceLo,sliceHi,slicePure,lenPure,minPure,maxPure,buildP,resK,endV,yieldE,↓reduceIte,Nat.reduceEqDiff,reduceCtorEq,Nat.reduceAdd,Nat.reduceMul,Nat.reduceSub,Int.reduceLT,Int.reduceLE,Int.reduceToNat,Int.reduceAdd,Int.reduceSub,Int.reduceMul,ne_eq,decide_true,decide_false,tf6, h5, h6, h7, eq_self]
  refine ⟨((B13.grow g14).grow g15).cell 0, ?_⟩
  try simp -dsimp only [↓RE,↓c_seq,RU,RL,if_true,if_false,forall_const,implies_true,Nat.reduceLeDiff,Nat.reduceLT,pureOp,binPure,intBin,strBin,eqPure,isConstO,unPure,sliceLo,sliceHi,slicePure,lenPure,minPure,maxPure,buildP,resK,endV,yieldE,↓reduceIte,Nat.reduceEqDiff,reduceCtorEq,Nat.reduceAdd,Nat.reduceMul,Nat.reduceSub,Int.reduceLT,Int.reduceLE,Int.reduceToNat,Int.reduceAdd,Int.reduceSub,Int.reduceMul,ne_eq,decide_true,decide_false,tf6, h5, h6, h7]
  exact h w15 ((gg.trans g14).trans g15)

end Go.Proofs.Ytcjlhfmjcioeeaa
