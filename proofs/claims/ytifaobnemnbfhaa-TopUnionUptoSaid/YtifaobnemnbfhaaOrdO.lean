/- batch.own, batch.Order: each write with tags of its own. -/
import Derived.Test.YtifaobnemnbfhaaOrdW
set_option linter.unusedVariables false
set_option linter.unusedSimpArgs false
set_option maxRecDepth 100000
namespace Go.Proofs.Ytifaobnemnbfhaa
open Go

/-- a write with another row for its tags. -/
def WrV.at_ (x : WrV) (A : Option Addr) (c : Nat) : WrV := ⟨⟨x.s.s, A, x.s.n, c⟩, x.x⟩
abbrev TRow (w : World) (x : WrV) : Prop := LRow w 83 2 (.slice x.s.A x.s.n x.s.c) x.s.n (x.s.s.tags.flatMap tcells)
/-- no two have tags in one place. -/
abbrev ApartW (D : List WrV) : Prop := D.Pairwise (fun a b => ∀ q, fpA a.s.A q → ¬ fpA b.s.A q)
theorem TRow.keep {F : Nat → Prop} {w w' : World} {x : WrV} (h : TRow w x) (k : Keep F w w') (hF : ∀ q, fpA x.s.A q → ¬ F q) : TRow w' x := LRow.keep h k (fun q hq => hF q ((fpV_fpA _ _ _ _).1 hq))
set_option maxHeartbeats 1000000 in
theorem own_ok {w : World} {A : Option Addr} {n c : Nat} {L : List WrV} (h : LRow w 37 6 (.slice A n c) n (L.flatMap WrV.cells)) (ho : ∀ x ∈ L, x.Ok w) (hap : ∀ x ∈ L, 0 < x.s.n → ∀ q, fpA x.s.A q → ¬ fpA A q) (hn : n ≤ 1000000000000) {R : VWK}
    (hR : ∀ w' D, D.map WrV.wr = L.map WrV.wr → LRow w' 37 6 (.slice A n c) n (D.flatMap WrV.cells) → (∀ x ∈ D, x.Ok w' ∧ TRow w' x) → (∀ x ∈ D, ∀ q, fpA x.s.A q → w.heap.size ≤ q) → ApartW D → Keep (fun q => fpA A q) w w' → R (.slice A n c) w') :
    CallsV Try.prog 28 [.slice A n c] w R := by
  have hl : L.length = n := by
    have h1 := h.1
    rw [flat_len WrV.cells (size := 6) L (fun _ _ => rfl)] at h1
    omega
  have hAlt : ∀ q, fpA A q → q < w.heap.size := fun q hq => h.lt q ((fpV_fpA _ _ _ _).2 hq)
  refine calls_of_wpC mixed Try.func28 rfl (by kernel_rfl) ?_
  intro e he
  have he0 := he 0
  simp only [List.getD_cons_zero, List.getD_cons_succ] at he0
  clear he
  repeat (first | rw [c_seq] | simp -dsimp only [↓RE,RU,RL,if_true,if_false,forall_const,implies_true,Nat.reduceLeDiff,Nat.reduceLT,pureOp,binPure,intBin,strBin,eqPure,isConstO,unPure,sliceLo,sliceHi,slicePure,slice3Pure,lenPure,capPure,minPure,maxPure,buildP,resK,endV,yieldE,↓reduceIte,Nat.reduceEqDiff,reduceCtorEq,Nat.reduceAdd,Nat.reduceMul,Nat.reduceSub,Int.reduceLT,Int.reduceLE,Int.reduceToNat,Int.reduceAdd,Int.reduceSub,Int.reduceMul,ne_eq,decide_true,decide_false,tf28, he0])
  refine wpLoop_intro (fun e' w' => (e' 0 = .slice A n c ∧ e' 5 = .int .i64 (n : Int)) ∧ Keep (fun q => fpA A q) w w' ∧ ∃ (k : Nat) (D : List WrV), k ≤ n ∧ e' 6 = .int .i64 (k : Int) ∧ D.length = k ∧ D.map WrV.wr = (L.take k).map WrV.wr ∧ LRow w' 37 6 (.slice A n c) n ((D ++ L.drop k).flatMap WrV.cells) ∧ (∀ x ∈ D, x.Ok w' ∧ TRow w' x) ∧ (∀ x ∈ D, ∀ q, fpA x.s.A q → w.heap.size ≤ q ∧ q < w'.heap.size) ∧ ApartW D)
    (fun e' _ => n - (envInt (e' 6)).toNat) ⟨⟨?_, ?_⟩, Keep.refl _ _, 0, [], Nat.zero_le _, ?_, rfl, rfl, by simpa using h, fun x hx => (by cases hx), fun x hx => (by cases hx), List.Pairwise.nil⟩ ?_
  · simp -dsimp only [↓RE,RU,RL,if_true,if_false,↓reduceIte,Nat.reduceEqDiff,reduceCtorEq,decide_true,decide_false, he0]
  · simp -dsimp only [↓RE,RU,RL,if_true,if_false,↓reduceIte,Nat.reduceEqDiff,reduceCtorEq,decide_true,decide_false, he0]
  · simp -dsimp only [↓RE,RU,RL,if_true,if_false,↓reduceIte,Nat.reduceEqDiff,reduceCtorEq,decide_true,decide_false, Int.cast_ofNat_Int]
  clear he0 e
  rintro e wz ⟨⟨he0, he5⟩, kz, k, D, hk, he6, hDl, hD, hrow, hT, hF, hP⟩
  rcases Nat.lt_or_ge k n with hlt | hge
  · have hd : decide ((k : Int) < (n : Int)) = true := decide_eq_true (by omega)
    have hmu : (envInt (e 6)).toNat = k := by rw [he6]; exact Int.toNat_natCast k
    have v1 : IntKind.i64.wrap ((k : Int) + 1) = ((k + 1 : Nat) : Int) := by rw [wrap_i64_in (by omega) (by omega)]; omega
    obtain ⟨x, hx⟩ : ∃ x, x = L[k]'(by omega) := ⟨_, rfl⟩
    have hxm : x ∈ L := hx ▸ List.getElem_mem _
    have eD : L.drop k = x :: L.drop (k + 1) := by rw [List.drop_eq_getElem_cons (by omega), ← hx]
    have eT : L.take (k + 1) = L.take k ++ [x] := by rw [List.take_succ_eq_append_getElem (by omega), ← hx]
    have hxk : (D ++ L.drop k)[k]? = some x := by rw [eD, List.getElem?_append_right (by omega), hDl]; simp
    have hxo : x.Ok wz := (ho x hxm).keep0 kz (hap x hxm)
    have hll : (D ++ L.drop k).length = n := by rw [List.length_append, List.length_drop]; omega
    obtain ⟨ad, rfl⟩ : ∃ ad, A = some ad := by
      obtain ⟨ad, e, _⟩ := hrow.rd.2 (by omega)
      exact ⟨ad, e⟩
    have hc1 : wz.cell? ((ad.add (k * 6)).add 1) = some (.slice x.s.A x.s.n x.s.c) := by
      obtain ⟨_, ad', hA, hcc⟩ := hrow.rd.flat (size := 6) (fun a _ => wcells_len a) hxk (by omega)
      injection hA with hA
      subst hA
      exact hcc 1 _ rfl
    repeat (first | rw [c_seq] | simp -dsimp only [↓RE,RU,RL,if_true,if_false,forall_const,implies_true,Nat.reduceLeDiff,Nat.reduceLT,pureOp,binPure,intBin,strBin,eqPure,isConstO,unPure,sliceLo,sliceHi,slicePure,slice3Pure,lenPure,capPure,minPure,maxPure,buildP,resK,endV,yieldE,↓reduceIte,Nat.reduceEqDiff,reduceCtorEq,Nat.reduceAdd,Nat.reduceMul,Nat.reduceSub,Int.reduceLT,Int.reduceLE,Int.reduceToNat,Int.reduceAdd,Int.reduceSub,Int.reduceMul,ne_eq,decide_true,decide_false,tf28, he0, he5, he6, hd, hc1, add_zero', Int.toNat_natCast])
    refine ⟨⟨by omega, by omega⟩, ?_⟩
    repeat (first | rw [c_seq] | simp -dsimp only [↓RE,RU,RL,if_true,if_false,forall_const,implies_true,Nat.reduceLeDiff,Nat.reduceLT,pureOp,binPure,intBin,strBin,eqPure,isConstO,unPure,sliceLo,sliceHi,slicePure,slice3Pure,lenPure,capPure,minPure,maxPure,buildP,resK,endV,yieldE,↓reduceIte,Nat.reduceEqDiff,reduceCtorEq,Nat.reduceAdd,Nat.reduceMul,Nat.reduceSub,Int.reduceLT,Int.reduceLE,Int.reduceToNat,Int.reduceAdd,Int.reduceSub,Int.reduceMul,ne_eq,decide_true,decide_false,tf28, hc1, add_zero'])
    refine cloneT_ok hxo.1.1 (tcells_one _) hxo.1.2 (fun w5 A5 c5 hL5 g5 hF5 _ => ?_)
    repeat (first | rw [c_seq] | simp -dsimp only [↓RE,RU,RL,if_true,if_false,forall_const,implies_true,Nat.reduceLeDiff,Nat.reduceLT,pureOp,binPure,intBin,strBin,eqPure,isConstO,unPure,sliceLo,sliceHi,slicePure,slice3Pure,lenPure,capPure,minPure,maxPure,buildP,resK,endV,yieldE,↓reduceIte,Nat.reduceEqDiff,reduceCtorEq,Nat.reduceAdd,Nat.reduceMul,Nat.reduceSub,Int.reduceLT,Int.reduceLE,Int.reduceToNat,Int.reduceAdd,Int.reduceSub,Int.reduceMul,ne_eq,decide_true,decide_false,tf28, he0, he6, add_zero', Int.toNat_natCast])
    refine ⟨⟨by omega, by omega⟩, LRow.stCell wcells_len (hrow.grow g5) hll hlt hxk (o := 1) (by omega) (u := .slice A5 x.s.n c5) (x' := x.at_ A5 c5) rfl (fun w6 hr6 k6 => ?_)⟩
    have kad : Keep (fun q => fpA (some ad) q) w5 w6 := k6.mono (fun q _ e => ⟨ad, rfl, e⟩)
    have k6' : Keep (fun q => fpA (some ad) q) w w6 := (kz.then_grow g5).trans kad (fun _ _ q => q) (fun _ _ q => q)
    have hset : (D ++ L.drop k).set k (x.at_ A5 c5) = (D ++ [x.at_ A5 c5]) ++ L.drop (k + 1) := by
      rw [eD, List.set_append_right _ _ (by omega), hDl, Nat.sub_self, List.set_cons_zero]; simp
    rw [hset] at hr6
    have hsz := kz.size
    have hs5 := g5.size
    have hs6 := k6.size
    have hadlt := hAlt ad.block ⟨ad, rfl, rfl⟩
    have hA5 : ∀ q, fpA A5 q → ¬ q = ad.block := fun q hq e => by have := hF5 q hq; omega
    have hnew : TRow w6 (x.at_ A5 c5) := LRow.keep hL5 k6 (fun q hq e => hA5 q ((fpV_fpA _ _ _ _).1 hq) e)
    have hlt5 : ∀ q, fpA A5 q → q < w5.heap.size := fun q hq => hL5.lt q ((fpV_fpA _ _ _ _).2 hq)
    repeat (first | rw [c_seq] | simp -dsimp only [↓RE,RU,RL,if_true,if_false,forall_const,implies_true,Nat.reduceLeDiff,Nat.reduceLT,pureOp,binPure,intBin,strBin,eqPure,isConstO,unPure,sliceLo,sliceHi,slicePure,slice3Pure,lenPure,capPure,minPure,maxPure,buildP,resK,endV,yieldE,↓reduceIte,Nat.reduceEqDiff,reduceCtorEq,Nat.reduceAdd,Nat.reduceMul,Nat.reduceSub,Int.reduceLT,Int.reduceLE,Int.reduceToNat,Int.reduceAdd,Int.reduceSub,Int.reduceMul,ne_eq,decide_true,decide_false,tf28, he6, v1])
    refine hold_intro ⟨⟨⟨?_, ?_⟩, k6', k + 1, D ++ [x.at_ A5 c5], hlt, ?_, ?_, ?_, hr6, fun z hz => ?_, fun z hz q hq => ?_, ?_⟩, ?_⟩
    · simp -dsimp only [↓RE,RU,RL,if_true,if_false,↓reduceIte,Nat.reduceEqDiff,reduceCtorEq,decide_true,decide_false, he0]
    · simp -dsimp only [↓RE,RU,RL,if_true,if_false,↓reduceIte,Nat.reduceEqDiff,reduceCtorEq,decide_true,decide_false, he5]
    · simp -dsimp only [↓RE,RU,RL,if_true,if_false,↓reduceIte,Nat.reduceEqDiff,reduceCtorEq,decide_true,decide_false, he6, v1]
    · rw [List.length_append, hDl]; rfl
    · rw [List.map_append, hD, eT, List.map_append]; rfl
    · rcases List.mem_append.1 hz with hz | hz
      · have hap' : ∀ q, fpA z.s.A q → ¬ q = ad.block := fun q hq e => by have := (hF z hz q hq).1; omega
        exact ⟨((hT z hz).1.grow g5).keep0 k6 (fun _ => hap'), TRow.keep (LRow.grow (hT z hz).2 g5) k6 hap'⟩
      · rw [List.mem_singleton.1 hz]
        exact ⟨⟨⟨hnew.rd, hxo.1.2⟩, hxo.2⟩, hnew⟩
    · rcases List.mem_append.1 hz with hz | hz
      · have := hF z hz q hq; omega
      · rw [List.mem_singleton.1 hz] at hq
        have h1 := hF5 q hq
        have h2 := hlt5 q hq
        omega
    · refine List.pairwise_append.2 ⟨hP, List.pairwise_singleton _ _, fun a ha b hb q hq hq2 => ?_⟩
      rw [List.mem_singleton.1 hb] at hq2
      have h1 := hF5 q hq2
      have h2 := (hF a ha q hq).2
      omega
    · rw [hmu]
      simp -dsimp only [↓RE,↓c_seq,RU,RL,if_true,if_false,forall_const,implies_true,Nat.reduceLeDiff,Nat.reduceLT,pureOp,binPure,intBin,strBin,eqPure,isConstO,unPure,sliceLo,sliceHi,slicePure,slice3Pure,lenPure,capPure,minPure,maxPure,buildP,resK,endV,yieldE,↓reduceIte,Nat.reduceEqDiff,reduceCtorEq,Nat.reduceAdd,Nat.reduceMul,Nat.reduceSub,Int.reduceLT,Int.reduceLE,Int.reduceToNat,Int.reduceAdd,Int.reduceSub,Int.reduceMul,ne_eq,decide_true,decide_false,tf28, he6, v1, envInt, Int.toNat_natCast]
      omega
  · have hd : decide ((k : Int) < (n : Int)) = false := decide_eq_false (by omega)
    rw [List.take_of_length_le (by omega)] at hD
    rw [List.drop_eq_nil_of_le (by omega), List.append_nil] at hrow
    repeat (first | rw [c_seq] | simp -dsimp only [↓RE,RU,RL,if_true,if_false,forall_const,implies_true,Nat.reduceLeDiff,Nat.reduceLT,pureOp,binPure,intBin,strBin,eqPure,isConstO,unPure,sliceLo,sliceHi,slicePure,slice3Pure,lenPure,capPure,minPure,maxPure,buildP,resK,endV,yieldE,↓reduceIte,Nat.reduceEqDiff,reduceCtorEq,Nat.reduceAdd,Nat.reduceMul,Nat.reduceSub,Int.reduceLT,Int.reduceLE,Int.reduceToNat,Int.reduceAdd,Int.reduceSub,Int.reduceMul,ne_eq,decide_true,decide_false,tf28, he0, he5, he6, hd])
    exact hR wz D hD hrow hT (fun x hx q hq => (hF x hx q hq).1) hP kz

/-- writes that were put in order: in memory of their own. -/
structure OrdR (w0 w : World) (v : Value) (D : List WrV) (l : List Wr) : Prop where
  eq : D.map WrV.wr = l
  row : LRow w 37 6 v D.length (D.flatMap WrV.cells)
  ok : ∀ x ∈ D, x.Ok w ∧ TRow w x
  fresh : ∀ q, fpV v q → w0.heap.size ≤ q
  tfresh : ∀ x ∈ D, ∀ q, fpA x.s.A q → w0.heap.size ≤ q
  apart : ApartW D
theorem OrdR.grow {w0 w w' : World} {v : Value} {D : List WrV} {l : List Wr} (h : OrdR w0 w v D l) (g : Grow w w') : OrdR w0 w' v D l :=
  ⟨h.eq, h.row.grow g, fun x hx => ⟨(h.ok x hx).1.grow g, LRow.grow (h.ok x hx).2 g⟩, h.fresh, h.tfresh, h.apart⟩
/-- in order: of each series and time the last one. -/
def wOrd (l : List Wr) : List Wr := gLoad cmpW [] l
theorem wOrd_map (L : List WrV) : (gLoad cmpV [] L).map WrV.wr = wOrd (L.map WrV.wr) := gLoad_map WrV.wr (fun x y => rfl) L []
theorem wOrd_len (l : List Wr) : (wOrd l).length ≤ l.length := by have := gLoad_len (cf := cmpW) l []; rw [List.length_nil, Nat.zero_add] at this; exact this
theorem order_ok {w : World} {A : Option Addr} {n c : Nat} {L : List WrV} (h : Rd w A n 6 (L.flatMap WrV.cells)) (ho : ∀ x ∈ L, x.Ok w) (hn : n ≤ 100000000000) {R : VWK}
    (hR : ∀ w' v D, OrdR w w' v D (wOrd (L.map WrV.wr)) → Grow w w' → R v w') : CallsV Try.prog 17 [.slice A n c] w R := by
  have hl := h.wlen
  have hgl := gLoad_len (cf := cmpV) L []
  rw [List.length_nil, Nat.zero_add] at hgl
  refine calls_of_wpC mixed Try.func17 rfl (by kernel_rfl) ?_
  intro e he
  have he0 := he 0
  simp only [List.getD_cons_zero, List.getD_cons_succ] at he0
  clear he
  repeat (first | rw [c_seq] | simp -dsimp only [↓RE,RU,RL,if_true,if_false,forall_const,implies_true,Nat.reduceLeDiff,Nat.reduceLT,pureOp,binPure,intBin,strBin,eqPure,isConstO,unPure,sliceLo,sliceHi,slicePure,slice3Pure,lenPure,capPure,minPure,maxPure,buildP,resK,endV,yieldE,↓reduceIte,Nat.reduceEqDiff,reduceCtorEq,Nat.reduceAdd,Nat.reduceMul,Nat.reduceSub,Int.reduceLT,Int.reduceLE,Int.reduceToNat,Int.reduceAdd,Int.reduceSub,Int.reduceMul,ne_eq,decide_true,decide_false,tf17, he0])
  refine sorted_ok cmpF_compare cmpV_cmp h ho hn (fun w1 v hv g1 hF => ?_)
  obtain ⟨A1, c1, rfl, _, _⟩ := hv.form
  have hmem : ∀ x ∈ gLoad cmpV [] L, x ∈ L := fun x hx => by
    rcases gLoad_mem hx with h | h
    · exact h
    · cases h
  repeat (first | rw [c_seq] | simp -dsimp only [↓RE,RU,RL,if_true,if_false,forall_const,implies_true,Nat.reduceLeDiff,Nat.reduceLT,pureOp,binPure,intBin,strBin,eqPure,isConstO,unPure,sliceLo,sliceHi,slicePure,slice3Pure,lenPure,capPure,minPure,maxPure,buildP,resK,endV,yieldE,↓reduceIte,Nat.reduceEqDiff,reduceCtorEq,Nat.reduceAdd,Nat.reduceMul,Nat.reduceSub,Int.reduceLT,Int.reduceLE,Int.reduceToNat,Int.reduceAdd,Int.reduceSub,Int.reduceMul,ne_eq,decide_true,decide_false,tf17, he0])
  refine own_ok hv (fun x hx => (ho x (hmem x hx)).grow g1) (fun x hx h0 q hq e => ?_) (by omega) (fun w2 D hD hrow hT hF2 hP k2 => ?_)
  · have h1 := (ho x (hmem x hx)).lt h0 q hq
    have h2 := hF q ((fpV_fpA _ _ _ _).2 e)
    omega
  have hDl : D.length = (gLoad cmpV [] L).length := by have := congrArg List.length hD; simpa using this
  have hs1 := g1.size
  repeat (first | rw [c_seq] | simp -dsimp only [↓RE,RU,RL,if_true,if_false,forall_const,implies_true,Nat.reduceLeDiff,Nat.reduceLT,pureOp,binPure,intBin,strBin,eqPure,isConstO,unPure,sliceLo,sliceHi,slicePure,slice3Pure,lenPure,capPure,minPure,maxPure,buildP,resK,endV,yieldE,↓reduceIte,Nat.reduceEqDiff,reduceCtorEq,Nat.reduceAdd,Nat.reduceMul,Nat.reduceSub,Int.reduceLT,Int.reduceLE,Int.reduceToNat,Int.reduceAdd,Int.reduceSub,Int.reduceMul,ne_eq,decide_true,decide_false,tf17, he0])
  refine hR w2 _ D ⟨by rw [hD, wOrd_map], by rw [hDl]; exact hrow, hT, hF, fun x hx q hq => by have := hF2 x hx q hq; omega, hP⟩ (g1.above k2 (fun q hq e => by have := hF q ((fpV_fpA _ _ _ _).2 e); omega))

end Go.Proofs.Ytifaobnemnbfhaa
