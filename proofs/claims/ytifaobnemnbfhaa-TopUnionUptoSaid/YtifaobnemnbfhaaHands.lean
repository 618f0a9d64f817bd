/- weirmem.SameSamples, HandSamples, KeptSamples. -/
/- weirmem.SameDeltas, of like lists. -/
import Derived.Test.YtifaobnemnbfhaaSmpSpec
import Derived.Test.YtifaobnemnbfhaaTab
import Derived.Test.YtifaobnemnbfhaaSerSpec
import Derived.Test.YtifaobnemnbfhaaSer
import Derived.Laws.MakeOwn
import Derived.Laws.OwnMore
set_option linter.unusedVariables false
set_option linter.unusedSimpArgs false
set_option maxRecDepth 100000
namespace Go.Proofs.Ytifaobnemnbfhaa
open Go

theorem madeCells_smp (n : Nat) : madeCells #[.int .i64 0, .int .u8 0, .int .i64 0] (n * 3) = ((List.replicate n ((0, 0, 0) : Smp)).flatMap scells).toArray := by
  apply Array.ext'
  apply List.ext_getElem?
  intro i
  rcases Nat.lt_or_ge i (n * 3) with hi | hi
  · have hk : (List.replicate n ((0, 0, 0) : Smp))[i / 3]? = some (0, 0, 0) := by rw [List.getElem?_replicate, if_pos (by omega)]
    have h1 := flat_get scells (size := 3) _ (fun _ _ => rfl) hk (Nat.mod_lt i (by omega))
    rw [show i / 3 * 3 + i % 3 = i by omega] at h1
    rw [h1, madeCells, Array.getElem?_toList, Array.getElem?_map, Array.getElem?_range, if_pos hi]
    have h3 : i % 3 = 0 ∨ i % 3 = 1 ∨ i % 3 = 2 := by omega
    have h4 : i % (#[Value.int .i64 0, Value.int .u8 0, Value.int .i64 0] : Array Value).size = i % 3 := rfl
    rw [Option.map_some, h4]
    rcases h3 with h | h | h <;> rw [h] <;> rfl
  · rw [List.getElem?_eq_none (by rw [Array.length_toList, size_madeCells]; exact hi), List.getElem?_eq_none (by rw [Array.length_toList, List.size_toArray, flat_length, List.length_replicate]; exact hi)]
theorem set_flat {L : List Smp} {k : Nat} (hk : k < L.length) (s : Smp) : (L.flatMap scells).take (k * 3) ++ scells s ++ (L.flatMap scells).drop (k * 3 + 3) = (L.set k s).flatMap scells := by
  rw [List.set_eq_take_append_cons_drop, if_pos hk, List.flatMap_append, List.flatMap_cons, flat_take, flat_drop, show (k + 1) * 3 = k * 3 + 3 by omega, List.append_assoc]
theorem blk_smp_set {P : Program} {w : World} {g : Nat} {t : TypeId} {L : List Smp} (h : Blk w g t (L.flatMap scells)) {k : Nat} (hk : k < L.length) (s : Smp) {K : WK} {tk : Tok K}
    (hK : ∀ w', Blk w' g t ((L.set k s).flatMap scells) → Keep (fun q => q = g) w w' → K w') : aggSt P w ⟨g, k * 3, none⟩ (scells s) K tk :=
  h.stAgg (by rw [scells_len, flat_length]; omega) (by intro u hu; exact scells_one [s] u (by simpa using hu)) (fun w' hB hk' => hK w' (by rw [scells_len, set_flat hk] at hB; exact hB) hk')
theorem genK_make3 {o : Oper} {x y : Operand} (hop : o.op = .makeSlice 29 x y) {ρ : Operand → Value} {k k' : IntKind} {n : Nat} (hx : ρ x = .int k n) (hy : ρ y = .int k' n) (hb : n ≤ 5864062014643) {w : World} {K : VWK} {tk : Tok (ρ, K)}
    (hk : K (.slice (some ⟨w.heap.size, 0, none⟩) n n) (w.alloc (.cells ((List.replicate n ((0, 0, 0) : Smp)).flatMap scells).toArray 35))) : genK Try.prog o ρ w K tk := by
  obtain ⟨i, hi, hzz, hs, hby⟩ : ∃ i, Try.prog.info? 35 = some i ∧ i.zero = some (.agg #[.int .i64 0, .int .u8 0, .int .i64 0]) ∧ i.size = 3 ∧ i.bytes = 24 := ⟨_, rfl, by kernel_rfl, by kernel_rfl, by kernel_rfl⟩
  have hb' : (i.bytes : Int) * (n : Int) ≤ 281474976710656 := by rw [hby]; omega
  have hr := run_make (P := Try.prog) w 29 35 i _ Try.underlying29 hi hzz k k' n n (by omega) (Int.le_refl _) hb' (by omega)
  simp only [Int.toNat_natCast, hs, Value.cells, madeCells_smp] at hr
  refine ⟨_, _, .inl ?_, hk⟩
  unfold execOp
  simp only [hop, hx, hy, Sem.run_bind, hr, Result.andThen_ok, Sem.run_pure]
def markS : List Smp := [(-700, 0, 0), (-701, 0, 0), (-702, 0, 0), (-703, 0, 0), (-704, 0, 0), (-705, 0, 0), (-706, 0, 0), (-707, 0, 0), (-708, 0, 0)]
theorem markS_at {k : Nat} (hk : k < 9) : markS.getD k (0, 0, 0) = (-700 - (k : Int), 0, 0) := by
  have : k = 0 ∨ k = 1 ∨ k = 2 ∨ k = 3 ∨ k = 4 ∨ k = 5 ∨ k = 6 ∨ k = 7 ∨ k = 8 := by omega
  rcases this with rfl | rfl | rfl | rfl | rfl | rfl | rfl | rfl | rfl <;> rfl
theorem mark_wrap {n k : Nat} (hn : n ≤ 5864062014634) (hk : k < 9) : IntKind.i64.wrap (IntKind.i64.wrap (-700 - ((n + k : Nat) : Int)) + (n : Int)) = -700 - (k : Int) := by
  rw [wrap_i64_in (n := -700 - ((n + k : Nat) : Int)) (by omega) (by omega), wrap_i64_in (by omega) (by omega)]; omega
theorem blk_front {w : World} {g n : Nat} {t : TypeId} {xs ys : List Smp} (h : Blk w g t ((xs ++ ys).flatMap scells)) (hl : xs.length = n) : Rd w (some ⟨g, 0, none⟩) n 3 (xs.flatMap scells) := by
  subst hl
  refine ⟨flat_length xs, fun _ => ⟨_, rfl, fun j u hu => ?_⟩⟩
  rw [add_lit', Nat.zero_add, h.cell, List.flatMap_append, List.getElem?_append_left (List.getElem?_eq_some_iff.1 hu).1]
  exact hu
end Go.Proofs.Ytifaobnemnbfhaa

namespace Go.Proofs.Ytifaobnemnbfhaa
open Go

/-- what became of a time, of no series. -/
structure Dlt where
  t : Int
  had : Bool
  old : Int × Int
  new : Int × Int
def dlt0 : Dlt := ⟨0, false, (0, 0), (0, 0)⟩
def dcells (d : Dlt) : List Value := [.string ⟨#[]⟩, .slice none 0 0, .string ⟨#[]⟩, .int .i64 d.t, .bool d.had, .bool true, .int .u8 d.old.1, .int .i64 d.old.2, .int .u8 d.new.1, .int .i64 d.new.2]
abbrev serV : Value := .agg #[.string ⟨#[]⟩, .slice none 0 0, .string ⟨#[]⟩]
theorem Rd.dlts_len {w : World} {A : Option Addr} {n : Nat} {D : List Dlt} (h : Rd w A n 10 (D.flatMap dcells)) : D.length = n := by
  have h1 := h.1
  rw [flat_len dcells (size := 10) D (fun _ _ => rfl)] at h1
  omega
theorem Rd.dlt {w : World} {ad : Addr} {n : Nat} {D : List Dlt} (h : Rd w (some ad) n 10 (D.flatMap dcells)) {k : Nat} (hk : k < n) :
    ∀ j v, (dcells (D.getD k dlt0))[j]? = some v → w.cell? ((ad.add (k * 10)).add j) = some v := by
  have hl := h.dlts_len
  have hg : D[k]? = some (D.getD k dlt0) := by rw [List.getD_eq_getElem?_getD, List.getElem?_eq_getElem (by omega)]; rfl
  obtain ⟨_, ad', hA, hc⟩ := h.flat (size := 10) (fun _ _ => rfl) hg (by omega)
  injection hA with hA
  subst hA
  exact hc
end Go.Proofs.Ytifaobnemnbfhaa
