/- What the block laws ask whatever is asked: 'live' is true. -/
/- The block laws' comparisons: times, values. -/
/- Rows handed over with something behind their end: what is read of them. -/
import Derived.Test.YtpocfghkolppmaaTimes
import Derived.Test.YtpocfghkolppmaaVals
set_option linter.unusedVariables false
set_option linter.unusedSimpArgs false
set_option maxRecDepth 100000
namespace Go.Proofs.Ytpocfghkolppmaa
open Go

theorem tW_live : (tW [0, 10, 21] 3).1 = [3, 0, 10, 160, 0] := by
  have h0 : tW [0, 10, 21] 2 = ([3, 0, 10], 0) := by
    show ((uvar 3 ++ uvar (foldI 0).toNat) ++ uvar (((10 : Int) - 0) % 18446744073709551616).toNat, 0) = _
    rw [show (foldI 0).toNat = 0 by decide, show (((10 : Int) - 0) % 18446744073709551616).toNat = 10 by decide, uvar_lt (by omega), uvar_lt (by omega), uvar_lt (by omega)]
    rfl
  have hd : tD [0, 10, 21] 2 = 1 := by decide
  show (dput (tD [0, 10, 21] 2) (tW [0, 10, 21] 2)).1 = _
  rw [h0, hd]
  decide
theorem vS_live : (vS [(0, 1)] 1).q.1 = [1, 129, 128] := by
  have h0 : vS [(0, 1)] 0 = ⟨([1], 0), (0, 0), 0⟩ := by
    show VS.mk (uvar 1, 0) (0, 0) 0 = _
    rw [uvar_lt (by omega)]; rfl
  show (vput (vS [(0, 1)] 0) (0, 1)).1 = _
  rw [h0]
  decide

theorem Rd.of_blk {w : World} {g n size : Nat} {t : TypeId} {cs : List Value} (h : Blk w g t cs) (hl : cs.length = n * size) : Rd w (some ⟨g, 0, none⟩) n size cs :=
  ⟨hl, fun _ => ⟨_, rfl, fun j u hu => by rw [add_lit', Nat.zero_add, h.cell]; exact hu⟩⟩

end Go.Proofs.Ytpocfghkolppmaa

namespace Go.Proofs.Ytpocfghkolppmaa
open Go

end Go.Proofs.Ytpocfghkolppmaa

namespace Go.Proofs.Ytpocfghkolppmaa
open Go

theorem own_cap {w : World} {e : TypeId} {size n c : Nat} {A : Option Addr} {xs : List Value} (h : w.ownsRow 0 e size (.slice A n c) n xs) : n ≤ c := by
  obtain ⟨A', c', hf, h1, _⟩ := own_form h
  cases hf
  exact h1
theorem own_place {w : World} {e : TypeId} {size n c : Nat} {A : Option Addr} {xs : List Value} (h : w.ownsRow 0 e size (.slice A n c) n xs) (hn : 0 < n) : ∃ G, A = some ⟨G, 0, none⟩ := by
  rcases h.2 with ⟨h1, h2⟩ | ⟨g, cap, cur, hv, _⟩
  · omega
  · injection hv with hA
    exact ⟨g, hA⟩
/-- the front of a row that reads. -/
theorem Rd.front {w : World} {A : Option Addr} {n m size : Nat} {xs ys : List Value} (h : Rd w A n size (xs ++ ys)) (hl : xs.length = m * size) (hm : m ≤ n) : Rd w A m size xs := by
  refine ⟨hl, fun h0 => ?_⟩
  obtain ⟨ad, hA, hc⟩ := h.2 (by omega)
  refine ⟨ad, hA, fun j u hu => hc j u ?_⟩
  rw [List.getElem?_append_left (List.getElem?_eq_some_iff.1 hu).1]
  exact hu
/-- what stands behind it. -/
theorem Rd.behind {w : World} {G : Nat} {n m size : Nat} {xs ys : List Value} (h : Rd w (some ⟨G, 0, none⟩) n size (xs ++ ys)) (hn : 0 < n) (hl : xs.length = m) {j : Nat} {u : Value} (hu : ys[j]? = some u) : w.cell? ⟨G, m + j, none⟩ = some u := by
  obtain ⟨ad, hA, hc⟩ := h.2 hn
  injection hA with hA
  subst hA
  have := hc (m + j) u (by rw [List.getElem?_append_right (by omega), hl, show m + j - m = j by omega]; exact hu)
  rwa [add_lit', Nat.zero_add] at this
theorem vcells_one : ∀ (l : List (Int × Int)), ∀ u ∈ l.flatMap vcells, u.oneCell' = true := by
  intro l u hu
  obtain ⟨v, _, hv⟩ := List.mem_flatMap.1 hu
  simp only [vcells, List.mem_cons, List.not_mem_nil, or_false] at hv
  rcases hv with rfl | rfl <;> rfl
theorem Rd.val_behind {w : World} {G n : Nat} {l : List (Int × Int)} {v : Int × Int} (h : Rd w (some ⟨G, 0, none⟩) (n + 1) 2 ((l ++ [v]).flatMap vcells)) (hl : l.length = n) {K : VK} {tk : Tok K}
    (hK : K (.agg #[.int .u8 v.1, .int .i64 v.2])) : aggK w ⟨G, n * 2, none⟩ (some 2) K tk := by
  obtain ⟨ad, hA, hc⟩ := h.val (k := n) (by omega)
  injection hA with hA
  subst hA
  have hg : (l ++ [v]).getD n (0, 0) = v := by
    rw [List.getD_eq_getElem?_getD, List.getElem?_append_right (by omega), hl, Nat.sub_self]; rfl
  have := hc (K := K) (tk := tk) (by rw [hg]; exact hK)
  rwa [add_lit', Nat.zero_add] at this
theorem tErr_none {l : List Int} (h : tErr l = none) : l.length ≤ 1048576 := by
  rcases Nat.lt_or_ge 1048576 l.length with hl | hl
  · rw [tErr_long hl] at h; cases h
  · exact hl
theorem vErr_none {l : List (Int × Int)} (h : vErr l = none) : l.length ≤ 1048576 := by
  rcases Nat.lt_or_ge 1048576 l.length with hl | hl
  · rw [vErr_long hl] at h; cases h
  · exact hl

end Go.Proofs.Ytpocfghkolppmaa
