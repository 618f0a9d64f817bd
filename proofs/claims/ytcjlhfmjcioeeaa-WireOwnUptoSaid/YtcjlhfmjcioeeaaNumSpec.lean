/- A number read, in plain terms; and back. -/
import Derived.Test.YtcjlhfmjcioeeaaRspec
set_option linter.unusedVariables false
set_option linter.unusedSimpArgs false
namespace Go.Proofs.Ytcjlhfmjcioeeaa
open Go

/-- a number's bytes, from the byte at place i on: what is read so far, or where it goes wrong. -/
def scan : List Int → Nat → Int → Nat → Except (Nat × Int) (Int × Nat)
  | [], k, v, i => .error (i, 30)
  | c :: r, k, v, i => if (k = 9 ∧ 1 < c) ∨ (0 < k ∧ c = 0) then .error (i, 31) else if c < 128 then .ok (v + c % 128 * 2 ^ (7 * k), i + 1) else scan r (k + 1) (v + c % 128 * 2 ^ (7 * k)) (i + 1)
def rNumber (most : Int) (above : Int) (s : RS) : RS × Int :=
  if (rBegin s).2 then match scan (s.xs.drop s.pos) 0 0 s.pos with
    | .error (i, e) => (rFail s (errAt i e), 0)
    | .ok (v, i) => if most < v then (rFail s (errAt s.pos above), 0) else ({ s with pos := i, bits := 0 }, v)
  else ((rBegin s).1, 0)

theorem scan_pos : ∀ (l : List Int) (k : Nat) (v : Int) (i : Nat) {u : Int} {j : Nat}, scan l k v i = .ok (u, j) → i < j ∧ j ≤ i + l.length
  | [], k, v, i, u, j, h => by cases h
  | c :: r, k, v, i, u, j, h => by
    unfold scan at h
    split at h
    · cases h
    split at h
    · injection h with h
      injection h with h1 h2
      subst h2
      simp only [List.length_cons]; omega
    · have := scan_pos r _ _ _ h
      simp only [List.length_cons]; omega
theorem scan_range : ∀ (l : List Int) (k : Nat) (v : Int) (i : Nat) {u : Int} {j : Nat}, (∀ z ∈ l, 0 ≤ z ∧ z < 256) → k ≤ 9 → 0 ≤ v → v < 2 ^ (7 * k) → scan l k v i = .ok (u, j) → 0 ≤ u ∧ u < 18446744073709551616
  | [], k, v, i, u, j, _, _, _, _, h => by cases h
  | c :: r, k, v, i, u, j, hb, hk, h0, h1, h => by
    have hc := hb c (by simp)
    unfold scan at h
    split at h
    · cases h
    rename_i hn
    have hks : k = 0 ∨ k = 1 ∨ k = 2 ∨ k = 3 ∨ k = 4 ∨ k = 5 ∨ k = 6 ∨ k = 7 ∨ k = 8 ∨ k = 9 := by omega
    split at h
    · injection h with h
      injection h with h2 _
      subst h2
      rcases hks with rfl | rfl | rfl | rfl | rfl | rfl | rfl | rfl | rfl | rfl <;> simp at h1 hn ⊢ <;> omega
    · rename_i hlt
      refine scan_range r (k + 1) _ _ (fun z hz => hb z (List.mem_cons_of_mem _ hz)) (by omega) ?_ ?_ h
      · rcases hks with rfl | rfl | rfl | rfl | rfl | rfl | rfl | rfl | rfl | rfl <;> simp at h1 hn ⊢ <;> omega
      · rcases hks with rfl | rfl | rfl | rfl | rfl | rfl | rfl | rfl | rfl | rfl <;> simp at h1 hn ⊢ <;> omega
theorem RSok.number {s : RS} (h : RSok s) (most above : Int) : RSok (rNumber most above s).1 := by
  unfold rNumber
  split
  · split
    · exact h.fail _
    · rename_i v i hs
      split
      · exact h.fail _
      · have := scan_pos _ _ _ _ hs
        rw [List.length_drop] at this
        have := h.le
        exact ⟨by simp only; omega, by simp, by simp, h.len, h.bytes⟩
  · exact h.begin

/-- what uvar wrote is read so. -/
theorem scan_uvar : ∀ (n v k : Nat) (acc : Int) (i : Nat) (rest : List Int), v ≤ n → (0 < k → 0 < v) → v < 2 ^ (64 - 7 * k) → k ≤ 9 → scan (uvar v ++ rest) k acc i = .ok (acc + v * 2 ^ (7 * k), i + (uvar v).length) := by
  intro n
  induction n with
  | zero =>
    intro v k acc i rest hv hk _ _
    obtain rfl : v = 0 := by omega
    have : k = 0 := by rcases Nat.eq_zero_or_pos k with h | h; exact h; have := hk h; omega
    subst this
    rw [uvar_lt (by omega)]
    simp [scan]
  | succ n ih =>
    intro v k acc i rest hv hk hlt hk9
    have h9 : k = 9 → v < 2 := fun h => by subst h; simpa using hlt
    by_cases h128 : v < 128
    · rw [uvar_lt h128, List.singleton_append, scan, if_neg, if_pos (by omega), List.length_singleton, show ((v : Int)) % 128 = v by omega]
      rintro (⟨h, h1⟩ | ⟨h, h1⟩)
      · have := h9 h; omega
      · have := hk h; omega
    · have hk8 : k ≤ 8 := by rcases Nat.lt_or_ge 8 k with h | h; · have := h9 (by omega); omega
                             · exact h
      rw [uvar_ge h128, List.cons_append, scan, if_neg, if_neg (by omega), ih (v / 128) (k + 1) _ _ _ (by omega) (fun _ => by omega) ?_ (by omega), List.length_cons]
      · have e : acc + ((v % 128 + 128 : Nat) : Int) % 128 * 2 ^ (7 * k) + ((v / 128 : Nat) : Int) * 2 ^ (7 * (k + 1)) = acc + (v : Int) * 2 ^ (7 * k) := by
          rw [show 7 * (k + 1) = 7 * k + 7 by omega, Int.pow_add, show ((v % 128 + 128 : Nat) : Int) % 128 = ((v % 128 : Nat) : Int) by omega]
          have hv : (v : Int) = (v % 128 : Nat) + (v / 128 : Nat) * 128 := by omega
          generalize ((v % 128 : Nat) : Int) = a at hv ⊢
          generalize ((v / 128 : Nat) : Int) = b at hv ⊢
          generalize (2 : Int) ^ (7 * k) = q
          rw [hv, Int.add_mul, Int.add_assoc, show (2 : Int) ^ 7 = 128 from rfl, Int.mul_assoc b 128 q, Int.mul_comm 128 q]
        rw [e]
        congr 2
        omega
      · have hks : k = 0 ∨ k = 1 ∨ k = 2 ∨ k = 3 ∨ k = 4 ∨ k = 5 ∨ k = 6 ∨ k = 7 ∨ k = 8 := by omega
        rcases hks with rfl | rfl | rfl | rfl | rfl | rfl | rfl | rfl | rfl <;> simp at hlt ⊢ <;> omega
      · rintro (⟨h, h1⟩ | ⟨h, h1⟩)
        · omega
        · omega
theorem scan_uvar0 {v : Nat} (h : v < 18446744073709551616) (i : Nat) (rest : List Int) : scan (uvar v ++ rest) 0 0 i = .ok ((v : Int), i + (uvar v).length) := by
  have := scan_uvar v v 0 0 i rest (Nat.le_refl _) (fun h => absurd h (by omega)) (by simpa using h) (by omega)
  simpa using this

/-- what is read was written so. -/
theorem scan_back : ∀ (l : List Int) (k : Nat) (acc : Int) (i : Nat) {u : Int} {j : Nat}, (∀ z ∈ l, 0 ≤ z ∧ z < 256) → scan l k acc i = .ok (u, j) →
    ∃ v : Nat, u = acc + v * 2 ^ (7 * k) ∧ l.take (j - i) = uvar v ∧ (0 < k → 0 < v)
  | [], k, v, i, u, j, _, h => by cases h
  | c :: r, k, acc, i, u, j, hb, h => by
    have hc := hb c (by simp)
    have hp := scan_pos _ _ _ _ h
    unfold scan at h
    split at h
    · cases h
    rename_i hn
    split at h
    · injection h with h
      injection h with h2 h3
      subst h3
      refine ⟨c.toNat, ?_, ?_, ?_⟩
      · rw [← h2, show c % 128 = c by omega, Int.toNat_of_nonneg hc.1]
      · rw [uvar_lt (by omega), show i + 1 - i = 1 by omega]
        simp; omega
      · intro hk; omega
    · obtain ⟨v, hu, ht, hv⟩ := scan_back r (k + 1) _ (i + 1) (fun z hz => hb z (List.mem_cons_of_mem _ hz)) h
      have hv := hv (by omega)
      have hp2 := scan_pos _ _ _ _ h
      refine ⟨(c % 128).toNat + 128 * v, ?_, ?_, fun _ => by omega⟩
      · rw [hu, show 7 * (k + 1) = 7 * k + 7 by omega, Int.pow_add]
        have e : (((c % 128).toNat + 128 * v : Nat) : Int) = c % 128 + 128 * (v : Int) := by omega
        rw [e]
        generalize c % 128 = a
        generalize (v : Int) = b
        generalize (2 : Int) ^ (7 * k) = q
        rw [Int.add_mul, Int.add_assoc, show (2 : Int) ^ 7 = 128 from rfl, Int.mul_comm q 128, ← Int.mul_assoc b 128 q, Int.mul_comm b 128]
      · rw [uvar_ge (by omega), show j - i = (j - (i + 1)) + 1 by omega, List.take_succ_cons, ht]
        congr 1
        · omega
        · congr 1; omega

end Go.Proofs.Ytcjlhfmjcioeeaa
