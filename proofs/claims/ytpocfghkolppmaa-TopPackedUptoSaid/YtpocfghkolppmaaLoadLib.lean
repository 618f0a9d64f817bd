/- What reading leaves: its bytes are bytes, its row is the same. -/
import Derived.Test.YtpocfghkolppmaaRnums
set_option linter.unusedVariables false
set_option linter.unusedSimpArgs false
set_option maxRecDepth 100000
namespace Go.Proofs.Ytpocfghkolppmaa
open Go

theorem rBitsN_xs : ∀ (k : Nat) (s : RS) (a : Int), (rBitsN k s a).1.xs = s.xs ∧ (rBitsN k s a).1.fault = s.fault
  | 0, s, a => ⟨rfl, rfl⟩
  | k + 1, s, a => rBitsN_xs k (bitStep s) _
theorem rTake_mem {n : Nat} {s : RS} (ok : RSok s) : ∀ z ∈ (rTake n s).2, 0 ≤ z ∧ z < 256 := by
  unfold rTake
  split
  · split
    · simp
    · exact fun z hz => ok.bytes z (List.mem_of_mem_drop (List.mem_of_mem_take hz))
  · simp
theorem rTake_xs (n : Nat) (s : RS) : (rTake n s).1.xs = s.xs := by
  unfold rTake
  split
  · split
    · exact rFail_xs _ _
    · rfl
  · exact rBegin_xs _
theorem rLoad_xs (m : Int) (s : RS) : (rLoad m s).1.xs = s.xs := by
  unfold rLoad
  split
  · split
    · exact rLoadS_xs _ _
    · rw [rTake_xs, rLoadS_xs]
  · exact rBegin_xs _
theorem rLoad_mem {m : Int} {s : RS} (ok : RSok s) : ∀ z ∈ (rLoad m s).2, 0 ≤ z ∧ z < 256 := by
  unfold rLoad
  split
  · split
    · simp
    · exact rTake_mem (ok.loadS m)
  · simp
theorem rLoad_len {m : Int} {s : RS} (ok : RSok s) : (rLoad m s).2.length ≤ s.xs.length := by
  have t : ∀ (n : Nat) (q : RS), (rTake n q).2.length ≤ q.xs.length := fun n q => by
    unfold rTake
    split
    · split
      · simp
      · rw [List.length_take, List.length_drop]; omega
    · simp
  unfold rLoad
  split
  · split
    · simp
    · have := t (rLoadN m s).toNat (rLoadS m s)
      rw [rLoadS_xs] at this
      exact this
  · simp
theorem rBits_xs (n : Int) (s : RS) : (rBits n s).1.xs = s.xs := by
  unfold rBits
  split
  · rfl
  split
  · exact rFail_xs _ _
  · exact (rBitsN_xs _ _ _).1



end Go.Proofs.Ytpocfghkolppmaa
