/- What a Reader makes of bytes, taken as samples: in plain terms. -/
import Derived.Test.YtpocfghkolppmaaUnSpec
import Derived.Test.YtpocfghkolppmaaLoadLib
set_option linter.unusedVariables false
set_option linter.unusedSimpArgs false
set_option maxRecDepth 100000
namespace Go.Proofs.Ytpocfghkolppmaa
open Go

def kS1 (b : List Int) : RS := (rLoad 67108864 ⟨b, 0, 0, none⟩).1
def kX (b : List Int) : List Int := (rLoad 67108864 ⟨b, 0, 0, none⟩).2
def kS2 (b : List Int) : RS := (rLoad 67108864 (kS1 b)).1
def kY (b : List Int) : List Int := (rLoad 67108864 (kS1 b)).2
def uPl (b : List Int) : List (Int × Int × Int) := (uT (kX b)).l.zip (uV (kY b)).l
def e90 : TypeId × Value := (77, .int .i64 90)
open Classical in
/-- what is wrong with bytes taken as samples, if anything. -/
noncomputable def uPe (b : List Int) : Option (TypeId × Value) :=
  match rDone (kS2 b) with
  | some e => some e
  | none => match rDone (uT (kX b)).s with
    | some e => some e
    | none => if TGood (kX b) then
        match rDone (uV (kY b)).s with
        | some e => some e
        | none => if VGood (kY b) then (if (uT (kX b)).l.length = (uV (kY b)).l.length then none else some e90) else some e90
      else some e90
theorem uPe_none {b : List Int} (h : uPe b = none) : rDone (kS2 b) = none ∧ rDone (uT (kX b)).s = none ∧ TGood (kX b) ∧ rDone (uV (kY b)).s = none ∧ VGood (kY b) ∧ (uT (kX b)).l.length = (uV (kY b)).l.length := by
  unfold uPe at h
  cases h1 : rDone (kS2 b) with
  | some e => rw [h1] at h; cases h
  | none =>
    rw [h1] at h
    simp only at h
    cases h2 : rDone (uT (kX b)).s with
    | some e => rw [h2] at h; cases h
    | none =>
      rw [h2] at h
      simp only at h
      by_cases h3 : TGood (kX b)
      · rw [if_pos h3] at h
        cases h4 : rDone (uV (kY b)).s with
        | some e => rw [h4] at h; cases h
        | none =>
          rw [h4] at h
          simp only at h
          by_cases h5 : VGood (kY b)
          · rw [if_pos h5] at h
            by_cases h6 : (uT (kX b)).l.length = (uV (kY b)).l.length
            · exact ⟨rfl, rfl, h3, rfl, h5, h6⟩
            · rw [if_neg h6] at h; cases h
          · rw [if_neg h5] at h; cases h
      · rw [if_neg h3] at h; cases h
theorem uPe_1 {b : List Int} {e : TypeId × Value} (h : rDone (kS2 b) = some e) : uPe b = some e := by unfold uPe; rw [h]
theorem uPe_2 {b : List Int} {e : TypeId × Value} (h1 : rDone (kS2 b) = none) (h : rDone (uT (kX b)).s = some e) : uPe b = some e := by unfold uPe; rw [h1]; simp only; rw [h]
theorem uPe_3 {b : List Int} (h1 : rDone (kS2 b) = none) (h2 : rDone (uT (kX b)).s = none) (h : ¬ TGood (kX b)) : uPe b = some e90 := by unfold uPe; rw [h1]; simp only; rw [h2]; simp only; rw [if_neg h]
theorem uPe_4 {b : List Int} {e : TypeId × Value} (h1 : rDone (kS2 b) = none) (h2 : rDone (uT (kX b)).s = none) (h3 : TGood (kX b)) (h : rDone (uV (kY b)).s = some e) : uPe b = some e := by
  unfold uPe; rw [h1]; simp only; rw [h2]; simp only; rw [if_pos h3, h]
theorem uPe_5 {b : List Int} (h1 : rDone (kS2 b) = none) (h2 : rDone (uT (kX b)).s = none) (h3 : TGood (kX b)) (h4 : rDone (uV (kY b)).s = none) (h : ¬ VGood (kY b)) : uPe b = some e90 := by
  unfold uPe; rw [h1]; simp only; rw [h2]; simp only; rw [if_pos h3, h4]; simp only; rw [if_neg h]
theorem uPe_6 {b : List Int} (h1 : rDone (kS2 b) = none) (h2 : rDone (uT (kX b)).s = none) (h3 : TGood (kX b)) (h4 : rDone (uV (kY b)).s = none) (h5 : VGood (kY b)) (h : ¬ (uT (kX b)).l.length = (uV (kY b)).l.length) : uPe b = some e90 := by
  unfold uPe; rw [h1]; simp only; rw [h2]; simp only; rw [if_pos h3, h4]; simp only; rw [if_pos h5, if_neg h]
theorem uPe_ok {b : List Int} (h1 : rDone (kS2 b) = none) (h2 : rDone (uT (kX b)).s = none) (h3 : TGood (kX b)) (h4 : rDone (uV (kY b)).s = none) (h5 : VGood (kY b)) (h : (uT (kX b)).l.length = (uV (kY b)).l.length) : uPe b = none := by
  unfold uPe; rw [h1]; simp only; rw [h2]; simp only; rw [if_pos h3, h4]; simp only; rw [if_pos h5, if_pos h]
theorem kX_ok {b : List Int} (hb : ∀ z ∈ b, 0 ≤ z ∧ z < 256) (hl : b.length ≤ 140737488355328) : (∀ z ∈ kX b, 0 ≤ z ∧ z < 256) ∧ (kX b).length ≤ b.length := ⟨rLoad_mem (rs0_ok hb hl), rLoad_len (rs0_ok hb hl)⟩
theorem kS1_ok {b : List Int} (hb : ∀ z ∈ b, 0 ≤ z ∧ z < 256) (hl : b.length ≤ 140737488355328) : RSok (kS1 b) := (rs0_ok hb hl).load _
theorem kY_ok {b : List Int} (hb : ∀ z ∈ b, 0 ≤ z ∧ z < 256) (hl : b.length ≤ 140737488355328) : (∀ z ∈ kY b, 0 ≤ z ∧ z < 256) ∧ (kY b).length ≤ b.length := by
  refine ⟨rLoad_mem (kS1_ok hb hl), ?_⟩
  have h1 := rLoad_len (m := 67108864) (kS1_ok hb hl)
  have h2 : (kS1 b).xs = b := rLoad_xs _ _
  rw [h2] at h1
  exact h1
theorem zip_tms {a : List Int} {c : List (Int × Int)} (h : a.length = c.length) : tms (a.zip c) = a ∧ vls (a.zip c) = c := by
  unfold tms vls
  exact ⟨List.map_fst_zip (Nat.le_of_eq h), List.map_snd_zip (Nat.le_of_eq h.symm)⟩
theorem zip_len {a : List Int} {c : List (Int × Int)} (h : a.length = c.length) : (a.zip c).length = a.length := by rw [List.length_zip]; omega
theorem tms_vls : ∀ l : List (Int × Int × Int), (tms l).zip (vls l) = l
  | [] => rfl
  | (a, c) :: l => by
    show (a, c) :: (tms l).zip (vls l) = _
    rw [tms_vls l]

end Go.Proofs.Ytpocfghkolppmaa
