/- What a Reader makes of bytes, taken as times, as values: in plain terms. -/
import Derived.Test.YtpocfghkolppmaaRnums
import Derived.Test.YtpocfghkolppmaaPureA
set_option linter.unusedVariables false
set_option linter.unusedSimpArgs false
set_option maxRecDepth 100000
namespace Go.Proofs.Ytpocfghkolppmaa
open Go

theorem rBits_range (n : Int) (s : RS) : 0 ≤ (rBits n s).2 ∧ (rBits n s).2 < 2 ^ (brought n) := by
  unfold rBits
  have hp := pow_pos2 (brought n)
  split
  · exact ⟨Int.le_refl _, hp⟩
  split
  · exact ⟨Int.le_refl _, hp⟩
  · have := rBitsN_range (brought n) s 0 0 (Int.le_refl _) (by decide)
    rwa [Nat.zero_add] at this
theorem rBits_range64 (n : Int) (s : RS) : 0 ≤ (rBits n s).2 ∧ (rBits n s).2 < 18446744073709551616 := by
  have h := rBits_range n s
  have := pow_mono2 (brought_le n)
  have : (2 : Int) ^ 64 = 18446744073709551616 := by decide
  omega
theorem rBits_01 (s : RS) : (rBits 1 s).2 = 0 ∨ (rBits 1 s).2 = 1 := by
  have h := rBits_range 1 s
  rw [show brought 1 = 1 by decide, show (2 : Int) ^ 1 = 2 by decide] at h
  omega
theorem rBits_0 (s : RS) : rBits 0 s = (s, 0) := by
  unfold rBits
  split
  · rfl
  · rw [show brought 0 = 0 by decide, if_neg (by omega)]; rfl
theorem rNumber_most {s : RS} {most : Int} (m0 : 0 ≤ most) (above : Int) : (rNumber most above s).2 ≤ most := by
  unfold rNumber
  split
  · split
    · exact m0
    · split
      · exact m0
      · simp only; omega
  · exact m0

/-! ### one difference -/

/-- behind k bits that are 1, and a 0. -/
def dTail (k : Nat) (s : RS) : RS × Int :=
  if k = 0 then (s, 0)
  else if k = 1 then ((rBits 7 s).1, (rBits 7 s).2 - 63)
  else if k = 2 then ((rBits 9 s).1, (rBits 9 s).2 - 255)
  else if k = 3 then ((rBits 12 s).1, (rBits 12 s).2 - 2047)
  else ((rBits 64 s).1, IntKind.i64.wrap (rBits 64 s).2)
def rDfrom : Nat → Nat → RS → RS × Int
  | 0, k, s => dTail k s
  | m + 1, k, s => if (rBits 1 s).2 = 0 then dTail k (rBits 1 s).1 else rDfrom m (k + 1) (rBits 1 s).1
def rDelta (s : RS) : RS × Int := rDfrom 4 0 s
theorem RSok.dtail {s : RS} (h : RSok s) (k : Nat) : RSok (dTail k s).1 := by
  unfold dTail
  split
  · exact h
  split
  · exact h.bits _
  split
  · exact h.bits _
  split
  · exact h.bits _
  · exact h.bits _
theorem RSok.dfrom : ∀ (m k : Nat) {s : RS}, RSok s → RSok (rDfrom m k s).1
  | 0, k, s, h => h.dtail k
  | m + 1, k, s, h => by
    unfold rDfrom
    split
    · exact (h.bits 1).dtail k
    · exact RSok.dfrom m (k + 1) (h.bits 1)
theorem dTail_range (k : Nat) (s : RS) : -9223372036854775808 ≤ (dTail k s).2 ∧ (dTail k s).2 < 9223372036854775808 := by
  have h7 := rBits_range 7 s
  have h9 := rBits_range 9 s
  have h12 := rBits_range 12 s
  rw [show brought 7 = 7 by decide, show (2 : Int) ^ 7 = 128 by decide] at h7
  rw [show brought 9 = 9 by decide, show (2 : Int) ^ 9 = 512 by decide] at h9
  rw [show brought 12 = 12 by decide, show (2 : Int) ^ 12 = 4096 by decide] at h12
  unfold dTail
  split
  · simp
  split
  · simp only; omega
  split
  · simp only; omega
  split
  · simp only; omega
  · simp only [wrap_i64]; omega
theorem dfrom_range : ∀ (m k : Nat) (s : RS), -9223372036854775808 ≤ (rDfrom m k s).2 ∧ (rDfrom m k s).2 < 9223372036854775808
  | 0, k, s => dTail_range k s
  | m + 1, k, s => by
    unfold rDfrom
    split
    · exact dTail_range k _
    · exact dfrom_range m (k + 1) _

/-! ### times -/

structure TS where
  s : RS
  g : Int
  l : List Int
def tNext (l : List Int) (g : Int) : Int := IntKind.i64.wrap (l.getD (l.length - 1) 0 + g)
def tsStep (t : TS) : TS :=
  if t.l.length = 0 then ⟨(rNumber 18446744073709551615 2 t.s).1, t.g, t.l ++ [unfoldI (rNumber 18446744073709551615 2 t.s).2]⟩
  else if t.l.length = 1 then ⟨(rNumber 18446744073709551615 2 t.s).1, (rNumber 18446744073709551615 2 t.s).2, t.l ++ [tNext t.l (rNumber 18446744073709551615 2 t.s).2]⟩
  else ⟨(rDelta t.s).1, IntKind.u64.wrap (t.g + (rDelta t.s).2), t.l ++ [tNext t.l (IntKind.u64.wrap (t.g + (rDelta t.s).2))]⟩
def tsRun : Nat → TS → TS
  | 0, t => t
  | m + 1, t => if t.s.fault ≠ none then t else tsRun m (tsStep t)
theorem tsRun_fault {m : Nat} {t : TS} (h : t.s.fault ≠ none) : tsRun m t = t := by
  cases m with
  | zero => rfl
  | succ m => rw [tsRun, if_pos h]
theorem tsRun_step {m : Nat} {t : TS} (h : t.s.fault = none) : tsRun (m + 1) t = tsRun m (tsStep t) := by rw [tsRun, if_neg (by simp [h])]
structure TSok (t : TS) : Prop where
  s : RSok t.s
  g0 : 0 ≤ t.g
  g1 : t.g < 18446744073709551616
  l : ∀ z ∈ t.l, -9223372036854775808 ≤ z ∧ z < 9223372036854775808
theorem tNext_range (l : List Int) (g : Int) : -9223372036854775808 ≤ tNext l g ∧ tNext l g < 9223372036854775808 := by unfold tNext; rw [wrap_i64]; omega
theorem unfoldI_range {v : Int} (h0 : 0 ≤ v) (h1 : v < 18446744073709551616) : -9223372036854775808 ≤ unfoldI v ∧ unfoldI v < 9223372036854775808 := by unfold unfoldI; split <;> omega
theorem mem_snoc {α : Type} {P : α → Prop} {l : List α} {x : α} (h : ∀ z ∈ l, P z) (hx : P x) : ∀ z ∈ l ++ [x], P z := by
  intro z hz
  rcases List.mem_append.1 hz with hz | hz
  · exact h z hz
  · rw [List.mem_singleton.1 hz]; exact hx
theorem TSok.step {t : TS} (h : TSok t) : TSok (tsStep t) := by
  have hr := rNumber_range h.s 18446744073709551615 2
  unfold tsStep
  split
  · exact ⟨h.s.number _ _, h.g0, h.g1, mem_snoc h.l (unfoldI_range hr.1 hr.2)⟩
  split
  · exact ⟨h.s.number _ _, hr.1, hr.2, mem_snoc h.l (tNext_range _ _)⟩
  · refine ⟨RSok.dfrom 4 0 h.s, ?_, ?_, mem_snoc h.l (tNext_range _ _)⟩
    · show 0 ≤ IntKind.u64.wrap _; rw [wrap_u64]; omega
    · show IntKind.u64.wrap _ < _; rw [wrap_u64]; omega
theorem tsStep_len (t : TS) : (tsStep t).l.length = t.l.length + 1 := by
  unfold tsStep
  split
  · simp
  split
  · simp
  · simp
theorem TSok.run : ∀ (m : Nat) {t : TS}, TSok t → TSok (tsRun m t)
  | 0, t, h => h
  | m + 1, t, h => by
    unfold tsRun
    split
    · exact h
    · exact TSok.run m h.step
theorem tsRun_len : ∀ (m : Nat) (t : TS), (tsRun m t).l.length ≤ t.l.length + m
  | 0, t => Nat.le_refl _
  | m + 1, t => by
    unfold tsRun
    split
    · omega
    · have := tsRun_len m (tsStep t)
      rw [tsStep_len] at this
      omega
/-- how many are told. -/
def uN (b : List Int) : Nat := (rNumber 1048576 2 ⟨b, 0, 0, none⟩).2.toNat
def uT0 (b : List Int) : TS := ⟨(rNumber 1048576 2 ⟨b, 0, 0, none⟩).1, 0, []⟩
def uT (b : List Int) : TS := tsRun (uN b) (uT0 b)
theorem uN_le (b : List Int) : uN b ≤ 1048576 := by
  have := rNumber_most (s := ⟨b, 0, 0, none⟩) (most := 1048576) (by omega) 2
  unfold uN; omega
theorem rs0_ok {b : List Int} (hb : ∀ z ∈ b, 0 ≤ z ∧ z < 256) (hl : b.length ≤ 140737488355328) : RSok ⟨b, 0, 0, none⟩ := ⟨Nat.zero_le _, by show (0 : Nat) < 8; omega, fun h => absurd h (Nat.lt_irrefl 0), hl, hb⟩
theorem uT0_ok {b : List Int} (hb : ∀ z ∈ b, 0 ≤ z ∧ z < 256) (hl : b.length ≤ 140737488355328) : TSok (uT0 b) :=
  ⟨(rs0_ok hb hl).number _ _, Int.le_refl _, by show (0 : Int) < _; omega, fun z hz => by cases hz⟩
theorem uT_ok {b : List Int} (hb : ∀ z ∈ b, 0 ≤ z ∧ z < 256) (hl : b.length ≤ 140737488355328) : TSok (uT b) := TSok.run _ (uT0_ok hb hl)
theorem uT_len (b : List Int) : (uT b).l.length ≤ 1048576 := by
  have h1 := tsRun_len (uN b) (uT0 b)
  have h2 := uN_le b
  have h3 : (uT0 b).l.length = 0 := rfl
  unfold uT; omega
/-- what is read is what was packed so. -/
def TGood (b : List Int) : Prop := tErr (uT b).l = none ∧ (tW (uT b).l (uT b).l.length).1 = b

/-! ### values -/

structure US where
  s : RS
  last : Int × Int
  ahead : Int
  l : List (Int × Int)
def rVal (s : RS) (last : Int × Int) (ahead : Int) : RS × (Int × Int) :=
  if (rBits 1 s).2 = 0 then ((rBits 1 s).1, last)
  else if (rBits 1 (rBits 1 s).1).2 = 0 then
    ((rBits ((rBits 6 (rBits 1 (rBits 1 s).1).1).2 + 1) (rBits 6 (rBits 1 (rBits 1 s).1).1).1).1,
      (0, IntKind.i64.wrap (ahead + unfoldI (rBits ((rBits 6 (rBits 1 (rBits 1 s).1).1).2 + 1) (rBits 6 (rBits 1 (rBits 1 s).1).1).1).2)))
  else ((rBits 1 (rBits 1 (rBits 1 s).1).1).1, (1 + (rBits 1 (rBits 1 (rBits 1 s).1).1).2, 0))
def usStep (t : US) : US := ⟨(rVal t.s t.last t.ahead).1, (rVal t.s t.last t.ahead).2, if (rVal t.s t.last t.ahead).2.1 = 0 then (rVal t.s t.last t.ahead).2.2 else t.ahead, t.l ++ [(rVal t.s t.last t.ahead).2]⟩
def usRun : Nat → US → US
  | 0, t => t
  | m + 1, t => if t.s.fault ≠ none then t else usRun m (usStep t)
theorem usRun_fault {m : Nat} {t : US} (h : t.s.fault ≠ none) : usRun m t = t := by
  cases m with
  | zero => rfl
  | succ m => rw [usRun, if_pos h]
theorem usRun_step {m : Nat} {t : US} (h : t.s.fault = none) : usRun (m + 1) t = usRun m (usStep t) := by rw [usRun, if_neg (by simp [h])]
structure USok (t : US) : Prop where
  s : RSok t.s
  last : VOk t.last
  ahead : -9223372036854775808 ≤ t.ahead ∧ t.ahead < 9223372036854775808
  same : t.last.1 = 0 → t.ahead = t.last.2
  l : ∀ z ∈ t.l, VOk z
theorem rVal_ok {s : RS} (h : RSok s) (last : Int × Int) (ahead : Int) : RSok (rVal s last ahead).1 := by
  unfold rVal
  split
  · exact h.bits _
  split
  · exact (((h.bits _).bits _).bits _).bits _
  · exact ((h.bits _).bits _).bits _
theorem rVal_val {s : RS} {last : Int × Int} {ahead : Int} (h : VOk last) : VOk (rVal s last ahead).2 := by
  unfold rVal
  split
  · exact h
  split
  · refine ⟨⟨Int.le_refl _, by show (0 : Int) < 256; omega⟩, ?_⟩
    simp only [wrap_i64]; omega
  · have := rBits_01 (rBits 1 (rBits 1 s).1).1
    refine ⟨?_, by show (-9223372036854775808 : Int) ≤ 0 ∧ (0 : Int) < 9223372036854775808; omega⟩
    simp only
    omega
theorem USok.step {t : US} (h : USok t) : USok (usStep t) := by
  have hv := rVal_val (s := t.s) (ahead := t.ahead) h.last
  refine ⟨rVal_ok h.s _ _, hv, ?_, ?_, mem_snoc h.l hv⟩
  · show -9223372036854775808 ≤ (if (rVal t.s t.last t.ahead).2.1 = 0 then (rVal t.s t.last t.ahead).2.2 else t.ahead) ∧ (if (rVal t.s t.last t.ahead).2.1 = 0 then (rVal t.s t.last t.ahead).2.2 else t.ahead) < 9223372036854775808
    split
    · exact hv.2
    · exact h.ahead
  · intro h0
    show (if (rVal t.s t.last t.ahead).2.1 = 0 then (rVal t.s t.last t.ahead).2.2 else t.ahead) = _
    exact if_pos h0
theorem usStep_len (t : US) : (usStep t).l.length = t.l.length + 1 := by simp [usStep]
theorem USok.run : ∀ (m : Nat) {t : US}, USok t → USok (usRun m t)
  | 0, t, h => h
  | m + 1, t, h => by
    unfold usRun
    split
    · exact h
    · exact USok.run m h.step
theorem usRun_len : ∀ (m : Nat) (t : US), (usRun m t).l.length ≤ t.l.length + m
  | 0, t => Nat.le_refl _
  | m + 1, t => by
    unfold usRun
    split
    · omega
    · have := usRun_len m (usStep t)
      rw [usStep_len] at this
      omega
def uV0 (b : List Int) : US := ⟨(rNumber 1048576 2 ⟨b, 0, 0, none⟩).1, (0, 0), 0, []⟩
def uV (b : List Int) : US := usRun (uN b) (uV0 b)
theorem uV0_ok {b : List Int} (hb : ∀ z ∈ b, 0 ≤ z ∧ z < 256) (hl : b.length ≤ 140737488355328) : USok (uV0 b) :=
  ⟨(rs0_ok hb hl).number _ _, by simp [uV0, VOk], by simp [uV0], fun _ => rfl, fun z hz => by cases hz⟩
theorem uV_ok {b : List Int} (hb : ∀ z ∈ b, 0 ≤ z ∧ z < 256) (hl : b.length ≤ 140737488355328) : USok (uV b) := USok.run _ (uV0_ok hb hl)
theorem uV_len (b : List Int) : (uV b).l.length ≤ 1048576 := by
  have h1 := usRun_len (uN b) (uV0 b)
  have h2 := uN_le b
  have h3 : (uV0 b).l.length = 0 := rfl
  unfold uV; omega
def VGood (b : List Int) : Prop := vErr (uV b).l = none ∧ (vS (uV b).l (uV b).l.length).q.1 = b

end Go.Proofs.Ytpocfghkolppmaa
