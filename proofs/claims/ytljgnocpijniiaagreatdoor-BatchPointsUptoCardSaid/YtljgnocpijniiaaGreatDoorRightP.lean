/- key.right: the program's names and texts; they are the document's. -/
import Derived.Test.YtljgnocpijniiaaGreatDoorRightW
import Derived.Test.YtljgnocpijniiaaGreatDoorLays3
import Derived.Lib.ValidLaws
import Derived.Lib.TrimUEq
set_option linter.unusedVariables false
set_option linter.unusedSimpArgs false
set_option maxRecDepth 100000
namespace Go.Proofs.YtljgnocpijniiaaGreatDoor
open Go Go.RowKit

def wideN (n b0 b1 b2 b3 : Nat) : Nat :=
  if n = 0 then 0
  else if b0 < 128 then 1
  else if 194 ≤ b0 ∧ b0 < 224 then (if (1 < n ∧ 128 ≤ b1 ∧ b1 < 192) ∧ 128 ≤ (b0 - 192) * 64 + (b1 - 128) then 2 else 0)
  else if 224 ≤ b0 ∧ b0 < 240 then (if (1 < n ∧ 128 ≤ b1 ∧ b1 < 192) ∧ (2 < n ∧ 128 ≤ b2 ∧ b2 < 192) ∧ 2048 ≤ ((b0 - 224) * 64 + (b1 - 128)) * 64 + (b2 - 128) ∧ ¬ (55296 ≤ ((b0 - 224) * 64 + (b1 - 128)) * 64 + (b2 - 128) ∧ ((b0 - 224) * 64 + (b1 - 128)) * 64 + (b2 - 128) < 57344) then 3 else 0)
  else if 240 ≤ b0 ∧ b0 < 245 then (if (1 < n ∧ 128 ≤ b1 ∧ b1 < 192) ∧ (2 < n ∧ 128 ≤ b2 ∧ b2 < 192) ∧ (3 < n ∧ 128 ≤ b3 ∧ b3 < 192) ∧ 65536 ≤ (((b0 - 240) * 64 + (b1 - 128)) * 64 + (b2 - 128)) * 64 + (b3 - 128) ∧ (((b0 - 240) * 64 + (b1 - 128)) * 64 + (b2 - 128)) * 64 + (b3 - 128) ≤ 1114111 then 4 else 0)
  else 0
theorem all2 {s : ByteArray} : (∀ i, i < 2 → 1 ≤ i → contOk s i) ↔ contOk s 1 :=
  ⟨fun h => h 1 (by omega) (by omega), fun h i h1 h2 => by
    obtain rfl : i = 1 := by omega
    exact h⟩
theorem all3 {s : ByteArray} : (∀ i, i < 3 → 1 ≤ i → contOk s i) ↔ contOk s 1 ∧ contOk s 2 := ⟨fun h => ⟨h 1 (by omega) (by omega), h 2 (by omega) (by omega)⟩, fun h i h1 h2 => by
  rcases (show i = 1 ∨ i = 2 by omega) with rfl | rfl
  · exact h.1
  · exact h.2⟩
theorem all4 {s : ByteArray} : (∀ i, i < 4 → 1 ≤ i → contOk s i) ↔ contOk s 1 ∧ contOk s 2 ∧ contOk s 3 := ⟨fun h => ⟨h 1 (by omega) (by omega), h 2 (by omega) (by omega), h 3 (by omega) (by omega)⟩, fun h i h1 h2 => by
  rcases (show i = 1 ∨ i = 2 ∨ i = 3 by omega) with rfl | rfl | rfl
  · exact h.1
  · exact h.2.1
  · exact h.2.2⟩
theorem ite_iff {p q : Prop} [Decidable p] [Decidable q] {α : Type} {a b : α} (h : p ↔ q) : (if p then a else b) = if q then a else b := by
  by_cases hp : p
  · rw [if_pos hp, if_pos (h.1 hp)]
  · rw [if_neg hp, if_neg (fun hq => hp (h.2 hq))]
theorem wide_N (t : ByteArray) : wide t = wideN t.size (byt t 0) (byt t 1) (byt t 2) (byt t 3) := by
  have h1 := byt_lt t 1
  have h2 := byt_lt t 2
  have h3 := byt_lt t 3
  unfold wide wideN
  split
  · rfl
  split
  · rfl
  split
  · unfold wEnd
    refine ite_iff ?_
    rw [all2]
    simp only [show 2 - 1 = 1 from rfl, wVal, contOk, Nat.zero_add]
    exact ⟨fun q => ⟨q.1, q.2.1⟩, fun q => ⟨q.1, q.2, by omega, by omega⟩⟩
  split
  · unfold wEnd
    refine ite_iff ?_
    rw [all3]
    simp only [show 3 - 1 = 2 from rfl, wVal, contOk, Nat.zero_add, Nat.reduceAdd]
    exact ⟨fun q => ⟨q.1.1, q.1.2, q.2.1, q.2.2.1⟩, fun q => ⟨⟨q.1, q.2.1⟩, q.2.2.1, q.2.2.2, by omega⟩⟩
  split
  · unfold wEnd
    refine ite_iff ?_
    rw [all4]
    simp only [show 4 - 1 = 3 from rfl, wVal, contOk, Nat.zero_add, Nat.reduceAdd]
    exact ⟨fun q => ⟨q.1.1, q.1.2.1, q.1.2.2, q.2.1, q.2.2.2⟩, fun q => ⟨⟨q.1, q.2.1, q.2.2.1⟩, q.2.2.2.1, by omega, q.2.2.2.2⟩⟩
  · rfl
theorem wd_bad {n b0 b1 b2 b3 : Nat} (hw : wideN n b0 b1 b2 b3 = 0) (hd : Lib.decodeN n b0 b1 b2 b3 = (65533, 1)) :
    (wideN n b0 b1 b2 b3 = 0 → Lib.decodeN n b0 b1 b2 b3 = (65533, 1)) ∧ (wideN n b0 b1 b2 b3 ≠ 0 → (Lib.decodeN n b0 b1 b2 b3).2 = wideN n b0 b1 b2 b3 ∧ ¬ ((Lib.decodeN n b0 b1 b2 b3).1 = 65533 ∧ (Lib.decodeN n b0 b1 b2 b3).2 = 1) ∧ (b0 < 128 → (Lib.decodeN n b0 b1 b2 b3).1 = b0) ∧ (128 ≤ b0 → 128 ≤ (Lib.decodeN n b0 b1 b2 b3).1)) :=
  ⟨fun _ => hd, fun q => absurd hw q⟩
theorem wd_good {n b0 b1 b2 b3 k c : Nat} (hk : k ≠ 0) (hw : wideN n b0 b1 b2 b3 = k) (hd : Lib.decodeN n b0 b1 b2 b3 = (c, k)) (h1 : ¬ (c = 65533 ∧ k = 1)) (h2 : b0 < 128 → c = b0) (h3 : 128 ≤ b0 → 128 ≤ c) :
    (wideN n b0 b1 b2 b3 = 0 → Lib.decodeN n b0 b1 b2 b3 = (65533, 1)) ∧ (wideN n b0 b1 b2 b3 ≠ 0 → (Lib.decodeN n b0 b1 b2 b3).2 = wideN n b0 b1 b2 b3 ∧ ¬ ((Lib.decodeN n b0 b1 b2 b3).1 = 65533 ∧ (Lib.decodeN n b0 b1 b2 b3).2 = 1) ∧ (b0 < 128 → (Lib.decodeN n b0 b1 b2 b3).1 = b0) ∧ (128 ≤ b0 → 128 ≤ (Lib.decodeN n b0 b1 b2 b3).1)) := by
  rw [hw, hd]
  exact ⟨fun q => absurd q hk, fun _ => ⟨rfl, h1, h2, h3⟩⟩
set_option maxHeartbeats 4000000 in
theorem wide_dec {n b0 b1 b2 b3 : Nat} (hn : 0 < n) (h0 : b0 < 256) (h1 : b1 < 256) (h2 : b2 < 256) (h3 : b3 < 256) :
    (wideN n b0 b1 b2 b3 = 0 → Lib.decodeN n b0 b1 b2 b3 = (65533, 1)) ∧ (wideN n b0 b1 b2 b3 ≠ 0 → (Lib.decodeN n b0 b1 b2 b3).2 = wideN n b0 b1 b2 b3 ∧ ¬ ((Lib.decodeN n b0 b1 b2 b3).1 = 65533 ∧ (Lib.decodeN n b0 b1 b2 b3).2 = 1) ∧ (b0 < 128 → (Lib.decodeN n b0 b1 b2 b3).1 = b0) ∧ (128 ≤ b0 → 128 ≤ (Lib.decodeN n b0 b1 b2 b3).1)) := by
  by_cases c1 : b0 < 128
  · exact wd_good (k := 1) (c := b0) (by omega) (by unfold wideN; rw [if_neg (by omega), if_pos c1]) (by unfold Lib.decodeN; rw [if_pos c1]) (by omega) (fun _ => rfl) (fun q => by omega)
  have k1 : (1 < n ∧ b1 / 64 = 2) ↔ (1 < n ∧ 128 ≤ b1 ∧ b1 < 192) := by omega
  have k2 : (2 < n ∧ b2 / 64 = 2) ↔ (2 < n ∧ 128 ≤ b2 ∧ b2 < 192) := by omega
  have k3 : (3 < n ∧ b3 / 64 = 2) ↔ (3 < n ∧ 128 ≤ b3 ∧ b3 < 192) := by omega
  by_cases c2 : 194 ≤ b0 ∧ b0 < 224
  · by_cases j1 : 1 < n ∧ 128 ≤ b1 ∧ b1 < 192
    · have e : b0 % 32 * 64 + b1 % 64 = (b0 - 192) * 64 + (b1 - 128) := by omega
      exact wd_good (k := 2) (c := (b0 - 192) * 64 + (b1 - 128)) (by omega) (by unfold wideN; rw [if_neg (by omega), if_neg c1, if_pos c2, if_pos ⟨j1, by omega⟩])
        (by unfold Lib.decodeN; rw [if_neg c1, if_pos ⟨by omega, k1.2 j1⟩, if_pos (by omega), e]) (by omega) (fun q => by omega) (fun q => by omega)
    · exact wd_bad (by unfold wideN; rw [if_neg (by omega), if_neg c1, if_pos c2, if_neg (fun q => j1 q.1)])
        (by unfold Lib.decodeN; rw [if_neg c1, if_neg (fun q => j1 (k1.1 q.2)), if_neg (fun q => by omega), if_neg (fun q => by omega)])
  by_cases c3 : 224 ≤ b0 ∧ b0 < 240
  · by_cases j1 : 1 < n ∧ 128 ≤ b1 ∧ b1 < 192
    · by_cases j2 : 2 < n ∧ 128 ≤ b2 ∧ b2 < 192
      · have e : b0 % 16 * 4096 + b1 % 64 * 64 + b2 % 64 = ((b0 - 224) * 64 + (b1 - 128)) * 64 + (b2 - 128) := by omega
        by_cases g : 2048 ≤ ((b0 - 224) * 64 + (b1 - 128)) * 64 + (b2 - 128) ∧ ¬ (55296 ≤ ((b0 - 224) * 64 + (b1 - 128)) * 64 + (b2 - 128) ∧ ((b0 - 224) * 64 + (b1 - 128)) * 64 + (b2 - 128) < 57344)
        · exact wd_good (k := 3) (c := ((b0 - 224) * 64 + (b1 - 128)) * 64 + (b2 - 128)) (by omega) (by unfold wideN; rw [if_neg (by omega), if_neg c1, if_neg c2, if_pos c3, if_pos ⟨j1, j2, g⟩])
            (by unfold Lib.decodeN; rw [if_neg c1, if_neg (fun q => by omega), if_pos ⟨by omega, k1.2 j1, k2.2 j2⟩, e, if_pos ⟨g.1, by omega⟩]) (by omega) (fun q => by omega) (fun q => by omega)
        · exact wd_bad (by unfold wideN; rw [if_neg (by omega), if_neg c1, if_neg c2, if_pos c3, if_neg (fun q => g q.2.2)])
            (by unfold Lib.decodeN; rw [if_neg c1, if_neg (fun q => by omega), if_pos ⟨by omega, k1.2 j1, k2.2 j2⟩, e, if_neg (fun q => g ⟨q.1, by omega⟩)])
      · exact wd_bad (by unfold wideN; rw [if_neg (by omega), if_neg c1, if_neg c2, if_pos c3, if_neg (fun q => j2 q.2.1)])
          (by unfold Lib.decodeN; rw [if_neg c1, if_neg (fun q => by omega), if_neg (fun q => j2 (k2.1 q.2.2)), if_neg (fun q => by omega)])
    · exact wd_bad (by unfold wideN; rw [if_neg (by omega), if_neg c1, if_neg c2, if_pos c3, if_neg (fun q => j1 q.1)])
        (by unfold Lib.decodeN; rw [if_neg c1, if_neg (fun q => by omega), if_neg (fun q => j1 (k1.1 q.2.1)), if_neg (fun q => by omega)])
  by_cases c4 : 240 ≤ b0 ∧ b0 < 245
  · by_cases j1 : 1 < n ∧ 128 ≤ b1 ∧ b1 < 192
    · by_cases j2 : 2 < n ∧ 128 ≤ b2 ∧ b2 < 192
      · by_cases j3 : 3 < n ∧ 128 ≤ b3 ∧ b3 < 192
        · have e : b0 % 8 * 262144 + b1 % 64 * 4096 + b2 % 64 * 64 + b3 % 64 = (((b0 - 240) * 64 + (b1 - 128)) * 64 + (b2 - 128)) * 64 + (b3 - 128) := by omega
          by_cases g : 65536 ≤ (((b0 - 240) * 64 + (b1 - 128)) * 64 + (b2 - 128)) * 64 + (b3 - 128) ∧ (((b0 - 240) * 64 + (b1 - 128)) * 64 + (b2 - 128)) * 64 + (b3 - 128) ≤ 1114111
          · exact wd_good (k := 4) (c := (((b0 - 240) * 64 + (b1 - 128)) * 64 + (b2 - 128)) * 64 + (b3 - 128)) (by omega) (by unfold wideN; rw [if_neg (by omega), if_neg c1, if_neg c2, if_neg c3, if_pos c4, if_pos ⟨j1, j2, j3, g⟩])
              (by unfold Lib.decodeN; rw [if_neg c1, if_neg (fun q => by omega), if_neg (fun q => by omega), if_pos ⟨by omega, k1.2 j1, k2.2 j2, k3.2 j3⟩, e, if_pos ⟨g.1, .inr ⟨by omega, g.2⟩⟩]) (by omega) (fun q => by omega) (fun q => by omega)
          · exact wd_bad (by unfold wideN; rw [if_neg (by omega), if_neg c1, if_neg c2, if_neg c3, if_pos c4, if_neg (fun q => g q.2.2.2)])
              (by unfold Lib.decodeN; rw [if_neg c1, if_neg (fun q => by omega), if_neg (fun q => by omega), if_pos ⟨by omega, k1.2 j1, k2.2 j2, k3.2 j3⟩, e, if_neg (fun q => g ⟨q.1, by omega⟩)])
        · exact wd_bad (by unfold wideN; rw [if_neg (by omega), if_neg c1, if_neg c2, if_neg c3, if_pos c4, if_neg (fun q => j3 q.2.2.1)])
            (by unfold Lib.decodeN; rw [if_neg c1, if_neg (fun q => by omega), if_neg (fun q => by omega), if_neg (fun q => j3 (k3.1 q.2.2.2))])
      · exact wd_bad (by unfold wideN; rw [if_neg (by omega), if_neg c1, if_neg c2, if_neg c3, if_pos c4, if_neg (fun q => j2 q.2.1)])
          (by unfold Lib.decodeN; rw [if_neg c1, if_neg (fun q => by omega), if_neg (fun q => by omega), if_neg (fun q => j2 (k2.1 q.2.2.1))])
    · exact wd_bad (by unfold wideN; rw [if_neg (by omega), if_neg c1, if_neg c2, if_neg c3, if_pos c4, if_neg (fun q => j1 q.1)])
        (by unfold Lib.decodeN; rw [if_neg c1, if_neg (fun q => by omega), if_neg (fun q => by omega), if_neg (fun q => j1 (k1.1 q.2.1))])
  refine wd_bad (by unfold wideN; rw [if_neg (by omega), if_neg c1, if_neg c2, if_neg c3, if_neg c4]) ?_
  unfold Lib.decodeN
  rw [if_neg c1]
  by_cases d2 : b0 / 32 = 6 ∧ (1 < n ∧ b1 / 64 = 2)
  · rw [if_pos d2, if_neg (by omega)]
  rw [if_neg d2, if_neg (fun q => by omega)]
  by_cases d4 : b0 / 8 = 30 ∧ (1 < n ∧ b1 / 64 = 2) ∧ (2 < n ∧ b2 / 64 = 2) ∧ (3 < n ∧ b3 / 64 = 2)
  · rw [if_pos d4, if_neg (fun q => by omega)]
  · rw [if_neg d4]

theorem ext_list (s : ByteArray) (p : Nat) : (s.extract p s.size).data.toList = s.data.toList.drop p := by
  rw [ByteArray.data_extract, Array.toList_extract, List.extract_eq_take_drop, size_list, List.take_of_length_le (by rw [List.length_drop]; omega)]
theorem ext_byt (s : ByteArray) (p i : Nat) : byt (s.extract p s.size) i = byt s (p + i) := by
  unfold byt
  rw [ext_list, Lib.getD_dropU]
/-- is a rune a control? -/
def ctlP (x : Nat) : Bool := decide (x < 32) || decide (x = 127)
theorem valid_okF (s : ByteArray) : ∀ (f pos : Nat), s.size - pos ≤ f → pos ≤ s.size → (Lib.validD (s.data.toList.drop pos) && !decide (0 ≤ Lib.idxFuncFrom ctlP true s f pos)) = okF s f pos
  | 0, pos, h1, h2 => by
    have : s.data.toList.drop pos = [] := List.drop_eq_nil_of_le (by rw [← size_list]; omega)
    rw [this]
    rfl
  | f + 1, pos, h1, h2 => by
    rcases Nat.lt_or_ge pos s.size with hlt | hge
    · have hne : s.data.toList.drop pos ≠ [] := fun h0 => by
        have := congrArg List.length h0
        rw [List.length_drop, ← size_list] at this
        simp only [List.length_nil] at this
        omega
      have hd : Utf8.decode s pos = Lib.decodeN (s.size - pos) (byt s pos) (byt s (pos + 1)) (byt s (pos + 2)) (byt s (pos + 3)) := by rw [Lib.decode_N, ← size_list]; rfl
      have hw : wide (s.extract pos s.size) = wideN (s.size - pos) (byt s pos) (byt s (pos + 1)) (byt s (pos + 2)) (byt s (pos + 3)) := by
        rw [wide_N, ext_size, ext_byt, ext_byt, ext_byt, ext_byt, Nat.add_zero]
      obtain ⟨k0, k1⟩ := wide_dec (n := s.size - pos) (by omega) (byt_lt s pos) (byt_lt s (pos + 1)) (byt_lt s (pos + 2)) (byt_lt s (pos + 3))
      have hwl := wide_le (s.extract pos s.size)
      rw [ext_size] at hwl
      rw [okF, if_pos hlt, Lib.validD_step _ hne, Lib.decodeL_drop, Lib.idxFuncFrom, if_pos hlt, List.drop_drop]
      rw [← hd, ← hw] at k0 k1
      generalize wide (s.extract pos s.size) = n at k0 k1 hwl ⊢
      by_cases hn : n = 0
      · rw [k0 hn, if_pos (show (65533, 1).1 = 65533 ∧ (65533, 1).2 = 1 from ⟨rfl, rfl⟩), if_pos (show n = 0 ∨ byt s pos < 32 ∨ byt s pos = 127 from .inl hn)]
        rfl
      obtain ⟨m1, m2, m3, m4⟩ := k1 hn
      rw [if_neg m2, m1]
      by_cases hc : ctlP (Utf8.decode s pos).1 = true
      · rw [if_pos hc]
        have hb : byt s pos < 32 ∨ byt s pos = 127 := by
          unfold ctlP at hc
          simp only [Bool.or_eq_true, decide_eq_true_eq] at hc
          rcases Nat.lt_or_ge (byt s pos) 128 with q | q
          · rw [m3 q] at hc; exact hc
          · have := m4 q; omega
        rw [if_pos (.inr hb)]
        have : decide ((0 : Int) ≤ (pos : Int)) = true := decide_eq_true (by omega)
        rw [this]
        simp
      · rw [if_neg hc]
        have hb : ¬ (n = 0 ∨ byt s pos < 32 ∨ byt s pos = 127) := by
          rintro (q | q)
          · exact hn q
          · refine hc ?_
            unfold ctlP
            simp only [Bool.or_eq_true, decide_eq_true_eq]
            rw [m3 (by omega)]
            exact q
        rw [if_neg hb]
        exact valid_okF s f (pos + n) (by omega) (by omega)
    · have : s.data.toList.drop pos = [] := List.drop_eq_nil_of_le (by rw [← size_list]; omega)
      rw [this, okF, if_neg (by omega), Lib.idxFuncFrom_end _ _ _ _ _ (by omega)]
      rfl
theorem below_grow {w w' : World} (h : Below w.heap.size w w') : Grow w w' := ⟨h.os, h.tape, h.output, h.size, fun k hk _ => h.block k hk⟩
/-- the two tables of unicode/utf8. -/
def Tabs (w : World) : Prop := Lib.Utf8Tabs (validRen.g 3) (validRen.g 4) w
theorem valid_ok {w : World} {s : ByteArray} (hs : s.size ≤ 4611686018427387904) (hT : Tabs w) {R : VWK} (h : ∀ w', Grow w w' → R (.bool (Lib.validD s.data.toList)) w') : CallsV Tryz.prog 129 [.string s] w R :=
  Calls.mono (Any.utf8_ValidString validLaid s w (by omega) hT) fun e w' ⟨he, hb⟩ => ⟨_, he, h w' (below_grow hb)⟩
theorem ctl_ok {w : World} {x : Nat} {R : VWK} (h : R (.bool (ctlP x)) w) : CallsV Tryz.prog 128 [.int .i32 (x : Int)] w R := by
  unfold ctlP at h
  refine calls_of_wpC mixed Tryz.func128 rfl (by kernel_rfl) ?_
  intro e he
  have he0 := he 0
  simp only [List.getD_cons_zero, List.getD_cons_succ] at he0
  clear he
  cases h1 : decide (x < 32) with
  | true =>
    have d1 : decide ((x : Int) < 32) = true := decide_eq_true (by have := of_decide_eq_true h1; omega)
    rw [h1] at h
    repeat (first | rw [c_seq] | simp -dsimp only [↓RE,RU,RL,forall_const,implies_true,Nat.reduceLeDiff,Nat.reduceLT,pureOp,binPure,intBin,strBin,eqPure,isConstO,resK,endV,yieldE,↓reduceIte,Nat.reduceEqDiff,reduceCtorEq,Nat.reduceAdd,Nat.reduceMul,Int.reduceLT,Int.reduceLE,Int.reduceToNat,Int.reduceAdd,decide_true,decide_false,tf128, he0, d1, undef])
    exact h
  | false =>
    have d1 : decide ((x : Int) < 32) = false := decide_eq_false (by have := of_decide_eq_false h1; omega)
    rw [h1, Bool.false_or] at h
    have d2 : decide ((x : Int) = 127) = decide (x = 127) := by
      by_cases q : x = 127
      · rw [decide_eq_true q, decide_eq_true (by omega)]
      · rw [decide_eq_false q, decide_eq_false (by omega)]
    repeat (first | rw [c_seq] | simp -dsimp only [↓RE,RU,RL,forall_const,implies_true,Nat.reduceLeDiff,Nat.reduceLT,pureOp,binPure,intBin,strBin,eqPure,isConstO,resK,endV,yieldE,↓reduceIte,Nat.reduceEqDiff,reduceCtorEq,Nat.reduceAdd,Nat.reduceMul,Int.reduceLT,Int.reduceLE,Int.reduceToNat,Int.reduceAdd,decide_true,decide_false,tf128, he0, d1, d2])
    exact h
theorem ctl_at (w : World) : PredAt Tryz.prog 128 #[] encR ctlP w := fun W x _ => by
  have := ctl_ok (w := W) (x := x) (R := fun v w' => v = .bool (ctlP x) ∧ w' = W) ⟨rfl, rfl⟩
  exact Calls.mono this fun e w' ⟨v, he, hv, hw⟩ => ⟨by rw [he, hv], 0, hw⟩
theorem contains_ok {w : World} {s : ByteArray} {R : VWK} (h : ∀ w', Grow w w' → R (.bool (decide (0 ≤ Lib.idxFunc ctlP true s))) w') : CallsV Tryz.prog 130 [.string s, .func (.func 128) #[] #[]] w R :=
  Calls.mono (Any.strings_ContainsFunc containsLaid 128 #[] (enters_of Tryz.func128 (by kernel_rfl) rfl) ctlP s w (ctl_at w)) fun e w' ⟨he, hb⟩ => ⟨_, he, h w' (below_grow hb)⟩

theorem right_eq (s : ByteArray) (most : Nat) : rightB s most = (!decide (s.size = 0) && decide (s.size ≤ most) && Lib.validD s.data.toList && !decide (0 ≤ Lib.idxFunc ctlP true s)) := by
  have h := valid_okF s s.size 0 (by omega) (by omega)
  rw [List.drop_zero] at h
  unfold rightB
  by_cases h0 : s.size = 0
  · rw [if_pos (.inl h0), decide_eq_true h0]; rfl
  by_cases h1 : most < s.size
  · rw [if_pos (.inr h1), decide_eq_false (by omega : ¬ s.size ≤ most)]; simp
  rw [if_neg (by omega), decide_eq_false h0, decide_eq_true (by omega : s.size ≤ most), ← h]
  unfold Lib.idxFunc
  simp
theorem pright_ok {w : World} {s : ByteArray} {most : Nat} (hs : s.size ≤ 4611686018427387904) (hT : Tabs w) {R : VWK} (h : ∀ w', Grow w w' → R (.bool (rightB s most)) w') : CallsV Tryz.prog 102 [.string s, .int .i64 (most : Int)] w R := by
  rw [right_eq] at h
  refine calls_of_wpC mixed Tryz.func102 rfl (by kernel_rfl) ?_
  intro e he
  have he0 := he 0
  have he1 := he 1
  simp only [List.getD_cons_zero, List.getD_cons_succ] at he0 he1
  clear he
  by_cases c0 : s.size = 0
  · have d0 : decide (s.size = 0) = true := decide_eq_true c0
    have hE := (beq_nil s).trans d0
    rw [d0] at h
    repeat (first | rw [c_seq] | simp -dsimp only [↓RE,RU,RL,forall_const,implies_true,Nat.reduceLeDiff,Nat.reduceLT,pureOp,binPure,intBin,strBin,eqPure,isConstO,unPure,lenPure,resK,endV,yieldE,↓reduceIte,Nat.reduceEqDiff,reduceCtorEq,Nat.reduceAdd,Nat.reduceMul,Int.reduceLT,Int.reduceLE,Int.reduceToNat,Int.reduceAdd,ne_eq,decide_true,decide_false,tf102, he0, hE, Bool.not_true, undef])
    exact h w (Keep.refl _ _)
  have d0 : decide (s.size = 0) = false := decide_eq_false c0
  have hE := (beq_nil s).trans d0
  rw [d0] at h
  by_cases c1 : s.size ≤ most
  · have d1 : decide ((s.size : Int) ≤ (most : Int)) = true := decide_eq_true (by omega)
    rw [decide_eq_true c1] at h
    repeat (first | rw [c_seq] | simp -dsimp only [↓RE,RU,RL,forall_const,implies_true,Nat.reduceLeDiff,Nat.reduceLT,pureOp,binPure,intBin,strBin,eqPure,isConstO,unPure,lenPure,resK,endV,yieldE,↓reduceIte,Nat.reduceEqDiff,reduceCtorEq,Nat.reduceAdd,Nat.reduceMul,Int.reduceLT,Int.reduceLE,Int.reduceToNat,Int.reduceAdd,ne_eq,decide_true,decide_false,tf102, he0, he1, hE, d1, Bool.not_false])
    refine valid_ok hs hT (fun w1 g1 => ?_)
    cases hv : Lib.validD s.data.toList with
    | false =>
      rw [hv] at h
      repeat (first | rw [c_seq] | simp -dsimp only [↓RE,RU,RL,forall_const,implies_true,Nat.reduceLeDiff,Nat.reduceLT,pureOp,binPure,intBin,strBin,eqPure,isConstO,unPure,lenPure,resK,endV,yieldE,↓reduceIte,Nat.reduceEqDiff,reduceCtorEq,Nat.reduceAdd,Nat.reduceMul,Int.reduceLT,Int.reduceLE,Int.reduceToNat,Int.reduceAdd,ne_eq,decide_true,decide_false,tf102, he0, undef])
      exact h w1 g1
    | true =>
      rw [hv] at h
      repeat (first | rw [c_seq] | simp -dsimp only [↓RE,RU,RL,forall_const,implies_true,Nat.reduceLeDiff,Nat.reduceLT,pureOp,binPure,intBin,strBin,eqPure,isConstO,unPure,lenPure,resK,endV,yieldE,↓reduceIte,Nat.reduceEqDiff,reduceCtorEq,Nat.reduceAdd,Nat.reduceMul,Int.reduceLT,Int.reduceLE,Int.reduceToNat,Int.reduceAdd,ne_eq,decide_true,decide_false,tf102, he0])
      refine contains_ok (fun w2 g2 => ?_)
      have h := h w2 (g1.trans g2)
      cases hc : decide (0 ≤ Lib.idxFunc ctlP true s) with
      | false =>
        rw [hc] at h
        repeat (first | rw [c_seq] | simp -dsimp only [↓RE,RU,RL,forall_const,implies_true,Nat.reduceLeDiff,Nat.reduceLT,pureOp,binPure,intBin,strBin,eqPure,isConstO,unPure,lenPure,resK,endV,yieldE,↓reduceIte,Nat.reduceEqDiff,reduceCtorEq,Nat.reduceAdd,Nat.reduceMul,Int.reduceLT,Int.reduceLE,Int.reduceToNat,Int.reduceAdd,ne_eq,decide_true,decide_false,tf102, he0, Bool.not_false])
        exact h
      | true =>
        rw [hc] at h
        repeat (first | rw [c_seq] | simp -dsimp only [↓RE,RU,RL,forall_const,implies_true,Nat.reduceLeDiff,Nat.reduceLT,pureOp,binPure,intBin,strBin,eqPure,isConstO,unPure,lenPure,resK,endV,yieldE,↓reduceIte,Nat.reduceEqDiff,reduceCtorEq,Nat.reduceAdd,Nat.reduceMul,Int.reduceLT,Int.reduceLE,Int.reduceToNat,Int.reduceAdd,ne_eq,decide_true,decide_false,tf102, he0, Bool.not_true])
        exact h
  · have d1 : decide ((s.size : Int) ≤ (most : Int)) = false := decide_eq_false (by omega)
    rw [decide_eq_false c1] at h
    repeat (first | rw [c_seq] | simp -dsimp only [↓RE,RU,RL,forall_const,implies_true,Nat.reduceLeDiff,Nat.reduceLT,pureOp,binPure,intBin,strBin,eqPure,isConstO,unPure,lenPure,resK,endV,yieldE,↓reduceIte,Nat.reduceEqDiff,reduceCtorEq,Nat.reduceAdd,Nat.reduceMul,Int.reduceLT,Int.reduceLE,Int.reduceToNat,Int.reduceAdd,ne_eq,decide_true,decide_false,tf102, he0, he1, hE, d1, Bool.not_false, undef])
    exact h w (Keep.refl _ _)
/-- no error, or an error's number. -/
def errO (o : Option Int) : Value := match o with
  | none => .nilIface
  | some e => .iface 31 (.int .i64 e)
theorem fnew_ok {w : World} {c : Int} (hc : c ≠ 0) {R : VWK} (h : R (.iface 31 (.int .i64 c)) w) : CallsV Tryz.prog 41 [.int .i64 c] w R := by
  have d : decide (c = 0) = false := decide_eq_false hc
  refine calls_of_wpC mixed Tryz.func41 rfl (by kernel_rfl) ?_
  intro e he
  have he0 := he 0
  simp only [List.getD_cons_zero, List.getD_cons_succ] at he0
  clear he
  repeat (first | rw [c_seq] | simp -dsimp only [↓RE,RU,RL,Nat.reduceLeDiff,Nat.reduceLT,pureOp,binPure,intBin,strBin,eqPure,isConstO,resK,endV,↓reduceIte,Nat.reduceEqDiff,reduceCtorEq,Nat.reduceAdd,Nat.reduceMul,Int.reduceLT,Int.reduceLE,Int.reduceToNat,Int.reduceAdd,decide_true,decide_false,tf41, he0, d])
  exact h
theorem name_ok {w : World} {s : ByteArray} (hs : s.size ≤ 4611686018427387904) (hT : Tabs w) {R : VWK} (h : ∀ w', Grow w w' → R (errO (if rightB s 64 then none else some 50)) w') : CallsV Tryz.prog 40 [.string s] w R := by
  refine calls_of_wpC mixed Tryz.func40 rfl (by kernel_rfl) ?_
  intro e he
  have he0 := he 0
  simp only [List.getD_cons_zero, List.getD_cons_succ] at he0
  clear he
  repeat (first | rw [c_seq] | simp -dsimp only [↓RE,RU,RL,Nat.reduceLeDiff,Nat.reduceLT,pureOp,unPure,resK,endV,↓reduceIte,Nat.reduceEqDiff,reduceCtorEq,Nat.reduceAdd,Nat.reduceMul,Int.reduceLT,Int.reduceLE,Int.reduceToNat,decide_true,decide_false,tf40, he0])
  refine pright_ok (most := 64) hs hT (fun w1 g1 => ?_)
  have h := h w1 g1
  cases hr : rightB s 64 with
  | true =>
    rw [hr] at h
    repeat (first | rw [c_seq] | simp -dsimp only [↓RE,RU,RL,Nat.reduceLeDiff,Nat.reduceLT,pureOp,unPure,resK,endV,↓reduceIte,Nat.reduceEqDiff,reduceCtorEq,Nat.reduceAdd,Nat.reduceMul,Int.reduceLT,Int.reduceLE,Int.reduceToNat,decide_true,decide_false,tf40, he0, Bool.not_true])
    exact h
  | false =>
    rw [hr] at h
    repeat (first | rw [c_seq] | simp -dsimp only [↓RE,RU,RL,Nat.reduceLeDiff,Nat.reduceLT,pureOp,unPure,resK,endV,↓reduceIte,Nat.reduceEqDiff,reduceCtorEq,Nat.reduceAdd,Nat.reduceMul,Int.reduceLT,Int.reduceLE,Int.reduceToNat,decide_true,decide_false,tf40, he0, Bool.not_false])
    refine fnew_ok (by decide) ?_
    repeat (first | rw [c_seq] | simp -dsimp only [↓RE,RU,RL,Nat.reduceLeDiff,Nat.reduceLT,pureOp,unPure,resK,endV,↓reduceIte,Nat.reduceEqDiff,reduceCtorEq,Nat.reduceAdd,Nat.reduceMul,Int.reduceLT,Int.reduceLE,Int.reduceToNat,decide_true,decide_false,tf40, he0])
    exact h
theorem ktext_ok {w : World} {s : ByteArray} (hs : s.size ≤ 4611686018427387904) (hT : Tabs w) {R : VWK} (h : ∀ w', Grow w w' → R (errO (if rightB s 256 then none else some 51)) w') : CallsV Tryz.prog 104 [.string s] w R := by
  refine calls_of_wpC mixed Tryz.func104 rfl (by kernel_rfl) ?_
  intro e he
  have he0 := he 0
  simp only [List.getD_cons_zero, List.getD_cons_succ] at he0
  clear he
  repeat (first | rw [c_seq] | simp -dsimp only [↓RE,RU,RL,Nat.reduceLeDiff,Nat.reduceLT,pureOp,unPure,resK,endV,↓reduceIte,Nat.reduceEqDiff,reduceCtorEq,Nat.reduceAdd,Nat.reduceMul,Int.reduceLT,Int.reduceLE,Int.reduceToNat,decide_true,decide_false,tf104, he0])
  refine pright_ok (most := 256) hs hT (fun w1 g1 => ?_)
  have h := h w1 g1
  cases hr : rightB s 256 with
  | true =>
    rw [hr] at h
    repeat (first | rw [c_seq] | simp -dsimp only [↓RE,RU,RL,Nat.reduceLeDiff,Nat.reduceLT,pureOp,unPure,resK,endV,↓reduceIte,Nat.reduceEqDiff,reduceCtorEq,Nat.reduceAdd,Nat.reduceMul,Int.reduceLT,Int.reduceLE,Int.reduceToNat,decide_true,decide_false,tf104, he0, Bool.not_true])
    exact h
  | false =>
    rw [hr] at h
    repeat (first | rw [c_seq] | simp -dsimp only [↓RE,RU,RL,Nat.reduceLeDiff,Nat.reduceLT,pureOp,unPure,resK,endV,↓reduceIte,Nat.reduceEqDiff,reduceCtorEq,Nat.reduceAdd,Nat.reduceMul,Int.reduceLT,Int.reduceLE,Int.reduceToNat,decide_true,decide_false,tf104, he0, Bool.not_false])
    refine fnew_ok (by decide) ?_
    repeat (first | rw [c_seq] | simp -dsimp only [↓RE,RU,RL,Nat.reduceLeDiff,Nat.reduceLT,pureOp,unPure,resK,endV,↓reduceIte,Nat.reduceEqDiff,reduceCtorEq,Nat.reduceAdd,Nat.reduceMul,Int.reduceLT,Int.reduceLE,Int.reduceToNat,decide_true,decide_false,tf104, he0])
    exact h
theorem word_ok {w : World} {s : ByteArray} (hs : s.size ≤ 4611686018427387904) (hT : Tabs w) {R : VWK} (h : ∀ w', Grow w w' → R (.bool (wordB s)) w') : CallsV Tryz.prog 103 [.string s] w R := by
  have hb : (s.toList == (ByteArray.mk #[116, 105, 109, 101]).toList) = decide (cmpS s sTime = 0) := beqS
  unfold wordB at h
  refine calls_of_wpC mixed Tryz.func103 rfl (by kernel_rfl) ?_
  intro e he
  have he0 := he 0
  simp only [List.getD_cons_zero, List.getD_cons_succ] at he0
  clear he
  repeat (first | rw [c_seq] | simp -dsimp only [↓RE,RU,RL,forall_const,implies_true,Nat.reduceLeDiff,Nat.reduceLT,pureOp,binPure,intBin,strBin,eqPure,isConstO,resK,endV,yieldE,↓reduceIte,Nat.reduceEqDiff,reduceCtorEq,Nat.reduceAdd,Nat.reduceMul,Int.reduceLT,Int.reduceLE,Int.reduceToNat,Int.reduceAdd,ne_eq,decide_true,decide_false,tf103, he0])
  refine name_ok hs hT (fun w1 g1 => ?_)
  have h := h w1 g1
  cases hr : rightB s 64 with
  | false =>
    rw [hr] at h
    repeat (first | rw [c_seq] | simp -dsimp only [↓RE,RU,RL,forall_const,implies_true,Nat.reduceLeDiff,Nat.reduceLT,pureOp,binPure,intBin,strBin,eqPure,isConstO,resK,endV,yieldE,↓reduceIte,Nat.reduceEqDiff,reduceCtorEq,Nat.reduceAdd,Nat.reduceMul,Int.reduceLT,Int.reduceLE,Int.reduceToNat,Int.reduceAdd,ne_eq,decide_true,decide_false,tf103, he0, errO, Bool.false_eq_true, if_false, undef])
    exact h
  | true =>
    rw [hr] at h
    cases hc : decide (cmpS s sTime = 0) with
    | true =>
      rw [hc] at h hb
      repeat (first | rw [c_seq] | simp -dsimp only [↓RE,RU,RL,forall_const,implies_true,Nat.reduceLeDiff,Nat.reduceLT,pureOp,binPure,intBin,strBin,eqPure,isConstO,resK,endV,yieldE,↓reduceIte,Nat.reduceEqDiff,reduceCtorEq,Nat.reduceAdd,Nat.reduceMul,Int.reduceLT,Int.reduceLE,Int.reduceToNat,Int.reduceAdd,ne_eq,decide_true,decide_false,tf103, he0, hb, errO, if_true, Bool.not_true])
      exact h
    | false =>
      rw [hc] at h hb
      repeat (first | rw [c_seq] | simp -dsimp only [↓RE,RU,RL,forall_const,implies_true,Nat.reduceLeDiff,Nat.reduceLT,pureOp,binPure,intBin,strBin,eqPure,isConstO,resK,endV,yieldE,↓reduceIte,Nat.reduceEqDiff,reduceCtorEq,Nat.reduceAdd,Nat.reduceMul,Int.reduceLT,Int.reduceLE,Int.reduceToNat,Int.reduceAdd,ne_eq,decide_true,decide_false,tf103, he0, hb, errO, if_true, Bool.not_false])
      exact h

end Go.Proofs.YtljgnocpijniiaaGreatDoor
