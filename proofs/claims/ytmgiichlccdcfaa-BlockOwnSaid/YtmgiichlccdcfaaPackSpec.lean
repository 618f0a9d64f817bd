/- Samples as bytes, in plain terms. -/
import Derived.Test.YtmgiichlccdcfaaBlkSpec
import Derived.Test.YtmgiichlccdcfaaValSpec
set_option linter.unusedVariables false
set_option linter.unusedSimpArgs false
set_option maxRecDepth 100000
namespace Go.Proofs.Ytmgiichlccdcfaa
open Go

/-- a sample: its time, and its value's kind and number. -/
def scells (s : Int × Int × Int) : List Value := [.int .i64 s.1, .int .u8 s.2.1, .int .i64 s.2.2]
theorem scells_len (s : Int × Int × Int) : (scells s).length = 3 := rfl
def SOk (s : Int × Int × Int) : Prop := (-9223372036854775808 ≤ s.1 ∧ s.1 < 9223372036854775808) ∧ VOk s.2
def tms (l : List (Int × Int × Int)) : List Int := l.map (fun s => s.1)
def vls (l : List (Int × Int × Int)) : List (Int × Int) := l.map (fun s => s.2)
theorem tms_len (l : List (Int × Int × Int)) : (tms l).length = l.length := List.length_map _
theorem vls_len (l : List (Int × Int × Int)) : (vls l).length = l.length := List.length_map _
theorem sok_tms {l : List (Int × Int × Int)} (h : ∀ s ∈ l, SOk s) : ∀ z ∈ tms l, -9223372036854775808 ≤ z ∧ z < 9223372036854775808 := by
  intro z hz
  obtain ⟨s, hs, rfl⟩ := List.mem_map.1 hz
  exact (h s hs).1
theorem sok_vls {l : List (Int × Int × Int)} (h : ∀ s ∈ l, SOk s) : ∀ v ∈ vls l, VOk v := by
  intro v hv
  obtain ⟨s, hs, rfl⟩ := List.mem_map.1 hv
  exact (h s hs).2
theorem sok_get {l : List (Int × Int × Int)} (h0 : ∀ v ∈ l, SOk v) (i : Nat) : SOk (l.getD i (0, 0, 0)) := by
  rw [List.getD_eq_getElem?_getD]
  cases hh : l[i]? with
  | none => simp [SOk, VOk]
  | some z => exact h0 z (List.mem_of_getElem? hh)
def rawB (b : List Int) : List Int := uvar b.length ++ b
/-- what is wrong with samples, if anything. -/
noncomputable def pErr (l : List (Int × Int × Int)) : Option Int := match tErr (tms l) with
  | some e => some e
  | none => vErr (vls l)
def pOut (l : List (Int × Int × Int)) : List Int := rawB (tW (tms l) l.length).1 ++ rawB (vS (vls l) l.length).q.1
theorem pErr_none {l : List (Int × Int × Int)} (h : pErr l = none) : tErr (tms l) = none ∧ vErr (vls l) = none := by
  unfold pErr at h
  cases ht : tErr (tms l) with
  | none => rw [ht] at h; exact ⟨rfl, h⟩
  | some e => rw [ht] at h; cases h
theorem pErr_t {l : List (Int × Int × Int)} {e : Int} (h : tErr (tms l) = some e) : pErr l = some e := by unfold pErr; rw [h]
theorem pErr_v {l : List (Int × Int × Int)} (h : tErr (tms l) = none) : pErr l = vErr (vls l) := by unfold pErr; rw [h]
theorem pOut_len {l : List (Int × Int × Int)} (hl : l.length ≤ 1048576) (h0 : ∀ s ∈ l, SOk s) : (pOut l).length ≤ 60 + 140 * l.length := by
  have h1 := tW_len (l := tms l) (by rw [tms_len]; exact hl) (sok_tms h0) l.length
  have h2 := vS_len (l := vls l) (by rw [vls_len]; exact hl) l.length
  have h3 := uvar_len64 (v := (tW (tms l) l.length).1.length) (by omega)
  have h4 := uvar_len64 (v := (vS (vls l) l.length).q.1.length) (by omega)
  simp only [pOut, rawB, List.length_append]
  omega

/-! ### a thousand samples of one step, with one value -/

theorem bitCap0 (zs : List Int) : bitCap (zs, 0) = 8 * (zs.length : Int) := by simp [bitCap]
theorem bitCap_len {s : List Int × Nat} (h : WOk s.1 s.2) : bitCap s ≤ 8 * (s.1.length : Int) ∧ 8 * (s.1.length : Int) ≤ bitCap s + 7 := by
  have h8 := h.1
  unfold bitCap
  split <;> omega
def even (f st : Int) (v : Int) (n : Nat) : List (Int × Int × Int) := (List.range n).map (fun i : Nat => (f + (i : Int) * st, (0 : Int), v))
theorem even_len (f st v : Int) (n : Nat) : (even f st v n).length = n := by simp [even]
theorem even_t (f st v : Int) {n i : Nat} (h : i < n) : (tms (even f st v n)).getD i 0 = f + i * st := by
  rw [List.getD_eq_getElem?_getD]
  simp [tms, even, h]
theorem even_v (f st v : Int) {n i : Nat} (h : i < n) : (vls (even f st v n)).getD i (0, 0) = (0, v) := by
  rw [List.getD_eq_getElem?_getD]
  simp [vls, even, h]
theorem even_rises {f st v : Int} {n : Nat} (hs : 0 < st) : Rises (tms (even f st v n)) n := by
  intro i hi h0
  rw [even_t f st v hi, even_t f st v (by omega)]
  have : ((i : Nat) : Int) * st = ((i - 1 : Nat) : Int) * st + st := by
    rw [show ((i : Nat) : Int) = ((i - 1 : Nat) : Int) + 1 by omega, Int.add_mul, Int.one_mul]
  omega
theorem even_tD {f st v : Int} {n i : Nat} (h2 : 2 ≤ i) (h : i < n) : tD (tms (even f st v n)) i = 0 := by
  unfold tD
  rw [even_t f st v h, even_t f st v (by omega), even_t f st v (by omega)]
  have e1 : ((i : Nat) : Int) * st = ((i - 2 : Nat) : Int) * st + 2 * st := by
    rw [show ((i : Nat) : Int) = ((i - 2 : Nat) : Int) + 2 by omega, Int.add_mul]
  have e2 : ((i - 1 : Nat) : Int) * st = ((i - 2 : Nat) : Int) * st + st := by
    rw [show ((i - 1 : Nat) : Int) = ((i - 2 : Nat) : Int) + 1 by omega, Int.add_mul, Int.one_mul]
  rw [e1, e2, show f + (((i - 2 : Nat) : Int) * st + 2 * st) - (f + (((i - 2 : Nat) : Int) * st + st)) - (f + (((i - 2 : Nat) : Int) * st + st) - (f + ((i - 2 : Nat) : Int) * st)) = 0 by omega]
  decide
theorem even_tcap {f st v : Int} {n : Nat} : ∀ k, k + 2 ≤ n → bitCap (tW (tms (even f st v n)) (k + 2)) = bitCap (tW (tms (even f st v n)) 2) + k
  | 0, _ => by simp
  | k + 1, h => by
    have ih := even_tcap (f := f) (st := st) (v := v) (n := n) k (by omega)
    have hd := even_tD (f := f) (st := st) (v := v) (n := n) (i := k + 2) (by omega) (by omega)
    have e : tW (tms (even f st v n)) (k + 1 + 2) = pushBits 0 1 (tW (tms (even f st v n)) (k + 2)) := by
      show dput (tD (tms (even f st v n)) (k + 2)) _ = _
      rw [hd]; rfl
    rw [e]
    have := pushBits_cap 0 1 (tW_ok (tms (even f st v n)) (k + 2))
    have this : bitCap (pushBits 0 1 (tW (tms (even f st v n)) (k + 2))) = bitCap (tW (tms (even f st v n)) (k + 2)) + ((1 : Nat) : Int) := this
    rw [this, ih]
    omega
theorem even_vlast {f st v : Int} {n : Nat} : ∀ k, k + 1 ≤ n → (vS (vls (even f st v n)) (k + 1)).last = (0, v) := by
  intro k h
  show (vls (even f st v n)).getD k (0, 0) = _
  exact even_v f st v (by omega)
theorem even_vcap {f st v : Int} {n : Nat} : ∀ k, k + 1 ≤ n → bitCap (vS (vls (even f st v n)) (k + 1)).q = bitCap (vS (vls (even f st v n)) 1).q + k
  | 0, _ => by simp
  | k + 1, h => by
    have ih := even_vcap (f := f) (st := st) (v := v) (n := n) k (by omega)
    have hl := even_vlast (f := f) (st := st) (v := v) (n := n) k (by omega)
    have e : (vS (vls (even f st v n)) (k + 1 + 1)).q = pushBits 0 1 (vS (vls (even f st v n)) (k + 1)).q := by
      show vput (vS (vls (even f st v n)) (k + 1)) ((vls (even f st v n)).getD (k + 1) (0, 0)) = _
      rw [even_v f st v (by omega)]
      unfold vput
      rw [hl, if_pos rfl]
    rw [e]
    have := pushBits_cap 0 1 (vS_ok (vls (even f st v n)) (k + 1))
    have this : bitCap (pushBits 0 1 (vS (vls (even f st v n)) (k + 1)).q) = bitCap (vS (vls (even f st v n)) (k + 1)).q + ((1 : Nat) : Int) := this
    rw [this, ih]
    omega
/-- P9.5: a thousand of them take few bytes. -/
theorem even_few {f st v : Int} (s0 : 1 ≤ st) (s1 : st ≤ 1125899906842624) (f0 : -4611686018427387904 ≤ f) (f1 : f ≤ 4611686018427387904) (v0 : -9223372036854775808 ≤ v) (v1 : v < 9223372036854775808) :
    200 < (pOut (even f st v 1000)).length ∧ (pOut (even f st v 1000)).length ≤ 300 := by
  have ht := even_tcap (f := f) (st := st) (v := v) (n := 1000) 998 (by omega)
  have hv := even_vcap (f := f) (st := st) (v := v) (n := 1000) 999 (by omega)
  have htl := bitCap_len (tW_ok (tms (even f st v 1000)) 1000)
  have hvl := bitCap_len (vS_ok (vls (even f st v 1000)) 1000)
  have hlt : (tms (even f st v 1000)).length = 1000 := by rw [tms_len, even_len]
  have hlv : (vls (even f st v 1000)).length = 1000 := by rw [vls_len, even_len]
  have u1 : (uvar 1000).length ≤ 2 := uvar_len 1 1000 (by decide)
  have t2 : 0 ≤ bitCap (tW (tms (even f st v 1000)) 2) ∧ bitCap (tW (tms (even f st v 1000)) 2) ≤ 8 * 22 := by
    have e : tW (tms (even f st v 1000)) 2 = ((uvar 1000 ++ uvar (foldI f).toNat) ++ uvar (st % 18446744073709551616).toNat, 0) := by
      show ((uvar (tms (even f st v 1000)).length ++ uvar (foldI ((tms (even f st v 1000)).getD 0 0)).toNat) ++ uvar (((tms (even f st v 1000)).getD 1 0 - (tms (even f st v 1000)).getD 0 0) % 18446744073709551616).toNat, 0) = _
      rw [hlt, even_t f st v (by omega), even_t f st v (by omega), show f + ((0 : Nat) : Int) * st = f by simp, show f + ((1 : Nat) : Int) * st - f = st by simp; omega]
    rw [e, bitCap0]
    have h1 := uvar_len64 (v := (foldI f).toNat) (by have := foldI_range (v := f) (by omega) (by omega); omega)
    have h2 := uvar_len64 (v := (st % 18446744073709551616).toNat) (by omega)
    simp only [List.length_append]
    omega
  have v2 : 0 ≤ bitCap (vS (vls (even f st v 1000)) 1).q ∧ bitCap (vS (vls (even f st v 1000)) 1).q ≤ 16 + 72 := by
    have e : vS (vls (even f st v 1000)) 0 = ⟨(uvar 1000, 0), (0, 0), 0⟩ := by
      show VS.mk (uvar (vls (even f st v 1000)).length, 0) (0, 0) 0 = _
      rw [hlv]
    have hq : (vS (vls (even f st v 1000)) 1).q = vput ⟨(uvar 1000, 0), (0, 0), 0⟩ (0, v) := by
      show vput (vS (vls (even f st v 1000)) 0) ((vls (even f st v 1000)).getD 0 (0, 0)) = _
      rw [e, even_v f st v (by omega)]
    rw [hq]
    have hok : WOk (uvar 1000) 0 := by have := WOk.nil.app (uvar_byte 1000); simpa using this
    have hc0 : bitCap (uvar 1000, 0) = 8 * ((uvar 1000).length : Int) := bitCap0 _
    unfold vput
    split
    · have c1 : bitCap (pushBits 0 1 (uvar 1000, 0)) = bitCap (uvar 1000, 0) + ((1 : Nat) : Int) := pushBits_cap 0 1 hok
      show 0 ≤ bitCap (pushBits 0 1 (uvar 1000, 0)) ∧ bitCap (pushBits 0 1 (uvar 1000, 0)) ≤ 16 + 72
      omega
    · rw [if_pos rfl]
      have hz := zrange v 0
      have h64 := vsize_64 hz.1 hz.2
      show 0 ≤ bitCap (pushBits (foldI (IntKind.i64.wrap (v - 0))) (vsize (foldI (IntKind.i64.wrap (v - 0)))) (pushBits ((vsize (foldI (IntKind.i64.wrap (v - 0))) : Int) - 1) 6 (pushBits 2 2 (uvar 1000, 0)))) ∧
        bitCap (pushBits (foldI (IntKind.i64.wrap (v - 0))) (vsize (foldI (IntKind.i64.wrap (v - 0)))) (pushBits ((vsize (foldI (IntKind.i64.wrap (v - 0))) : Int) - 1) 6 (pushBits 2 2 (uvar 1000, 0)))) ≤ 16 + 72
      generalize foldI (IntKind.i64.wrap (v - 0)) = z at hz h64
      have c1 := pushBits_cap 2 2 hok
      have k1 := pushBits_ok 2 2 (uvar 1000, 0) hok
      have c2 : bitCap (pushBits ((vsize z : Int) - 1) 6 (pushBits 2 2 (uvar 1000, 0))) = bitCap (pushBits 2 2 (uvar 1000, 0)) + ((6 : Nat) : Int) := pushBits_cap ((vsize z : Int) - 1) 6 k1
      have k2 := pushBits_ok ((vsize z : Int) - 1) 6 _ k1
      have c3 : bitCap (pushBits z (vsize z) (pushBits ((vsize z : Int) - 1) 6 (pushBits 2 2 (uvar 1000, 0)))) = bitCap (pushBits ((vsize z : Int) - 1) 6 (pushBits 2 2 (uvar 1000, 0))) + ((vsize z : Nat) : Int) := pushBits_cap z (vsize z) k2
      omega
  have hL : (even f st v 1000).length = 1000 := even_len _ _ _ _
  have e : (pOut (even f st v 1000)).length = (uvar (tW (tms (even f st v 1000)) 1000).1.length).length + (tW (tms (even f st v 1000)) 1000).1.length + ((uvar (vS (vls (even f st v 1000)) 1000).q.1.length).length + (vS (vls (even f st v 1000)) 1000).q.1.length) := by
    simp only [pOut, rawB, List.length_append, hL]
  rw [e]
  have ht : bitCap (tW (tms (even f st v 1000)) 1000) = bitCap (tW (tms (even f st v 1000)) 2) + 998 := ht
  have hv : bitCap (vS (vls (even f st v 1000)) 1000).q = bitCap (vS (vls (even f st v 1000)) 1).q + 999 := hv
  have w1 := uvar_len 1 (tW (tms (even f st v 1000)) 1000).1.length (by omega)
  have w2 := uvar_len 1 (vS (vls (even f st v 1000)) 1000).q.1.length (by omega)
  omega

end Go.Proofs.Ytmgiichlccdcfaa
