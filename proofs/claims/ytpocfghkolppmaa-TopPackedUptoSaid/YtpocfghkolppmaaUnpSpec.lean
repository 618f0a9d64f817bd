/- What a Reader makes of bytes, taken as samples: what is taken is packed so; what was packed is taken; cut it is not. -/
import Derived.Test.YtpocfghkolppmaaBackV
import Derived.Test.YtpocfghkolppmaaOnlyLib
import Derived.Test.YtpocfghkolppmaaUnpDef
set_option linter.unusedVariables false
set_option linter.unusedSimpArgs false
set_option maxRecDepth 100000
namespace Go.Proofs.Ytpocfghkolppmaa
open Go

/-- what is taken is packed so. -/
theorem unpack_raw {b : List Int} (hb : ∀ z ∈ b, 0 ≤ z ∧ z < 256) (hl : b.length ≤ 140737488355328) (hd : rDone (kS2 b) = none) : rawB (kX b) ++ rawB (kY b) = b := by
  have h0 : InStep b ⟨b, 0, 0, none⟩ [] 0 := fun _ => ⟨rfl, ⟨Nat.zero_le _, fun i hi => by simp at hi, fun h => absurd rfl h⟩⟩
  have h1 : InStep b (kS1 b) ([] ++ rawB (kX b)) 0 := (load_step hb WOk.nil h0).1
  have k1 : WOk ([] ++ rawB (kX b)) 0 := WOk.nil.app (fun z hz => (List.mem_append.1 hz).elim (uvar_byte _ z) ((kX_ok hb hl).1 z))
  have h2 : InStep b (kS2 b) (([] ++ rawB (kX b)) ++ rawB (kY b)) 0 := (load_step hb k1 h1).1
  have k2 : WOk (([] ++ rawB (kX b)) ++ rawB (kY b)) 0 := k1.app (fun z hz => (List.mem_append.1 hz).elim (uvar_byte _ z) ((kY_ok hb hl).1 z))
  have := done_all hb k2 h2 hd
  simpa using this
theorem unpack_only {b : List Int} (hb : ∀ z ∈ b, 0 ≤ z ∧ z < 256) (hl : b.length ≤ 140737488355328) (h : uPe b = none) : pErr (uPl b) = none ∧ pOut (uPl b) = b ∧ (∀ s ∈ uPl b, SOk s) ∧ (uPl b).length ≤ 1048576 := by
  obtain ⟨h1, h2, h3, h4, h5, h6⟩ := uPe_none h
  obtain ⟨t1, t2⟩ := zip_tms h6
  have ht : tms (uPl b) = (uT (kX b)).l := t1
  have hv : vls (uPl b) = (uV (kY b)).l := t2
  have hlen : (uPl b).length = (uT (kX b)).l.length := zip_len h6
  have hx := kX_ok hb hl
  have hy := kY_ok hb hl
  refine ⟨?_, ?_, ?_, ?_⟩
  · rw [pErr_v (by rw [ht]; exact h3.1), hv]; exact h5.1
  · unfold pOut
    rw [ht, hv, hlen, h3.2, h6, h5.2]
    exact unpack_raw hb hl h1
  · intro s hs
    have hs' : s ∈ (uT (kX b)).l.zip (uV (kY b)).l := hs
    exact ⟨(uT_ok hx.1 (by omega)).l s.1 (List.of_mem_zip (a := s.1) (b := s.2) hs').1, (uV_ok hy.1 (by omega)).l s.2 (List.of_mem_zip (a := s.1) (b := s.2) hs').2⟩
  · rw [hlen]; exact uT_len _

/-! ### what was packed is taken -/

theorem rLoad_rs' {zs xs Z : List Int} {b : Nat} {most : Int} (hm : (xs.length : Int) ≤ most) (hmm : most < 9223372036854775808) (hok : WOk zs b) (h : Ext (zs ++ (uvar xs.length ++ xs)) 0 Z) :
    rLoad most (rs Z zs b) = (rs Z (zs ++ (uvar xs.length ++ xs)) 0, xs) := by
  have h1 := h.app
  have hs := (h1.whole hok).2.1
  have hl := h.len
  simp only [List.length_append] at hl
  have hlim : rLim most = most := by unfold rLim; split <;> omega
  have hn := rNumber_rs (most := most) (above := 6) (by omega) hok h1 hm
  have hN : rLoadN most (rs Z zs b) = (xs.length : Nat) := by unfold rLoadN; rw [hlim, hn]
  have hS : rLoadS most (rs Z zs b) = rs Z (zs ++ uvar xs.length) 0 := by
    unfold rLoadS
    rw [hN, hlim, hn]
    simp only
    unfold rLong
    rw [if_neg (by omega)]
    unfold rShort
    rw [if_neg]
    simp only [rs, List.length_append]
    omega
  have hok1 : WOk (zs ++ uvar xs.length) 0 := hok.app (uvar_byte _)
  have h2 : Ext ((zs ++ uvar xs.length) ++ xs) 0 Z := by rw [List.append_assoc]; exact h
  unfold rLoad
  rw [rBegin_rs hok hs, if_pos rfl, hS, hN, if_neg (by simp [rs]), Int.toNat_natCast, rTake_rs hok1 h2, List.append_assoc]
theorem dput_cap (d : Int) {s : List Int × Nat} (h : WOk s.1 s.2) : bitCap (dput d s) ≤ bitCap s + 68 := by
  have one : ∀ (v : Int) (k : Nat), bitCap (pushBits v k s) = bitCap s + k := fun v k => pushBits_cap v k h
  have two : ∀ (v u : Int) (k m : Nat), bitCap (pushBits v k (pushBits u m s)) = bitCap s + m + k := fun v u k m => by
    have h1 : bitCap (pushBits v k (pushBits u m s)) = bitCap (pushBits u m s) + k := pushBits_cap v k (pushBits_ok u m s h)
    rw [h1, one]
  unfold dput
  split
  · rw [one]; omega
  split
  · rw [two]; omega
  split
  · rw [two]; omega
  split
  · rw [two]; omega
  · rw [two]; omega
theorem vput_cap (s : VS) (v : Int × Int) (h : WOk s.q.1 s.q.2) : bitCap (vput s v) ≤ bitCap s.q + 72 := by
  have one : ∀ (v : Int) (k : Nat), bitCap (pushBits v k s.q) = bitCap s.q + k := fun v k => pushBits_cap v k h
  unfold vput
  split
  · rw [one]; omega
  split
  · have hz := zrange v.2 s.ahead
    have h64 := vsize_64 hz.1 hz.2
    generalize foldI (IntKind.i64.wrap (v.2 - s.ahead)) = z at hz h64 ⊢
    have two : ∀ (v u : Int) (k m : Nat), bitCap (pushBits v k (pushBits u m s.q)) = bitCap s.q + m + k := fun v u k m => by
      have h1 : bitCap (pushBits v k (pushBits u m s.q)) = bitCap (pushBits u m s.q) + k := pushBits_cap v k (pushBits_ok u m s.q h)
      rw [h1, one]
    have k2 := pushBits_ok ((vsize z : Int) - 1) 6 _ (pushBits_ok 2 2 s.q h)
    have h2 := two ((vsize z : Int) - 1) 2 6 2
    generalize pushBits ((vsize z : Int) - 1) 6 (pushBits 2 2 s.q) = q1 at k2 h2 ⊢
    have h1 : bitCap (pushBits z (vsize z) q1) = bitCap q1 + ((vsize z : Nat) : Int) := pushBits_cap z (vsize z) k2
    rw [h1, h2]
    omega
  split
  · rw [one]; omega
  · rw [one]; omega
theorem tW_cap {l : List Int} (hl : l.length ≤ 1048576) (h0 : ∀ z ∈ l, -9223372036854775808 ≤ z ∧ z < 9223372036854775808) : ∀ k, bitCap (tW l k) ≤ 240 + 68 * (k : Int)
  | 0 => by
    have h1 := uvar_len64 (v := l.length) (by omega)
    have h2 : bitCap (tW l 0) = 8 * ((uvar l.length).length : Int) := bitCap0 _
    omega
  | 1 => by
    have h1 := tW_len hl h0 1
    have h1 := uvar_len64 (v := l.length) (by omega)
    have hf := foldI_range (i64_get h0 0).1 (i64_get h0 0).2
    have h3 := uvar_len64 (v := (foldI (l.getD 0 0)).toNat) (by omega)
    have h2 : bitCap (tW l 1) = 8 * ((uvar l.length ++ uvar (foldI (l.getD 0 0)).toNat).length : Int) := bitCap0 _
    rw [List.length_append] at h2
    omega
  | 2 => by
    have h1 := uvar_len64 (v := l.length) (by omega)
    have hf := foldI_range (i64_get h0 0).1 (i64_get h0 0).2
    have h3 := uvar_len64 (v := (foldI (l.getD 0 0)).toNat) (by omega)
    have h4 := uvar_len64 (v := ((l.getD 1 0 - l.getD 0 0) % 18446744073709551616).toNat) (by omega)
    have h2 : bitCap (tW l 2) = 8 * (((uvar l.length ++ uvar (foldI (l.getD 0 0)).toNat) ++ uvar ((l.getD 1 0 - l.getD 0 0) % 18446744073709551616).toNat).length : Int) := bitCap0 _
    rw [List.length_append, List.length_append] at h2
    omega
  | k + 3 => by
    have ih := tW_cap hl h0 (k + 2)
    have h1 : bitCap (tW l (k + 3)) ≤ bitCap (tW l (k + 2)) + 68 := dput_cap _ (tW_ok l (k + 2))
    omega
theorem vS_cap {l : List (Int × Int)} (hl : l.length ≤ 1048576) : ∀ k, bitCap (vS l k).q ≤ 80 + 72 * (k : Int)
  | 0 => by
    have h1 := uvar_len64 (v := l.length) (by omega)
    have h2 : bitCap (vS l 0).q = 8 * ((uvar l.length).length : Int) := bitCap0 _
    omega
  | k + 1 => by
    have ih := vS_cap hl k
    have h1 : bitCap (vS l (k + 1)).q ≤ bitCap (vS l k).q + 72 := vput_cap _ _ (vS_ok l k)
    omega
/-- what was packed is taken, and comes back. -/
theorem unpack_back {l : List (Int × Int × Int)} (h0 : ∀ s ∈ l, SOk s) (he : pErr l = none) : uPe (pOut l) = none ∧ uPl (pOut l) = l := by
  obtain ⟨ht, hv⟩ := pErr_none he
  have hn : l.length ≤ 1048576 := by have := tErr_len ht; rwa [tms_len] at this
  have hnt : (tms l).length = l.length := tms_len l
  have hnv : (vls l).length = l.length := vls_len l
  have hX := tW_cap (l := tms l) (by omega) (sok_tms h0) l.length
  have hY := vS_cap (l := vls l) (by omega) l.length
  have hXl := bitCap_len (tW_ok (tms l) l.length)
  have hYl := bitCap_len (vS_ok (vls l) l.length)
  have gT := times_good ht (by omega) (sok_tms h0)
  have dT := times_done (l := tms l) (by omega) (sok_tms h0)
  obtain ⟨dV, gV, lV⟩ := values_good hv (sok_vls h0)
  rw [hnt] at gT dT
  rw [hnv] at dV gV lV
  have hp : pOut l = rawB (tW (tms l) l.length).1 ++ rawB (vS (vls l) l.length).q.1 := rfl
  generalize hA : (tW (tms l) l.length).1 = X at *
  generalize hB : (vS (vls l) l.length).q.1 = Y at *
  have bX : ∀ z ∈ X, 0 ≤ z ∧ z < 256 := by rw [← hA]; exact (tW_ok (tms l) l.length).2.1
  have bY : ∀ z ∈ Y, 0 ≤ z ∧ z < 256 := by rw [← hB]; exact (vS_ok (vls l) l.length).2.1
  have k1 : WOk ([] ++ (uvar X.length ++ X)) 0 := WOk.nil.app (fun z hz => (List.mem_append.1 hz).elim (uvar_byte _ z) (bX z))
  have k2 : WOk (([] ++ (uvar X.length ++ X)) ++ (uvar Y.length ++ Y)) 0 := k1.app (fun z hz => (List.mem_append.1 hz).elim (uvar_byte _ z) (bY z))
  have hpe : pOut l = ([] ++ (uvar X.length ++ X)) ++ (uvar Y.length ++ Y) := by rw [hp]; simp [rawB]
  have e2 : Ext (([] ++ (uvar X.length ++ X)) ++ (uvar Y.length ++ Y)) 0 (pOut l) := by rw [hpe]; exact Ext.refl _ _
  have e1 : Ext ([] ++ (uvar X.length ++ X)) 0 (pOut l) := e2.whole k1 |>.1
  have r1 : rLoad 67108864 ⟨pOut l, 0, 0, none⟩ = (rs (pOut l) ([] ++ (uvar X.length ++ X)) 0, X) := rLoad_rs' (by omega) (by omega) WOk.nil e1
  have r2 : rLoad 67108864 (rs (pOut l) ([] ++ (uvar X.length ++ X)) 0) = (rs (pOut l) (([] ++ (uvar X.length ++ X)) ++ (uvar Y.length ++ Y)) 0, Y) := rLoad_rs' (by omega) (by omega) k1 e2
  have x1 : kX (pOut l) = X := by unfold kX; rw [r1]
  have s1 : kS1 (pOut l) = rs (pOut l) ([] ++ (uvar X.length ++ X)) 0 := by unfold kS1; rw [r1]
  have y1 : kY (pOut l) = Y := by unfold kY; rw [s1, r2]
  have s2 : kS2 (pOut l) = rs (pOut l) (([] ++ (uvar X.length ++ X)) ++ (uvar Y.length ++ Y)) 0 := by unfold kS2; rw [s1, r2]
  have d2 : rDone (kS2 (pOut l)) = none := by
    rw [s2, hpe]; exact done_rs k2
  refine ⟨uPe_ok d2 (by rw [x1]; exact dT) (by rw [x1]; exact gT.1) (by rw [y1]; exact dV) (by rw [y1]; exact gV) (by rw [x1, y1, gT.2, lV]; omega), ?_⟩
  unfold uPl
  rw [x1, y1, gT.2, lV, tms_vls]

/-! ### cut it is taken no more -/

theorem raw_cancel {x p X q : List Int} (hx : x.length < 18446744073709551616) (hX : X.length < 18446744073709551616) (h : rawB x ++ p = rawB X ++ q) : x = X ∧ p = q := by
  unfold rawB at h
  rw [List.append_assoc, List.append_assoc] at h
  have h1 := scan_uvar0 hx 0 (x ++ p)
  have h2 := scan_uvar0 hX 0 (X ++ q)
  rw [h, h2] at h1
  injection h1 with h1
  injection h1 with h1 h3
  have hlen : x.length = X.length := by omega
  rw [hlen] at h
  have h4 := List.append_cancel_left h
  exact List.append_inj h4 hlen
theorem unpack_cut {l : List (Int × Int × Int)} (h0 : ∀ s ∈ l, SOk s) (he : pErr l = none) {n : Nat} (hn : n < (pOut l).length) : uPe ((pOut l).take n) ≠ none := by
  intro hu
  obtain ⟨ht, hv⟩ := pErr_none he
  have hln : l.length ≤ 1048576 := by have := tErr_len ht; rwa [tms_len] at this
  have hpl := pOut_len hln h0
  have bX := (tW_ok (tms l) l.length).2.1
  have bY := (vS_ok (vls l) l.length).2.1
  have hb : ∀ z ∈ pOut l, 0 ≤ z ∧ z < 256 := by
    intro z hz
    rcases List.mem_append.1 hz with hz | hz
    · exact (List.mem_append.1 hz).elim (uvar_byte _ z) (bX z)
    · exact (List.mem_append.1 hz).elim (uvar_byte _ z) (bY z)
  have hbt : ∀ z ∈ (pOut l).take n, 0 ≤ z ∧ z < 256 := fun z hz => hb z (List.mem_of_mem_take hz)
  have htl : ((pOut l).take n).length = n := by rw [List.length_take]; omega
  have hraw := unpack_raw hbt (by omega) (uPe_none hu).1
  have hx := kX_ok hbt (by omega)
  have hy := kY_ok hbt (by omega)
  generalize kX ((pOut l).take n) = x at hraw hx
  generalize kY ((pOut l).take n) = y at hraw hy
  have hcat : rawB x ++ (rawB y ++ (pOut l).drop n) = rawB (tW (tms l) l.length).1 ++ (rawB (vS (vls l) l.length).q.1 ++ []) := by
    rw [← List.append_assoc, hraw, List.take_append_drop, List.append_nil]; rfl
  have hp : (pOut l).length = (rawB (tW (tms l) l.length).1).length + (rawB (vS (vls l) l.length).q.1).length := by unfold pOut; rw [List.length_append]
  simp only [rawB, List.length_append] at hp
  obtain ⟨_, h2⟩ := raw_cancel (by omega) (by omega) hcat
  obtain ⟨_, h3⟩ := raw_cancel (by omega) (by omega) h2
  have := congrArg List.length h3
  rw [List.length_drop, List.length_nil] at this
  omega

end Go.Proofs.Ytpocfghkolppmaa
