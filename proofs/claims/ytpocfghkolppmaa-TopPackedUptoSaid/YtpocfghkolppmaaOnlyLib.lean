/- What is read was written so: a Reader beside a Writer's bytes, in plain terms. -/
import Derived.Test.YtpocfghkolppmaaBackLib
import Derived.Test.YtpocfghkolppmaaRnums
import Derived.Test.YtpocfghkolppmaaLoadLib
set_option linter.unusedVariables false
set_option linter.unusedSimpArgs false
set_option maxRecDepth 100000
namespace Go.Proofs.Ytpocfghkolppmaa
open Go


theorem rFail_fault (s : RS) (e : TypeId × Value) : (rFail s (some e)).fault ≠ none := by
  unfold rFail; split
  · simp
  · assumption
theorem errAt_some (p : Nat) (e : Int) : ∃ x, errAt p e = some x := ⟨_, rfl⟩
theorem rFail_err (s : RS) (p : Nat) (e : Int) : (rFail s (errAt p e)).fault ≠ none := rFail_fault s _
theorem rBegin_fault {s : RS} (h : (rBegin s).2 ≠ true) : (rBegin s).1.fault ≠ none := by
  unfold rBegin at h ⊢
  split
  · rename_i h0; exact h0
  · rename_i h0
    split
    · exact rFail_err _ _ _
    · rename_i h1
      rw [if_neg h0, if_neg h1] at h
      exact absurd rfl h
/-- a whole byte begins, and nothing was left in the one ahead: all bytes so far are those read. -/
theorem rs_whole {zs Z : List Int} {b : Nat} (hok : WOk zs b) (h : Ext zs b Z) (hZ : ∀ z ∈ Z, 0 ≤ z ∧ z < 256) (hr : rRest (rs Z zs b) = false) : ∀ i, i < zs.length → Z.getD i 0 = zs.getD i 0 := by
  intro i hi
  by_cases hb : b = 0
  · exact h.same i (.inr ⟨hb, hi⟩)
  by_cases hl : i + 1 < zs.length
  · exact h.same i (.inl hl)
  obtain rfl : i = zs.length - 1 := by omega
  have hh := h.high hb
  have h8 := hok.1
  have hm := (hok.2.2 hb).2
  have hz := getD_mem_range hZ (zs.length - 1)
  unfold rRest rs at hr
  simp only [show 0 < b by omega, decide_true, Bool.true_and, Bool.not_eq_false', decide_eq_true_eq] at hr
  generalize Z.getD (zs.length - 1) 0 = u at *
  generalize zs.getD (zs.length - 1) 0 = z at *
  have hbs : b = 1 ∨ b = 2 ∨ b = 3 ∨ b = 4 ∨ b = 5 ∨ b = 6 ∨ b = 7 := by omega
  rcases hbs with rfl | rfl | rfl | rfl | rfl | rfl | rfl <;> simp at hh hm hr ⊢ <;> omega
theorem ext_app {zs xs Z : List Int} {b : Nat} (h : Ext zs b Z) (hs : ∀ i, i < zs.length → Z.getD i 0 = zs.getD i 0) (hx : (Z.drop zs.length).take xs.length = xs) (hl : zs.length + xs.length ≤ Z.length) : Ext (zs ++ xs) 0 Z := by
  refine ⟨by rw [List.length_append]; exact hl, fun i hi => ?_, fun h => absurd rfl h⟩
  rw [List.length_append] at hi
  by_cases h1 : i < zs.length
  · rw [hs i h1, getD_app_l h1]
  · have hi2 : i - zs.length < xs.length := by omega
    have e : xs.getD (i - zs.length) 0 = Z.getD i 0 := by
      have e1 : xs.getD (i - zs.length) 0 = ((Z.drop zs.length).take xs.length).getD (i - zs.length) 0 := by rw [hx]
      rw [e1, List.getD_eq_getElem?_getD, List.getElem?_take_of_lt hi2, List.getElem?_drop, ← List.getD_eq_getElem?_getD, show zs.length + (i - zs.length) = i by omega]
    rw [← e, List.getD_eq_getElem?_getD, List.getD_eq_getElem?_getD, List.getElem?_append_right (by omega)]

/-- where the Reader and the Writer stand, as long as nothing is wrong. -/
def InStep (Z : List Int) (s : RS) (zs : List Int) (b : Nat) : Prop := s.fault = none → s = rs Z zs b ∧ Ext zs b Z

theorem take_step {Z : List Int} {s : RS} {zs : List Int} {b n : Nat} (hZ : ∀ z ∈ Z, 0 ≤ z ∧ z < 256) (hok : WOk zs b) (h : InStep Z s zs b) :
    ((rTake n s).1.fault = none → (rTake n s).2.length = n ∧ (rTake n s).1 = rs Z (zs ++ (rTake n s).2) 0 ∧ Ext (zs ++ (rTake n s).2) 0 Z) ∧ ((rTake n s).1.fault ≠ none → (rTake n s).2 = []) := by
  unfold rTake
  by_cases hb : (rBegin s).2 = true
  · obtain ⟨h1, h2, h3⟩ := rBegin_true hb
    obtain ⟨rfl, he⟩ := h h2
    rw [if_pos hb]
    split
    · exact ⟨fun hf => absurd hf (rFail_err _ _ _), fun _ => rfl⟩
    · rename_i hlen
      simp only [rs] at hlen ⊢
      have hl := he.len
      refine ⟨fun _ => ?_, fun hf => absurd rfl hf⟩
      have hx : ((Z.drop zs.length).take n).length = n := by rw [List.length_take, List.length_drop]; omega
      refine ⟨hx, by rw [List.length_append, hx], ext_app he (rs_whole hok he hZ h3) (by rw [hx]) (by omega)⟩
  · rw [if_neg hb]
    exact ⟨fun hf => absurd hf (rBegin_fault hb), fun _ => rfl⟩

theorem number_step {Z : List Int} {s : RS} {zs : List Int} {b : Nat} {most above : Int} (hZ : ∀ z ∈ Z, 0 ≤ z ∧ z < 256) (hok : WOk zs b) (h : InStep Z s zs b) :
    ((rNumber most above s).1.fault = none → (rNumber most above s).1 = rs Z (zs ++ uvar (rNumber most above s).2.toNat) 0 ∧ Ext (zs ++ uvar (rNumber most above s).2.toNat) 0 Z ∧ (rNumber most above s).2 ≤ most) ∧
    ((rNumber most above s).1.fault ≠ none → (rNumber most above s).2 = 0) := by
  unfold rNumber
  by_cases hb : (rBegin s).2 = true
  · obtain ⟨h1, h2, h3⟩ := rBegin_true hb
    obtain ⟨rfl, he⟩ := h h2
    rw [if_pos hb]
    split
    · exact ⟨fun hf => absurd hf (rFail_err _ _ _), fun _ => rfl⟩
    · rename_i v i hsc
      split
      · exact ⟨fun hf => absurd hf (rFail_err _ _ _), fun _ => rfl⟩
      · rename_i hm
        simp only [rs] at hsc ⊢
        refine ⟨fun _ => ?_, fun hf => absurd rfl hf⟩
        have hp := scan_pos _ _ _ _ hsc
        obtain ⟨u, hu, ht, _⟩ := scan_back _ _ _ _ (fun z hz => hZ z (List.mem_of_mem_drop hz)) hsc
        have hv : v.toNat = u := by rw [hu]; simp
        rw [List.length_drop] at hp
        have hl := he.len
        have hx : (uvar u).length = i - zs.length := by rw [← ht, List.length_take, List.length_drop]; omega
        rw [hv]
        refine ⟨by rw [List.length_append, hx]; congr 1; omega, ext_app he (rs_whole hok he hZ h3) (by rw [hx, ht]) (by omega), by omega⟩
  · rw [if_neg hb]
    exact ⟨fun hf => absurd hf (rBegin_fault hb), fun _ => rfl⟩

theorem load_step {Z : List Int} {s : RS} {zs : List Int} {b : Nat} {most : Int} (hZ : ∀ z ∈ Z, 0 ≤ z ∧ z < 256) (hok : WOk zs b) (h : InStep Z s zs b) :
    ((rLoad most s).1.fault = none → (rLoad most s).1 = rs Z (zs ++ (uvar (rLoad most s).2.length ++ (rLoad most s).2)) 0 ∧ Ext (zs ++ (uvar (rLoad most s).2.length ++ (rLoad most s).2)) 0 Z) ∧
    ((rLoad most s).1.fault ≠ none → (rLoad most s).2 = []) := by
  unfold rLoad
  by_cases hb : (rBegin s).2 = true
  · rw [if_pos hb]
    by_cases hf : (rLoadS most s).fault ≠ none
    · rw [if_pos hf]
      exact ⟨fun h => absurd h hf, fun _ => rfl⟩
    · rw [if_neg hf]
      have hn := number_step (most := rLim most) (above := 6) hZ hok h
      have hf : (rLoadS most s).fault = none := by simpa using hf
      have hS : rLoadS most s = (rNumber (rLim most) 6 s).1 := by
        unfold rLoadS rShort at hf ⊢
        split
        · rename_i hc; rw [if_pos hc] at hf; exact absurd hf (rFail_err _ _ _)
        · rename_i hc
          rw [if_neg hc] at hf
          unfold rLong at hf ⊢
          split
          · rename_i hd; rw [if_pos hd] at hf; exact absurd hf (rFail_err _ _ _)
          · rfl
      rw [hS] at hf ⊢
      obtain ⟨e1, e2, e3⟩ := hn.1 hf
      have hok1 : WOk (zs ++ uvar (rNumber (rLim most) 6 s).2.toNat) 0 := hok.app (uvar_byte _)
      have ht := take_step (n := (rNumber (rLim most) 6 s).2.toNat) hZ hok1 (s := (rNumber (rLim most) 6 s).1) (fun _ => ⟨e1, e2⟩)
      show ((rTake (rNumber (rLim most) 6 s).2.toNat (rNumber (rLim most) 6 s).1).1.fault = none → _) ∧ _
      refine ⟨fun hf2 => ?_, ht.2⟩
      obtain ⟨a1, a2, a3⟩ := ht.1 hf2
      rw [List.append_assoc] at a2 a3
      have hN : rLoadN most s = (rNumber (rLim most) 6 s).2 := rfl
      rw [hN, a1]
      exact ⟨a2, a3⟩
  · rw [if_neg hb]
    exact ⟨fun hf => absurd hf (rBegin_fault hb), fun _ => rfl⟩

theorem bit_step {zs Z : List Int} {b : Nat} (hZ : ∀ z ∈ Z, 0 ≤ z ∧ z < 256) (hok : WOk zs b) (h : Ext zs b Z) (hroom : 0 < bitsOpen (rs Z zs b) + 8 * (Z.length - zs.length)) :
    bitStep (rs Z zs b) = rs Z (pushBit zs b (bitAt (rs Z zs b))).1 (pushBit zs b (bitAt (rs Z zs b))).2 ∧ Ext (pushBit zs b (bitAt (rs Z zs b))).1 (pushBit zs b (bitAt (rs Z zs b))).2 Z := by
  have h8 := hok.1
  have hne := bitPad_ne zs b hok
  have hlast := bitPad_last zs b hok
  have hpl : (bitPad zs b).length = bitPos (rs Z zs b) := by unfold bitPad bitPos rs; split <;> simp
  have hl0 : 0 < (bitPad zs b).length := List.length_pos_iff.2 hne
  have hlen : ∀ x, (pushBit zs b x).1.length = (bitPad zs b).length := fun x => by simp [pushBit]
  have hl := h.len
  have hbZ : (bitPad zs b).length ≤ Z.length := by
    unfold bitsOpen rs at hroom
    unfold bitPad
    simp only at hroom
    split
    · rename_i hb; rw [if_neg (by omega)] at hroom; simp; omega
    · exact hl
  have hbs : b = 0 ∨ b = 1 ∨ b = 2 ∨ b = 3 ∨ b = 4 ∨ b = 5 ∨ b = 6 ∨ b = 7 := by omega
  have hu := getD_mem_range hZ ((bitPad zs b).length - 1)
  have hbyte := getD_mem_range (bitPad_byte zs b hok) ((bitPad zs b).length - 1)
  -- the upper b bits of the byte are those read so far
  have hup : Z.getD ((bitPad zs b).length - 1) 0 / 2 ^ (8 - b) = (bitPad zs b).getD ((bitPad zs b).length - 1) 0 / 2 ^ (8 - b) := by
    by_cases hb : b = 0
    · subst hb
      generalize Z.getD ((bitPad zs 0).length - 1) 0 = u at *
      generalize (bitPad zs 0).getD ((bitPad zs 0).length - 1) 0 = z at *
      simp at hlast ⊢
      omega
    · have e : bitPad zs b = zs := if_neg hb
      rw [e]
      exact h.high hb
  have hx : bitAt (rs Z zs b) = Z.getD ((bitPad zs b).length - 1) 0 / 2 ^ (7 - b) % 2 := by unfold bitAt; rw [← hpl]; rfl
  refine ⟨?_, ?_, ?_, ?_⟩
  · unfold bitStep
    rw [← hpl, ← hlen]
    rfl
  · rw [hlen]; exact hbZ
  · intro i hi
    rw [hlen] at hi
    have hval : (pushBit zs b (bitAt (rs Z zs b))).1.getD i 0 = if i = (bitPad zs b).length - 1 then (bitPad zs b).getD ((bitPad zs b).length - 1) 0 + bitAt (rs Z zs b) * 2 ^ (7 - b) else (bitPad zs b).getD i 0 := by
      simp only [pushBit]
      split
      · rename_i e; subst e; rw [List.getD_eq_getElem?_getD, List.getElem?_set_self (by omega)]; rfl
      · rw [List.getD_eq_getElem?_getD, List.getElem?_set_ne (by omega), ← List.getD_eq_getElem?_getD]
    rw [hval]
    split
    · rename_i e
      subst e
      have h7 : b = 7 := by
        rcases hi with hi | hi
        · omega
        · have := hi.1; simp only [pushBit] at this; omega
      subst h7
      rw [hx]
      generalize Z.getD ((bitPad zs 7).length - 1) 0 = u at *
      generalize (bitPad zs 7).getD ((bitPad zs 7).length - 1) 0 = z at *
      simp at hup hlast ⊢
      omega
    · rename_i e
      have hi2 : i + 1 < (bitPad zs b).length := by rcases hi with hi | hi <;> omega
      unfold bitPad at hi2 ⊢
      split
      · rename_i hb
        rw [if_pos hb] at hi2
        simp at hi2
        rw [getD_app_l hi2]
        exact h.same i (.inr ⟨hb, hi2⟩)
      · rename_i hb
        rw [if_neg hb] at hi2
        exact h.same i (.inl hi2)
  · intro hb7
    have h7 : b ≠ 7 := fun e => hb7 (by simp [pushBit, e])
    have e8 : (pushBit zs b (bitAt (rs Z zs b))).2 = b + 1 := by simp only [pushBit]; omega
    rw [hlen, e8]
    have hval : (pushBit zs b (bitAt (rs Z zs b))).1.getD ((bitPad zs b).length - 1) 0 = (bitPad zs b).getD ((bitPad zs b).length - 1) 0 + bitAt (rs Z zs b) * 2 ^ (7 - b) := by
      simp only [pushBit]
      rw [List.getD_eq_getElem?_getD, List.getElem?_set_self (by omega)]; rfl
    rw [hval, hx]
    generalize Z.getD ((bitPad zs b).length - 1) 0 = u at *
    generalize (bitPad zs b).getD ((bitPad zs b).length - 1) 0 = z at *
    rcases hbs with rfl | rfl | rfl | rfl | rfl | rfl | rfl | rfl <;> simp at hup hlast h7 ⊢ <;> omega

theorem bitsN_step {Z : List Int} (hZ : ∀ z ∈ Z, 0 ≤ z ∧ z < 256) (hZl : Z.length ≤ 140737488355328) : ∀ (k : Nat) {zs : List Int} {b : Nat} (a : Int), WOk zs b → Ext zs b Z → k ≤ bitsOpen (rs Z zs b) + 8 * (Z.length - zs.length) →
    ∃ r, 0 ≤ r ∧ r < 2 ^ k ∧ (rBitsN k (rs Z zs b) a).2 = a * 2 ^ k + r ∧ ∀ c : Int,
      (rBitsN k (rs Z zs b) a).1 = rs Z (pushBits (c * 2 ^ k + r) k (zs, b)).1 (pushBits (c * 2 ^ k + r) k (zs, b)).2 ∧ Ext (pushBits (c * 2 ^ k + r) k (zs, b)).1 (pushBits (c * 2 ^ k + r) k (zs, b)).2 Z
  | 0, zs, b, a, hok, h, _ => ⟨0, by omega, by simp, by simp [rBitsN], fun c => ⟨rfl, h⟩⟩
  | k + 1, zs, b, a, hok, h, hk => by
    obtain ⟨e1, e2⟩ := bit_step hZ hok h (by omega)
    have hx := bitAt_01 (rs Z zs b)
    have hok2 := pushBit_ok hok hx
    have hroom := (bitStep_ok (rs_ok (w := default) hok h hZ hZl) (by simp only [rs] at hk ⊢; omega)).2.1
    rw [e1] at hroom
    generalize hxx : bitAt (rs Z zs b) = x at *
    obtain ⟨r, r0, r1, hv, hc⟩ := bitsN_step hZ hZl k (a * 2 + x) hok2 e2 (by simp only [rs] at hroom hk ⊢; omega)
    have hpp := pow_pos2 k
    have hp2 : (2 : Int) ^ (k + 1) = 2 * 2 ^ k := by rw [Int.pow_succ, Int.mul_comm]
    refine ⟨x * 2 ^ k + r, ?_, ?_, ?_, fun c => ?_⟩
    · rcases hx with rfl | rfl <;> simp <;> omega
    · rw [hp2]; rcases hx with rfl | rfl <;> simp <;> omega
    · rw [rBitsN, hxx, e1, hv, hp2]
      generalize (2 : Int) ^ k = q
      rw [Int.add_mul, Int.mul_assoc a 2 q]; omega
    · have hdiv : (c * 2 ^ (k + 1) + (x * 2 ^ k + r)) / 2 ^ k % 2 = x := by
        have e : c * 2 ^ (k + 1) + (x * 2 ^ k + r) = r + (2 * c + x) * 2 ^ k := by
          rw [hp2]
          generalize (2 : Int) ^ k = q
          rw [Int.add_mul, Int.mul_comm 2 c, ← Int.mul_assoc c 2 q]; omega
        rw [e, Int.add_mul_ediv_right _ _ (by omega), Int.ediv_eq_zero_of_lt r0 r1]
        rcases hx with rfl | rfl <;> omega
      have hcc := hc (c * 2 + x)
      have e : (c * 2 + x) * 2 ^ k + r = c * 2 ^ (k + 1) + (x * 2 ^ k + r) := by
        rw [hp2]
        generalize (2 : Int) ^ k = q
        rw [Int.add_mul, Int.mul_assoc c 2 q]; omega
      rw [e] at hcc
      have e3 : pushBits (c * 2 ^ (k + 1) + (x * 2 ^ k + r)) (k + 1) (zs, b) = pushBits (c * 2 ^ (k + 1) + (x * 2 ^ k + r)) k (pushBit zs b x) := by
        rw [pushBits, hdiv]
      rw [e3, rBitsN, hxx, e1]
      exact hcc

theorem bits_step {Z : List Int} {s : RS} {zs : List Int} {b : Nat} {n : Int} (hZ : ∀ z ∈ Z, 0 ≤ z ∧ z < 256) (hZl : Z.length ≤ 140737488355328) (hok : WOk zs b) (h : InStep Z s zs b) :
    ((rBits n s).1.fault = none → (rBits n s).1 = rs Z (pushBits (rBits n s).2 (brought n) (zs, b)).1 (pushBits (rBits n s).2 (brought n) (zs, b)).2 ∧ Ext (pushBits (rBits n s).2 (brought n) (zs, b)).1 (pushBits (rBits n s).2 (brought n) (zs, b)).2 Z) ∧
    ((rBits n s).1.fault ≠ none → (rBits n s).2 = 0) := by
  unfold rBits
  by_cases hf : s.fault ≠ none
  · rw [if_pos hf]
    exact ⟨fun h => absurd h hf, fun _ => rfl⟩
  · rw [if_neg hf]
    obtain ⟨rfl, he⟩ := h (by simpa using hf)
    split
    · exact ⟨fun hf => absurd hf (rFail_err _ _ _), fun _ => rfl⟩
    · rename_i hr
      refine ⟨fun _ => ?_, fun hf => absurd (rBitsN_xs _ _ _).2 hf⟩
      obtain ⟨r, r0, r1, hv, hc⟩ := bitsN_step hZ hZl (brought n) (zs := zs) (b := b) 0 hok he (by simp only [rs] at hr ⊢; omega)
      have := hc 0
      rw [Int.zero_mul, Int.zero_add] at this hv
      rw [hv]
      exact this
theorem be32_of {l : List Int} (hl : l.length = 4) (hb : ∀ z ∈ l, 0 ≤ z ∧ z < 256) : be32 (beNat l) = l := by
  match l, hl with
  | [a, b, c, d], _ =>
    have ha := hb a (by simp)
    have hb' := hb b (by simp)
    have hc := hb c (by simp)
    have hd := hb d (by simp)
    simp only [beNat, List.foldl_cons, List.foldl_nil, be32, List.cons.injEq, and_true]
    refine ⟨?_, ?_, ?_, ?_⟩ <;> omega
theorem foldI_unfoldI {v : Int} (h0 : 0 ≤ v) : foldI (unfoldI v) = v := by unfold foldI unfoldI; split <;> split <;> omega
/-- a Reader that is through, with no fault: what was written is all there was. -/
theorem done_all {zs Z : List Int} {s : RS} {b : Nat} (hZ : ∀ z ∈ Z, 0 ≤ z ∧ z < 256) (hok : WOk zs b) (h : InStep Z s zs b) (hd : rDone s = none) : zs = Z := by
  unfold rDone at hd
  split at hd
  · rename_i hf; exact absurd hd hf
  rename_i hf
  split at hd
  · cases hd
  rename_i hr
  split at hd
  · cases hd
  rename_i hl
  obtain ⟨rfl, he⟩ := h (by simpa using hf)
  have hw := rs_whole hok he hZ (by simpa using hr)
  have hlen := he.len
  simp only [rs] at hl
  have hll : zs.length = Z.length := by omega
  apply List.ext_getElem hll
  intro i h1 h2
  have := hw i h1
  rw [List.getD_eq_getElem?_getD, List.getD_eq_getElem?_getD, List.getElem?_eq_getElem h1, List.getElem?_eq_getElem h2] at this
  exact this.symm

end Go.Proofs.Ytpocfghkolppmaa
