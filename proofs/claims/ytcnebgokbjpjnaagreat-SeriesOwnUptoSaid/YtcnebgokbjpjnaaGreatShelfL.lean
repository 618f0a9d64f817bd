/- Rows handed out, each in memory of its own: written over, grown, looked at. -/
import Derived.Test.YtcnebgokbjpjnaaGreatRow
set_option linter.unusedVariables false
set_option linter.unusedSimpArgs false
set_option maxRecDepth 100000
namespace Go.Proofs.YtcnebgokbjpjnaaGreat
open Go

section
variable {P : Program}
theorem appK_l3 {t ty e : TypeId} {size bytes : Nat} (hf : elemFactsB P t e size bytes = true) {w : World} {v : Value} {n : Nat} {xs : List Value} (hown : LRow w e size v n xs)
    {A : Option Addr} {m c : Nat} {news : List Value} (hr : Rd w A m size news) (h1 : ∀ u ∈ news, u.oneCell' = true) (h63 : n + m ≤ maxLen) (hb : (n + m) * bytes ≤ 140737488355328)
    {K : VWK} {tk : Tok K} (h : ∀ A' c' w', LRow w' e size (.slice A' (n + m) c') (n + m) (xs ++ news) → Keep (fpV v) w w' → (∀ k, fpV (.slice A' (n + m) c') k → fpV v k ∨ k = w.heap.size) →
      K (.slice A' (n + m) c') w') : appK P [t, t] ty [v, .slice A m c] w K tk :=
  appK_l hf hown hr h1 h63 hb (fun A' c' w' a b c _ => h A' c' w' a b c)
/-- the front of a row that reads. -/
theorem Rd.fore {w : World} {A : Option Addr} {n m size : Nat} {xs ys : List Value} (h : Rd w A n size (xs ++ ys)) (hl : xs.length = m * size) (hm : m ≤ n) : Rd w A m size xs := by
  refine ⟨hl, fun h0 => ?_⟩
  obtain ⟨ad, hA, hc⟩ := h.2 (by omega)
  refine ⟨ad, hA, fun j u hu => hc j u ?_⟩
  rw [List.getElem?_append_left (List.getElem?_eq_some_iff.1 hu).1]
  exact hu
/-- what is appended to a row leaves the row as it reads. -/
theorem appK_l2 {t ty e : TypeId} {size bytes : Nat} (hf : elemFactsB P t e size bytes = true) {w : World} {v : Value} {n : Nat} {xs : List Value} (hown : LRow w e size v n xs)
    {ad : Addr} {m c : Nat} {news : List Value} (hr : Rd w (some ad) m size news) (hm : 0 < m) (h1 : ∀ u ∈ news, u.oneCell' = true) (h63 : n + m ≤ maxLen) (hb : (n + m) * bytes ≤ 140737488355328)
    {K : VWK} {tk : Tok K} (h : ∀ A' c' w', LRow w' e size (.slice A' (n + m) c') (n + m) (xs ++ news) → Keep (fpV v) w w' → ((∃ A c, v = .slice A n c ∧ A' = A) ∨ (∀ k, fpV (.slice A' (n + m) c') k → w.heap.size ≤ k)) →
      (∀ A c, v = .slice A n c → Rd w' A n size xs) → K (.slice A' (n + m) c') w') : appK P [t, t] ty [v, .slice (some ad) m c] w K tk := by
  obtain ⟨z, ht, ⟨i, hi, hz, hs, hby⟩, hzs, hsz⟩ := elemFacts_of hf
  have hlen : (xs ++ news).length = (n + m) * size := by rw [List.length_append, hown.1, hr.1, Nat.add_mul]
  have hcells : ∀ j u, news[j]? = some u → w.cell? (ad.add j) = some u := by
    obtain ⟨ad', h, hc⟩ := hr.2 hm
    injection h with h
    subst h
    exact hc
  rcases hown.2 with ⟨rfl, rfl⟩ | ⟨g, cap, cur, rfl, hg, hnc, hcm, hcs, htake⟩
  · have hx : xs = [] := List.eq_nil_of_length_eq_zero (by simpa using hown.1)
    subst hx
    refine appK_l3 hf hown hr h1 h63 hb (fun A' c' w' h1 h2 h3 => h A' c' w' h1 h2 (.inr (fun k hk => (h3 k hk).elim (fun q => absurd q (fpV_none k)) (fun q => Nat.le_of_eq q.symm))) (fun A c _ => Rd.nil _ _ _))
  · unfold appK
    subst hs
    subst hby
    by_cases hroom : n + m ≤ cap
    · have hfit : n * i.size + news.length ≤ cur.toArray.size := by
        rw [hr.1, ← Nat.add_mul, List.size_toArray]; exact Nat.le_trans (Nat.mul_le_mul_right _ hroom) hcs
      have hrun := run_append_room (P := P) w t ty e i ht hi g n cap cur.toArray hg ad m c news hr.1 hcells h1 hroom hfit
      have hL : LRow (w.setRow g (cur.take (n * i.size) ++ news ++ cur.drop (n * i.size + news.length)).toArray) e i.size (.slice (some ⟨g, 0, none⟩) (n + m) cap) (n + m) (xs ++ news) := by
        refine ⟨hlen, .inr ⟨g, cap, _, rfl, hg.setRow _, hroom, hcm, ?_, ?_⟩⟩
        · rw [List.size_toArray] at hfit
          simp only [List.length_append, List.length_take, List.length_drop]
          omega
        · rw [htake, ← hlen]
          exact List.take_left
      refine ⟨_, _, hrun, h _ _ _ hL ((Keep.setRow w g _).mono (fun k _ hk => (fpV_some _ _ _ _).2 hk)) (.inl ⟨_, _, rfl, rfl⟩) (fun A c hv => ?_)⟩
      injection hv with hA
      subst hA
      exact Rd.fore (LRow.rd hL) hown.1 (by omega)
    · have holds : ∀ j u, xs[j]? = some u → w.cell? ((⟨g, 0, none⟩ : Addr).add j) = some u := by
        intro j u hu
        rw [add_lit', hg.cell, Nat.zero_add]
        rw [← htake, List.getElem?_take] at hu
        split at hu
        · exact hu
        · cases hu
      have hrun := run_append_grow (P := P) w t ty e i z ht hi hz ⟨g, 0, none⟩ n cap xs hown.1 holds ad m c news hr.1 hcells (by omega) (by simp only [maxLen] at h63; omega) (growslice_fits (by omega) hb)
      refine ⟨_, _, hrun, h _ _ _ ?_ ⟨rfl, rfl, rfl, by simp, fun k hk _ => RowKit.Below.heap_alloc w.drew _ k hk⟩ (.inr (fun k hk => Nat.le_of_eq ((fpV_some _ _ _ _).1 hk).symm)) (fun A c hv => ?_)⟩
      · have := l_new (w := w) (e := e) (size := i.size) (n := n + m) (xs := xs ++ news) (Builtin.zeroCells z.cells (grownCap w (n + m) cap e - (n + m))) (grownCap w (n + m) cap e) hlen (grownCap_ge _ _ _ _) (grownCap_le_maxLen _ _ _ _ h63) (by rw [size_zeroCells, hzs])
        simpa using this
      · rw [hv] at hown
        exact (LRow.rd hown).keep (F := fun _ => False) ⟨rfl, rfl, rfl, by simp, fun k hk _ => RowKit.Below.heap_alloc w.drew _ k hk⟩ (fun _ _ q => q)
end

def slen : Value → Nat
  | .slice _ n _ => n
  | _ => 0
def sptr : Value → Option Addr
  | .slice A _ _ => A
  | _ => none
theorem lr_slen {w : World} {e : TypeId} {size : Nat} {v : Value} {n : Nat} {xs : List Value} (h : LRow w e size v n xs) : slen v = n := by
  obtain ⟨A, c, rfl, _⟩ := LRow.form h; rfl
theorem lr_rd {w : World} {e : TypeId} {size : Nat} {v : Value} {n : Nat} {xs : List Value} (h : LRow w e size v n xs) : Rd w (sptr v) n size xs := by
  obtain ⟨A, c, rfl, _, _⟩ := LRow.form h
  exact LRow.rd h
theorem fp_ptr {v : Value} {k : Nat} (h : fpA (sptr v) k) : fpV v k := by
  cases v with
  | slice A n c => exact (fpV_fpA A n c k).2 h
  | _ => obtain ⟨ad, h1, _⟩ := h; cases h1
/-- n times the same element. -/
def rep (n : Nat) (m : List Value) : List Value := (List.replicate n m).flatten
theorem rep_len (n : Nat) (m : List Value) {size : Nat} (h : m.length = size) : (rep n m).length = n * size := by
  unfold rep
  rw [List.length_flatten]
  simp [h]
theorem rep_succ (n : Nat) (m : List Value) : rep (n + 1) m = rep n m ++ m := by
  unfold rep
  rw [List.replicate_succ', List.flatten_append]
  simp
theorem rep_add (a : Nat) (m : List Value) : ∀ b, rep (a + b) m = rep a m ++ rep b m
  | 0 => by simp [rep]
  | b + 1 => by rw [← Nat.add_assoc, rep_succ, rep_succ, rep_add a m b, List.append_assoc]
theorem rep_get {n : Nat} {m : List Value} {size : Nat} (hm : m.length = size) {k j : Nat} {u : Value} (hk : k < n) (hj : m[j]? = some u) : (rep n m)[k * size + j]? = some u := by
  have hjs : j < size := by rw [← hm]; exact (List.getElem?_eq_some_iff.1 hj).1
  have := flat_get (fun x : List Value => x) (size := size) (List.replicate n m) (fun a ha => by rw [List.eq_of_mem_replicate ha]; exact hm) (k := k) (j := j) (a := m) (by rw [List.getElem?_replicate, if_pos hk]) hjs
  rw [List.flatMap_id'] at this
  exact this.trans hj

/-- rows, each of its own. -/
structure Held (w : World) (e : TypeId) (size bytes : Nat) (vs : List Value) (cont : Nat → List Value) : Prop where
  own : ∀ (i : Nat) (v : Value), vs[i]? = some v → LRow w e size v (slen v) (cont i)
  apart : ∀ (i j : Nat) (v u : Value), vs[i]? = some v → vs[j]? = some u → i ≠ j → ∀ k, fpV v k → ¬ fpV u k
  bound : ∀ (i : Nat) (v : Value), vs[i]? = some v → slen v + 20 ≤ maxLen ∧ (slen v + 20) * bytes ≤ 140737488355328
def fpL (vs : List Value) (k : Nat) : Prop := ∃ v, v ∈ vs ∧ fpV v k
theorem Held.keep {w w' : World} {F : Nat → Prop} {e : TypeId} {size bytes : Nat} {vs : List Value} {cont : Nat → List Value} (h : Held w e size bytes vs cont) (k : Keep F w w') (hF : ∀ i, fpL vs i → ¬ F i) : Held w' e size bytes vs cont :=
  ⟨fun i v hv => LRow.keep (h.own i v hv) k (fun x hx => hF x ⟨v, List.mem_of_getElem? hv, hx⟩), h.apart, h.bound⟩
theorem Held.nil (w : World) (e : TypeId) (size bytes : Nat) (cont : Nat → List Value) : Held w e size bytes [] cont := ⟨fun i v h => by simp at h, fun i j v u h => by simp at h, fun i v h => by simp at h⟩
theorem Held.lt {w : World} {e : TypeId} {size bytes : Nat} {vs : List Value} {cont : Nat → List Value} (h : Held w e size bytes vs cont) : ∀ k, fpL vs k → k < w.heap.size := by
  rintro k ⟨v, hv, hk⟩
  obtain ⟨i, hi⟩ := List.mem_iff_getElem?.1 hv
  exact LRow.lt (h.own i v hi) k hk
/-- one row more, in new memory. -/
theorem Held.snoc {w : World} {e : TypeId} {size bytes : Nat} {vs : List Value} {cont : Nat → List Value} (h : Held w e size bytes vs cont) {v : Value} {n : Nat} {xs : List Value} (ho : LRow w e size v n xs) (hf : ∀ k, fpV v k → ¬ fpL vs k)
    (hb : n + 20 ≤ maxLen ∧ (n + 20) * bytes ≤ 140737488355328) : Held w e size bytes (vs ++ [v]) (fun i => if i = vs.length then xs else cont i) := by
  have hs := lr_slen ho
  have get : ∀ i u, (vs ++ [v])[i]? = some u → (i < vs.length ∧ vs[i]? = some u) ∨ (i = vs.length ∧ u = v) := by
    intro i u hu
    rcases Nat.lt_or_ge i vs.length with hi | hi
    · rw [List.getElem?_append_left hi] at hu; exact .inl ⟨hi, hu⟩
    · rw [List.getElem?_append_right hi] at hu
      have hi0 : i - vs.length = 0 := by
        have := (List.getElem?_eq_some_iff.1 hu).1
        simp at this; omega
      rw [hi0] at hu
      exact .inr ⟨by omega, by simpa using hu.symm⟩
  refine ⟨fun i u hu => ?_, fun i j a b ha hb hij k hk hk' => ?_, fun i u hu => ?_⟩
  · rcases get i u hu with ⟨hi, hu⟩ | ⟨rfl, rfl⟩
    · rw [if_neg (by omega)]; exact h.own i u hu
    · rw [if_pos rfl, hs]; exact ho
  · rcases get i a ha with ⟨hi, ha'⟩ | ⟨hi, ha'⟩ <;> rcases get j b hb with ⟨hj, hb'⟩ | ⟨hj, hb'⟩
    · exact h.apart i j a b ha' hb' hij k hk hk'
    · rw [hb'] at hk'; exact hf k hk' ⟨a, List.mem_of_getElem? ha', hk⟩
    · rw [ha'] at hk; exact hf k hk ⟨b, List.mem_of_getElem? hb', hk'⟩
    · omega
  · rcases get i u hu with ⟨hi, hu⟩ | ⟨rfl, rfl⟩
    · exact h.bound i u hu
    · rw [hs]; exact hb
/-- what one row holds is turned. -/
theorem Held.turn {w w' : World} {e : TypeId} {size bytes : Nat} {vs : List Value} {cont : Nat → List Value} (h : Held w e size bytes vs cont) {i : Nat} {v : Value} (hi : vs[i]? = some v) {xs : List Value} (ho : LRow w' e size v (slen v) xs) (k : Keep (fpV v) w w') :
    Held w' e size bytes vs (fun j => if j = i then xs else cont j) := by
  refine ⟨fun j u hu => ?_, h.apart, h.bound⟩
  by_cases hj : j = i
  · subst hj
    rw [hi] at hu
    injection hu with hu
    subst hu
    rw [if_pos rfl]; exact ho
  · rw [if_neg hj]
    exact LRow.keep (h.own j u hu) k (h.apart j i u v hu hi hj)
theorem Held.congr {w : World} {e : TypeId} {size bytes : Nat} {vs : List Value} {c c' : Nat → List Value} (h : Held w e size bytes vs c) (hc : ∀ i, i < vs.length → c i = c' i) : Held w e size bytes vs c' :=
  ⟨fun i v hv => by rw [← hc i (List.getElem?_eq_some_iff.1 hv).1]; exact h.own i v hv, h.apart, h.bound⟩

/-- an element of a row written over. -/
theorem lr_put {P : Program} {w : World} {e : TypeId} {size : Nat} {g n cap : Nat} {xs : List Value} (h : LRow w e size (.slice (some ⟨g, 0, none⟩) n cap) n xs) {k : Nat} (hk : k < n) {cs : List Value} (hl : cs.length = size) (h1 : ∀ v ∈ cs, v.oneCell' = true)
    {K : WK} {tk : Tok K} (hK : ∀ w', LRow w' e size (.slice (some ⟨g, 0, none⟩) n cap) n (xs.take (k * size) ++ cs ++ xs.drop ((k + 1) * size)) → Keep (fpV (.slice (some ⟨g, 0, none⟩) n cap)) w w' → K w') : aggSt P w ⟨g, k * size, none⟩ cs K tk := by
  rcases h.2 with ⟨hv, _⟩ | ⟨g', cap', cur, hv, hB, hnc, hcm, hcs, htake⟩
  · cases hv
  · simp only [Value.slice.injEq, Option.some.injEq, Addr.mk.injEq, and_true, true_and] at hv
    obtain ⟨rfl, rfl⟩ := hv
    have hks : (k + 1) * size ≤ n * size := Nat.mul_le_mul_right _ hk
    have hns : n * size ≤ cap * size := Nat.mul_le_mul_right _ hnc
    have hk1 : (k + 1) * size = k * size + size := by rw [Nat.succ_mul]
    refine hB.stAgg (by omega) h1 (fun w' hB' hK' => hK w' ⟨?_, .inr ⟨g, cap, _, rfl, hB', hnc, hcm, ?_, ?_⟩⟩ (hK'.mono (fun i _ q => (fpV_some _ _ _ _).2 q)))
    · have hxl := h.1
      simp only [List.length_append, List.length_take, List.length_drop]
      omega
    · simp only [List.length_append, List.length_take, List.length_drop]
      omega
    · have hxl := h.1
      subst htake
      have ha : (cur.take (k * size) ++ cs).length = (k + 1) * size := by
        rw [List.length_append, List.length_take, hl]; omega
      rw [List.take_append, List.take_of_length_le (by rw [ha]; exact hks), ha, List.drop_take, List.take_take, Nat.min_eq_left (by omega), hl, ← hk1]

theorem lr_spot {w : World} {e : TypeId} {size n c : Nat} {A : Option Addr} {xs : List Value} (h : LRow w e size (.slice A n c) n xs) (hn : 0 < n) : ∃ G, A = some ⟨G, 0, none⟩ := by
  rcases h.2 with ⟨h1, h2⟩ | ⟨g, cap, cur, hv, _⟩
  · omega
  · injection hv with hA
    exact ⟨g, hA⟩
/-- one element more written over. -/
theorem rep_put {m X : List Value} {size n k : Nat} (hm : m.length = size) (hX : X.length = n * size) (hk : k < n) :
    (rep k m ++ X.drop (k * size)).take (k * size) ++ m ++ (rep k m ++ X.drop (k * size)).drop ((k + 1) * size) = rep (k + 1) m ++ X.drop ((k + 1) * size) := by
  have hr := rep_len k m hm
  rw [List.take_append_of_le_length (by omega), List.take_of_length_le (by omega), rep_succ, List.drop_append, List.drop_eq_nil_of_le (by rw [hr, Nat.succ_mul]; omega), List.nil_append, List.drop_drop, hr]
  congr 2
  rw [Nat.succ_mul]; omega

/-! ### grown, one behind the other -/

/-- what each list has grown to, beside the lists as they were handed out. -/
structure Fam (w : World) (e : TypeId) (size : Nat) (vs : List Value) (cur : Nat → Value) (cnt : Nat → Nat) (M : Nat → List Value) : Prop where
  own : ∀ (j : Nat) (v : Value), vs[j]? = some v → LRow w e size (cur j) (cnt j) (rep (cnt j) (M j))
  old : ∀ (j : Nat) (v : Value), vs[j]? = some v → Rd w (sptr v) (slen v) size (rep (slen v) (M j))
  apart : ∀ (i j : Nat) (v u : Value), vs[i]? = some v → vs[j]? = some u → i ≠ j → ∀ k, (fpV v k ∨ fpV (cur i) k) → ¬ (fpV u k ∨ fpV (cur j) k)
  lt : ∀ (j : Nat) (v : Value), vs[j]? = some v → ∀ k, fpV v k → k < w.heap.size
  link : ∀ (j : Nat) (v : Value), vs[j]? = some v → slen v ≤ cnt j ∧ (sptr v = sptr (cur j) ∨ ∀ k, fpV v k → ¬ fpV (cur j) k)
theorem Held.fam {w : World} {e : TypeId} {size bytes : Nat} {vs : List Value} {M : Nat → List Value} (h : Held w e size bytes vs (fun i => rep (slen (vs.getD i .nilIface)) (M i))) :
    Fam w e size vs (fun i => vs.getD i .nilIface) (fun i => slen (vs.getD i .nilIface)) M := by
  have get : ∀ {i : Nat} {v : Value}, vs[i]? = some v → vs.getD i .nilIface = v := fun hv => by rw [List.getD_eq_getElem?_getD, hv]; rfl
  refine ⟨fun j v hv => ?_, fun j v hv => ?_, fun i j v u hv hu hij k hk hk' => ?_, fun j v hv k hk => LRow.lt (h.own j v hv) k hk, fun j v hv => by rw [get hv]; exact ⟨Nat.le_refl _, .inl rfl⟩⟩
  · have := h.own j v hv
    simp only [get hv] at this ⊢
    exact this
  · have := h.own j v hv
    simp only [get hv] at this
    exact lr_rd this
  · rw [get hv, or_self] at hk
    rw [get hu, or_self] at hk'
    exact h.apart i j v u hv hu hij k hk hk'
theorem Fam.keep {w w' : World} {F : Nat → Prop} {e : TypeId} {size : Nat} {vs : List Value} {cur : Nat → Value} {cnt : Nat → Nat} {M : Nat → List Value} (h : Fam w e size vs cur cnt M) (k : Keep F w w') (hF : ∀ (j : Nat) (v : Value), vs[j]? = some v → ∀ i, (fpV v i ∨ fpV (cur j) i) → ¬ F i) : Fam w' e size vs cur cnt M :=
  ⟨fun j v hv => LRow.keep (h.own j v hv) k (fun i hi => hF j v hv i (.inr hi)), fun j v hv => (h.old j v hv).keep k (fun i hi => hF j v hv i (.inl (fp_ptr hi))), h.apart, fun j v hv i hi => Nat.lt_of_lt_of_le (h.lt j v hv i hi) k.size, h.link⟩
theorem Fam.grow {w w' : World} {e : TypeId} {size : Nat} {vs : List Value} {cur : Nat → Value} {cnt : Nat → Nat} {M : Nat → List Value} (h : Fam w e size vs cur cnt M) (k : Grow w w') : Fam w' e size vs cur cnt M := h.keep k (fun _ _ _ _ _ q => q)
theorem Fam.fp_lt {w : World} {e : TypeId} {size : Nat} {vs : List Value} {cur : Nat → Value} {cnt : Nat → Nat} {M : Nat → List Value} (h : Fam w e size vs cur cnt M) {j : Nat} {v : Value} (hv : vs[j]? = some v) : ∀ i, (fpV v i ∨ fpV (cur j) i) → i < w.heap.size :=
  fun i hi => hi.elim (h.lt j v hv i) (LRow.lt (h.own j v hv) i)
/-- a list grown by a place. -/
theorem Fam.push {P : Program} {t ty e : TypeId} {size bytes : Nat} (hf : elemFactsB P t e size bytes = true) {w : World} {vs : List Value} {cur : Nat → Value} {cnt : Nat → Nat} {M : Nat → List Value} (h : Fam w e size vs cur cnt M)
    {i : Nat} {v : Value} (hi : vs[i]? = some v) {ad : Addr} {c : Nat} {w1 : World} (g1 : Grow w w1) (hr : Rd w1 (some ad) 1 size (M i)) (h1 : ∀ u ∈ M i, u.oneCell' = true) (h63 : cnt i + 1 ≤ maxLen) (hb : (cnt i + 1) * bytes ≤ 140737488355328)
    {K : VWK} {tk : Tok K} (hk : ∀ nv w', Fam w' e size vs (fun j => if j = i then nv else cur j) (fun j => if j = i then cnt i + 1 else cnt j) M → Keep (fpV (cur i)) w1 w' → (∀ k, fpV nv k → fpV (cur i) k ∨ w1.heap.size ≤ k) → slen nv = cnt i + 1 → K nv w') :
    appK P [t, t] ty [cur i, .slice (some ad) 1 c] w1 K tk := by
  have h1' := h.grow g1
  have hoi := h1'.own i v hi
  refine appK_l2 hf hoi hr (by omega) h1 h63 hb (fun A' c' w' h2 k2 hfe ho2 => ?_)
  obtain ⟨Ac, cc, hcur, _, _⟩ := LRow.form hoi
  have hf2 : ∀ k, fpV (.slice A' (cnt i + 1) c') k → fpV (cur i) k ∨ w1.heap.size ≤ k := by
    intro k hk
    rcases hfe with ⟨A, c, q1, rfl⟩ | hfe
    · rw [fpV_fpA] at hk; rw [q1, fpV_fpA]; exact .inl hk
    · exact .inr (hfe k hk)
  refine hk _ w' ⟨fun j u hu => ?_, fun j u hu => ?_, fun a b x y hx hy hab k hk hk' => ?_, fun j u hu k hk => Nat.lt_of_lt_of_le (h1'.lt j u hu k hk) k2.size, fun j u hu => ?_⟩ k2 hf2 rfl
  · by_cases hj : j = i
    · subst hj
      simp only [if_true]
      rw [rep_succ]; exact h2
    · simp only [if_neg hj]
      exact LRow.keep (h1'.own j u hu) k2 (fun k hk hk' => h1'.apart i j v u hi hu (fun q => hj q.symm) k (.inr hk') (.inr hk))
  · by_cases hj : j = i
    · subst hj
      obtain ⟨l1, l2⟩ := h1'.link j u hu
      rcases l2 with l2 | l2
      · have hrd := ho2 Ac cc hcur
        rw [hcur] at l2
        obtain ⟨d, hd⟩ : ∃ d, cnt j = slen u + d := ⟨cnt j - slen u, by omega⟩
        have hz := (h1'.old j u hu).1
        rw [hd, rep_add] at hrd
        have hl2 : sptr u = Ac := l2
        rw [hl2]
        exact hrd.fore hz (by omega)
      · exact (h1'.old j u hu).keep k2 (fun k hk => l2 k (fp_ptr hk))
    · exact (h1'.old j u hu).keep k2 (fun k hk hk' => h1'.apart i j v u hi hu (fun q => hj q.symm) k (.inr hk') (.inl (fp_ptr hk)))
  · have hsz := h1'.fp_lt hx
    have hsy := h1'.fp_lt hy
    have hc := h1'.apart a b x y hx hy hab k
    have e1 : (fpV x k ∨ fpV (cur a) k) ∨ (a = i ∧ w1.heap.size ≤ k) := by
      rcases hk with hk | hk
      · exact .inl (.inl hk)
      · by_cases ha : a = i
        · simp only [if_pos ha] at hk
          exact (hf2 k hk).elim (fun q => .inl (.inr (by rw [ha]; exact q))) (fun q => .inr ⟨ha, q⟩)
        · simp only [if_neg ha] at hk; exact .inl (.inr hk)
    have e2 : (fpV y k ∨ fpV (cur b) k) ∨ (b = i ∧ w1.heap.size ≤ k) := by
      rcases hk' with hk | hk
      · exact .inl (.inl hk)
      · by_cases ha : b = i
        · simp only [if_pos ha] at hk
          exact (hf2 k hk).elim (fun q => .inl (.inr (by rw [ha]; exact q))) (fun q => .inr ⟨ha, q⟩)
        · simp only [if_neg ha] at hk; exact .inl (.inr hk)
    rcases e1 with e1 | ⟨e1, q1⟩ <;> rcases e2 with e2 | ⟨e2, q2⟩
    · exact hc e1 e2
    · have := hsz k e1; omega
    · have := hsy k e2; omega
    · omega
  · obtain ⟨l1, l2⟩ := h1'.link j u hu
    by_cases hj : j = i
    · subst hj
      simp only [if_true]
      refine ⟨by omega, ?_⟩
      rcases hfe with ⟨A, c, q1, rfl⟩ | hfe
      · rw [q1] at l2
        rcases l2 with l2 | l2
        · exact .inl l2
        · exact .inr (fun k hk hk' => l2 k hk (by rw [fpV_fpA] at hk' ⊢; exact hk'))
      · exact .inr (fun k hk hk' => by have := h1'.lt j u hu k hk; have := hfe k hk'; omega)
    · simp only [if_neg hj]
      exact ⟨l1, l2⟩

end Go.Proofs.YtcnebgokbjpjnaaGreat
