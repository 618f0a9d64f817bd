/- Writes as points, in plain terms: each write is laid into the point of its measure, tags and time; the order in which unlike ones come says nothing. -/
import Derived.Test.YtljgnocpijniiaaGreatDoorFlatP
import Derived.Test.YtljgnocpijniiaaGreatDoorPureS
set_option linter.unusedVariables false
set_option linter.unusedSimpArgs false
namespace Go.Proofs.YtljgnocpijniiaaGreatDoor
open Go

def k0 (x : Wr) : Bool := decide (x.2.2.1 = 0)
def bareS (s : Ser) : Ser := ⟨s.m, s.tags, .empty⟩
/-- by measure, tags, time. -/
def cmpB (a b : Wr) : Int := cmpW (bareS a.1, a.2) (bareS b.1, b.2)
theorem cmpB_cmp : Cmp cmpB := cmpW_cmp.pull (fun x : Wr => ((bareS x.1, x.2) : Wr))
theorem cmpB_zero {a b : Wr} : cmpB a b = 0 ↔ a.1.m = b.1.m ∧ a.1.tags = b.1.tags ∧ a.2.1 = b.2.1 := by
  show (if cmpSer (bareS a.1) (bareS b.1) = 0 then cmpI a.2.1 b.2.1 else cmpSer (bareS a.1) (bareS b.1)) = 0 ↔ _
  have h : cmpSer (bareS a.1) (bareS b.1) = 0 ↔ a.1.m = b.1.m ∧ a.1.tags = b.1.tags := by
    rw [cmpSer_eq]; unfold bareS; simp
  have h2 : cmpI a.2.1 b.2.1 = 0 ↔ a.2.1 = b.2.1 := by
    unfold cmpI
    repeat' split
    all_goals omega
  constructor
  · intro hz
    by_cases hs : cmpSer (bareS a.1) (bareS b.1) = 0
    · rw [if_pos hs] at hz
      exact ⟨(h.1 hs).1, (h.1 hs).2, h2.1 hz⟩
    · rw [if_neg hs] at hz
      exact absurd hz hs
  · rintro ⟨e1, e2, e3⟩
    rw [if_pos (h.2 ⟨e1, e2⟩)]
    exact h2.2 e3
def ptK (p : Pt) : Wr := (⟨p.m, p.tags, .empty⟩, (p.t, 0, 0))
def fldW (x : Wr) : Fd := (x.1.f, x.2.2.2)
def mkP (x : Wr) : Pt := ⟨x.1.m, x.1.tags, [fldW x], x.2.1⟩
def addP (p : Pt) (x : Wr) : Pt := ⟨p.m, p.tags, p.fields ++ [fldW x], p.t⟩
def pIns : List Pt → Wr → List Pt
  | [], x => [mkP x]
  | p :: r, x => if cmpB (ptK p) x < 0 then p :: pIns r x else if cmpB (ptK p) x = 0 then addP p x :: r else mkP x :: p :: r
def pAll (L : List Wr) : List Pt := L.foldl pIns []
theorem pAll_snoc (L : List Wr) (x : Wr) : pAll (L ++ [x]) = pIns (pAll L) x := by rw [pAll, List.foldl_append]; rfl
def cmpP (p q : Pt) : Int := cmpB (ptK p) (ptK q)
theorem cmpP_cmp : Cmp cmpP := cmpB_cmp.pull ptK
theorem key_mk (x y : Wr) : cmpB (ptK (mkP x)) y = cmpB x y := rfl
theorem key_add (p : Pt) (x y : Wr) : cmpB (ptK (addP p x)) y = cmpB (ptK p) y := rfl
theorem pIns_mem {G : List Pt} {x : Wr} {q : Pt} (h : q ∈ pIns G x) : q = mkP x ∨ q ∈ G ∨ ∃ p ∈ G, cmpB (ptK p) x = 0 ∧ q = addP p x := by
  induction G with
  | nil => simpa [pIns] using h
  | cons p r ih =>
    rw [pIns] at h
    split at h
    · rcases List.mem_cons.1 h with rfl | h
      · exact .inr (.inl List.mem_cons_self)
      · rcases ih h with e | e | ⟨z, hz, e⟩
        · exact .inl e
        · exact .inr (.inl (List.mem_cons_of_mem _ e))
        · exact .inr (.inr ⟨z, List.mem_cons_of_mem _ hz, e⟩)
    · split at h
      · rename_i h0
        rcases List.mem_cons.1 h with rfl | h
        · exact .inr (.inr ⟨p, List.mem_cons_self, h0, rfl⟩)
        · exact .inr (.inl (List.mem_cons_of_mem _ h))
      · rcases List.mem_cons.1 h with rfl | h
        · exact .inl rfl
        · exact .inr (.inl h)
/-- a key of what was laid in. -/
theorem pIns_key {G : List Pt} {x : Wr} {q : Pt} (h : q ∈ pIns G x) : cmpB (ptK q) x = 0 ∨ q ∈ G := by
  rcases pIns_mem h with rfl | e | ⟨p, _, h0, rfl⟩
  · exact .inl (cmpB_cmp.self x)
  · exact .inr e
  · exact .inl h0
theorem pIns_strict {G : List Pt} (h : StrictC cmpP G) (x : Wr) : StrictC cmpP (pIns G x) := by
  induction G with
  | nil => exact List.pairwise_singleton _ _
  | cons p r ih =>
    obtain ⟨h1, h2⟩ := List.pairwise_cons.1 h
    rw [pIns]
    split
    · rename_i hlt
      refine List.pairwise_cons.2 ⟨fun q hq => ?_, ih h2⟩
      rcases pIns_key hq with e | e
      · show cmpB (ptK p) (ptK q) < 0
        have := cmpB_cmp.eq_r e (ptK p)
        omega
      · exact h1 q e
    · split
      · rename_i h0
        exact List.pairwise_cons.2 ⟨fun q hq => h1 q hq, h2⟩
      · rename_i hn h0
        have hlt : cmpB x (ptK p) < 0 := by
          have := cmpB_cmp.neg (ptK p) x
          omega
        refine List.pairwise_cons.2 ⟨fun q hq => ?_, h⟩
        show cmpB x (ptK q) < 0
        rcases List.mem_cons.1 hq with rfl | hq
        · exact hlt
        · exact cmpB_cmp.lt_le hlt (Int.le_of_lt (h1 q hq))
theorem pAll_strict : ∀ (L : List Wr), StrictC cmpP (pAll L) := fun L => by
  refine snoc_rec (p := fun L => StrictC cmpP (pAll L)) List.Pairwise.nil (fun l x ih => ?_) L
  rw [pAll_snoc]
  exact pIns_strict ih x
def grpP : List Wr → Option Pt
  | [] => none
  | x :: r => some ⟨x.1.m, x.1.tags, (x :: r).map fldW, x.2.1⟩
def addO (o : Option Pt) (x : Wr) : Pt := match o with | some p => addP p x | none => mkP x
theorem find_pIns {G : List Pt} (h : StrictC cmpP G) (x : Wr) (k : Pt) : gFind cmpP k (pIns G x) = if cmpB x (ptK k) = 0 then some (addO (gFind cmpP k G) x) else gFind cmpP k G := by
  induction G with
  | nil =>
    have hk : likeK cmpP k (mkP x) = decide (cmpB x (ptK k) = 0) := rfl
    simp only [pIns, gFind, List.find?_cons, List.find?_nil, hk]
    by_cases hx : cmpB x (ptK k) = 0 <;> simp [hx, addO]
  | cons p r ih =>
    obtain ⟨h1, h2⟩ := List.pairwise_cons.1 h
    have ih := ih h2
    have hp : likeK cmpP k p = decide (cmpB (ptK p) (ptK k) = 0) := rfl
    rw [pIns]
    split
    · rename_i hlt
      have hfc : ∀ l, gFind cmpP k (p :: l) = if cmpB (ptK p) (ptK k) = 0 then some p else gFind cmpP k l := fun l => by
        simp only [gFind, List.find?_cons, hp]
        by_cases hq : cmpB (ptK p) (ptK k) = 0 <;> simp [hq]
      rw [hfc, hfc, ih]
      by_cases hq : cmpB (ptK p) (ptK k) = 0
      · have hx : ¬ cmpB x (ptK k) = 0 := fun hx => by
          have h3 := cmpB_cmp.eq_r hx (ptK p)
          omega
        simp [hq, hx]
      · simp [hq]
    · split
      · rename_i h0
        have ha : likeK cmpP k (addP p x) = decide (cmpB (ptK p) (ptK k) = 0) := rfl
        have he : cmpB (ptK p) (ptK k) = cmpB x (ptK k) := by
          have h3 := cmpB_cmp.eq_r h0 (ptK k)
          have n1 := cmpB_cmp.neg (ptK k) (ptK p)
          have n2 := cmpB_cmp.neg (ptK k) x
          omega
        simp only [gFind, List.find?_cons, ha, hp, he]
        by_cases hx : cmpB x (ptK k) = 0 <;> simp [hx, addO]
      · rename_i hn h0
        have hm : likeK cmpP k (mkP x) = decide (cmpB x (ptK k) = 0) := rfl
        have hlt : cmpB x (ptK p) < 0 := by
          have := cmpB_cmp.neg (ptK p) x
          omega
        have hnone : cmpB x (ptK k) = 0 → gFind cmpP k (p :: r) = none := fun hx => by
          unfold gFind
          rw [List.find?_eq_none]
          intro q hq hl
          have hl : cmpB (ptK q) (ptK k) = 0 := of_decide_eq_true hl
          have hxq : cmpB x (ptK q) < 0 := by
            rcases List.mem_cons.1 hq with rfl | hq
            · exact hlt
            · exact cmpB_cmp.lt_le hlt (Int.le_of_lt (h1 q hq))
          have h3 := cmpB_cmp.eq_r hl x
          omega
        have hc : gFind cmpP k (mkP x :: p :: r) = if cmpB x (ptK k) = 0 then some (mkP x) else gFind cmpP k (p :: r) := by
          simp only [gFind, List.find?_cons, hm]
          by_cases hx : cmpB x (ptK k) = 0 <;> simp [hx]
        rw [hc]
        by_cases hx : cmpB x (ptK k) = 0
        · rw [if_pos hx, if_pos hx, hnone hx]; rfl
        · rw [if_neg hx, if_neg hx]
theorem find_pAll (L : List Wr) (k : Pt) : gFind cmpP k (pAll L) = grpP (L.filter (likeK cmpB (ptK k))) := by
  refine snoc_rec (p := fun L => gFind cmpP k (pAll L) = grpP (L.filter (likeK cmpB (ptK k)))) rfl (fun l x ih => ?_) L
  rw [pAll_snoc, find_pIns (pAll_strict l), ih, List.filter_append]
  have hl : likeK cmpB (ptK k) x = decide (cmpB x (ptK k) = 0) := rfl
  by_cases hx : cmpB x (ptK k) = 0
  · rw [if_pos hx, List.filter_cons_of_pos (by rw [hl]; exact decide_eq_true hx), List.filter_nil]
    cases hf : l.filter (likeK cmpB (ptK k)) with
    | nil => rfl
    | cons y r =>
      simp only [grpP, List.cons_append, addO, addP, List.map_cons, List.map_append, List.map_nil]
  · rw [if_neg hx, List.filter_cons_of_neg (by rw [hl]; simpa using hx), List.filter_nil, List.append_nil]
/-- in any order that keeps like ones as they came. -/
theorem pAll_same {S F : List Wr} (h : SameK cmpB S F) : pAll S = pAll F :=
  find_ext cmpP_cmp (pAll_strict S) (pAll_strict F) (fun k => by rw [find_pAll, find_pAll, h.2])
theorem pIns_end {G : List Pt} {x : Wr} (h : ∀ p ∈ G, cmpB (ptK p) x < 0) : pIns G x = G ++ [mkP x] := by
  induction G with
  | nil => rfl
  | cons p r ih => rw [pIns, if_pos (h p List.mem_cons_self), ih (fun q hq => h q (List.mem_cons_of_mem _ hq))]; rfl
theorem pIns_last {H : List Pt} {p : Pt} {x : Wr} (h : ∀ q ∈ H, cmpB (ptK q) x < 0) (hp : cmpB (ptK p) x = 0) : pIns (H ++ [p]) x = H ++ [addP p x] := by
  induction H with
  | nil => rw [List.nil_append, pIns, if_neg (by omega), if_pos hp]; rfl
  | cons q r ih => rw [List.cons_append, pIns, if_pos (h q List.mem_cons_self), ih (fun q hq => h q (List.mem_cons_of_mem _ hq))]; rfl
/-- of a sorted row: the last point is that of the last write. -/
theorem pAll_sorted (T : List Wr) : ∀ (y : Wr), SortedC cmpB (T ++ [y]) → ∃ H p, pAll (T ++ [y]) = H ++ [p] ∧ cmpB (ptK p) y = 0 ∧ ∀ q ∈ H, cmpB (ptK q) y < 0 := by
  refine snoc_rec (p := fun T => ∀ (y : Wr), SortedC cmpB (T ++ [y]) → ∃ H p, pAll (T ++ [y]) = H ++ [p] ∧ cmpB (ptK p) y = 0 ∧ ∀ q ∈ H, cmpB (ptK q) y < 0) ?_ ?_ T
  · intro y _
    exact ⟨[], mkP y, rfl, cmpB_cmp.self y, fun q hq => by cases hq⟩
  · intro T z ih y hs
    obtain ⟨hs1, _, hzy⟩ := sorted_app.1 hs
    obtain ⟨H, p, he, hp, hH⟩ := ih z hs1
    have hzy : cmpB z y ≤ 0 := hzy z (List.mem_append_right _ List.mem_cons_self) y List.mem_cons_self
    rw [pAll_snoc, he]
    by_cases h0 : cmpB z y = 0
    · have hpy : cmpB (ptK p) y = 0 := by
        have := cmpB_cmp.eq_r h0 (ptK p); omega
      have hHy : ∀ q ∈ H, cmpB (ptK q) y < 0 := fun q hq => by
        have h1 := hH q hq
        have := cmpB_cmp.eq_r h0 (ptK q); omega
      exact ⟨H, addP p y, pIns_last hHy hpy, hpy, hHy⟩
    · have hlt : ∀ q ∈ H ++ [p], cmpB (ptK q) y < 0 := fun q hq => by
        rcases List.mem_append.1 hq with hq | hq
        · exact cmpB_cmp.lt_le (hH q hq) hzy
        · rw [List.mem_singleton.1 hq]
          have h1 : cmpB (ptK p) y = cmpB z y := by
            have h3 := cmpB_cmp.eq_r hp y
            have n1 := cmpB_cmp.neg y (ptK p)
            have n2 := cmpB_cmp.neg y z
            omega
          omega
      exact ⟨H ++ [p], mkP y, pIns_end hlt, cmpB_cmp.self y, hlt⟩
/-- where the document lays a write: behind all that are ahead of it. -/
theorem pIns_at {G : List Pt} {x : Wr} {i : Nat} (hi : i ≤ G.length) (h : ∀ p ∈ G.take i, cmpB (ptK p) x < 0) :
    (∀ p, G[i]? = some p → cmpB (ptK p) x = 0 → pIns G x = G.set i (addP p x)) ∧ ((∀ p, G[i]? = some p → 0 < cmpB (ptK p) x) → pIns G x = G.take i ++ mkP x :: G.drop i) := by
  induction G generalizing i with
  | nil =>
    have : i = 0 := by simpa using hi
    subst this
    exact ⟨fun p hp => by simp at hp, fun _ => rfl⟩
  | cons q r ih =>
    cases i with
    | zero =>
      refine ⟨fun p hp h0 => ?_, fun h0 => ?_⟩
      · have : q = p := by simpa using hp
        subst this
        rw [pIns, if_neg (by omega), if_pos h0]; rfl
      · have := h0 q rfl
        rw [pIns, if_neg (by omega), if_neg (by omega)]; rfl
    | succ i =>
      have hq := h q (by rw [List.take_succ_cons]; exact List.mem_cons_self)
      obtain ⟨i1, i2⟩ := ih (i := i) (by simpa using hi) (fun p hp => h p (by rw [List.take_succ_cons]; exact List.mem_cons_of_mem _ hp))
      refine ⟨fun p hp h0 => ?_, fun h0 => ?_⟩
      · rw [pIns, if_pos hq, i1 p (by simpa using hp) h0]; rfl
      · rw [pIns, if_pos hq, i2 (fun p hp => h0 p (by simpa using hp))]; rfl
/-- writes as points. -/
def ptsP (l : List Wr) : List Pt := pAll ((wOrd l).filter k0)

end Go.Proofs.YtljgnocpijniiaaGreatDoor
