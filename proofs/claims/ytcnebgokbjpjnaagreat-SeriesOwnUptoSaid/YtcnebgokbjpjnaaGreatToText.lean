/- Bytes turned into a text. -/
import Derived.Test.YtcnebgokbjpjnaaGreatMem
import Derived.Laws.BytesArg
import Derived.Laws.IdiomStrings
set_option linter.unusedVariables false
set_option linter.unusedSimpArgs false
set_option maxRecDepth 100000
namespace Go.Proofs.YtcnebgokbjpjnaaGreat
open Go

theorem run_totext {P : Program} {s d e : TypeId} (hs : P.underlying s = some (.slice e)) (he : P.underlying e = some (.int .u8)) (hd : P.underlying d = some .string)
    {A : Option Addr} {n c : Nat} {xs : List Int} {w : World} (hR : Rd w A n 1 (xs.map (Value.int .u8))) : (convert s d (.slice A n c)).run P w = .ok (.string (strOfNums xs)) w := by
  have hl := hR.len1
  cases A with
  | none =>
    have h0 : n = 0 := by
      rcases Nat.eq_zero_or_pos n with h0 | h0
      · exact h0
      · obtain ⟨ad, h, _⟩ := hR.2 h0; cases h
    subst h0
    obtain rfl := List.eq_nil_of_length_eq_zero hl
    exact run_convert_bytes_nil w s e hs he 0 c d hd
  | some a =>
    have hload : (loadCells a n).run P w = .ok (xs.map (Value.int .u8)).toArray w := by
      have h1 := run_loadCells_list (P := P) w a (xs.map (Value.int .u8)) (fun j v hj => by
        have hjl : j < xs.length := by have := (List.getElem?_eq_some_iff.1 hj).1; simpa using this
        obtain ⟨ad, h, hc⟩ := hR.2 (by omega)
        injection h with h
        subst h
        exact hc j v hj)
      simpa [hl] using h1
    rw [run_convert_bytes_string w s d e _ n c hs he hd, run_bytesToString w _ n c xs hload, foldl_push_bytes]
    simp [strOfNums, ByteArray.empty, ByteArray.emptyWithCapacity]
    rfl
theorem genK_totext {P : Program} {o : Oper} {s d e : TypeId} {x : Operand} (hop : o.op = .convert s d x) (hs : P.underlying s = some (.slice e)) (he : P.underlying e = some (.int .u8)) (hd : P.underlying d = some .string)
    {ρ : Operand → Value} {A : Option Addr} {n c : Nat} {xs : List Int} (hx : ρ x = .slice A n c) {w : World} (hR : Rd w A n 1 (xs.map (Value.int .u8))) {K : VWK} {tk : Tok (ρ, K)}
    (hk : K (.string (strOfNums xs)) w) : genK P o ρ w K tk := by
  have hrun := run_totext (c := c) hs he hd hR
  refine ⟨_, _, .inl ?_, hk⟩
  unfold execOp
  simp only [hop, hx, Sem.run_bind, hrun, Result.andThen_ok, Sem.run_pure]
theorem genY_totext {P : Program} {o : Oper} {s d e : TypeId} {x : Operand} (hop : o.op = .convert s d x) (hs : P.underlying s = some (.slice e)) (he : P.underlying e = some (.int .u8)) (hd : P.underlying d = some .string)
    {ρ : Operand → Value} {A : Option Addr} {n c : Nat} {xs : List Int} (hx : ρ x = .slice A n c) {S : World → Prop} (hR : ∀ w, S w → Rd w A n 1 (xs.map (Value.int .u8))) {K : VK} {tk : Tok (S, ρ, K)}
    (hk : K (.string (strOfNums xs))) : genY P S o ρ K tk := by
  refine ⟨_, fun w hw => ?_, hk⟩
  unfold execOp
  simp only [hop, hx, Sem.run_bind, run_totext (c := c) hs he hd (hR w hw), Result.andThen_ok, Sem.run_pure]

end Go.Proofs.YtcnebgokbjpjnaaGreat
