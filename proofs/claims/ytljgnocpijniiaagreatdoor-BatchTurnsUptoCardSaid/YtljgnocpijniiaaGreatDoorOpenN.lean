/- Rows of ints, opened. -/
import Derived.Test.YtljgnocpijniiaaGreatDoorOpens
set_option linter.unusedVariables false
set_option linter.unusedSimpArgs false
set_option maxRecDepth 100000
namespace Go.Proofs.YtljgnocpijniiaaGreatDoor
open Go Go.ChangeShapes Go.WideShapes Go.ChangeAt Go.RowKit

section
variable {H : Type} {enc : TypeId × Value → H}
theorem open_num1 {W : World} {fuel : Nat} {cs : List Value} {x : DataW H × List MemPlace} (h : DataW.trod enc Tryz.prog W 0 (fun _ => true) true fuel 3 cs = some x) :
    ∃ z : Int, cs = [.int .i64 z] ∧ -9223372036854775808 ≤ z ∧ z < 9223372036854775808 := by
  obtain ⟨z, rfl, _, hwf⟩ := DataW.trod_int Tryz.underlying3 h
  exact ⟨z, rfl, wf_i64' hwf⟩
theorem flat_nums : ∀ (l : List Int), l.flatMap (fun z => [Value.int .i64 z]) = l.map (Value.int .i64)
  | [] => rfl
  | z :: l => by rw [List.flatMap_cons, flat_nums l]; rfl
theorem open_nums {W : World} {base : Nat} {v : Value} {d : DataW H} {ps : List MemPlace} (h : DataW.Trod enc Tryz.prog W 0 (fun _ => true) true 48 v d ps) (hok : Value.okWide Tryz.prog W .any base 48 v) :
    ∃ (A : Option Addr) (n c : Nat) (l : List Int), v = .slice A n c ∧ Rd W A n 1 (l.map (Value.int .i64)) ∧ (∀ z ∈ l, -9223372036854775808 ≤ z ∧ z < 9223372036854775808) ∧ n = lenD d ∧ l.length = n := by
  obtain ⟨A, n, c, l, h1, h2, h3⟩ := open_rows (fun z : Int => [Value.int .i64 z]) _ Tryz.underlying48 (size := 1) (by kernel_rfl) (fun fuel cs x h => open_num1 h) h hok
  rw [flat_nums] at h2
  exact ⟨A, n, c, l, h1, h2, h3⟩
end

end Go.Proofs.YtljgnocpijniiaaGreatDoor
