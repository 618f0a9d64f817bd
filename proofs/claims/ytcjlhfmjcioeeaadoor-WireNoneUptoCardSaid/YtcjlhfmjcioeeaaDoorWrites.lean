
/- The law WireWrites, walked. -/
import Derived.Test.YtcjlhfmjcioeeaaDoorOps
import Derived.Test.YtcjlhfmjcioeeaaDoorLive
set_option linter.unusedVariables false
set_option linter.unusedSimpArgs false
set_option maxRecDepth 100000
namespace Go.Proofs.YtcjlhfmjcioeeaaDoor
open Go

def tot : List OpV → Nat
  | [] => 0
  | o :: l => 64 + o.m + tot l
def wrs : List OpV → List Int × Nat → List Int × Nat
  | [], s => s
  | o :: l, s => wrs l (wr o s)
theorem wrs_snoc (o : OpV) : ∀ (l : List OpV) (s : List Int × Nat), wrs (l ++ [o]) s = wr o (wrs l s)
  | [], s => rfl
  | x :: l, s => wrs_snoc o l (wr x s)
theorem cells4 (ops : List OpV) : ∀ o ∈ ops, o.cells.length = 4 := fun _ _ => rfl
theorem tot_mem : ∀ {ops : List OpV} {o : OpV}, o ∈ ops → o.m ≤ tot ops
  | x :: l, o, h => by
    simp only [tot]
    rcases List.mem_cons.1 h with rfl | h
    · omega
    · have := tot_mem h; omega

end Go.Proofs.YtcjlhfmjcioeeaaDoor
