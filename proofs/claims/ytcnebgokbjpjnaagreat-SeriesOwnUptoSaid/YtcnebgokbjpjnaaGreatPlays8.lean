/- The laws SeriesPlays, SeriesSeldom: their walks. -/
import Derived.Test.YtcnebgokbjpjnaaGreatNamed8
import Derived.Test.YtcnebgokbjpjnaaGreatOpenS
set_option linter.unusedVariables false
set_option linter.unusedSimpArgs false
set_option maxRecDepth 100000
namespace Go.Proofs.YtcnebgokbjpjnaaGreat
open Go

def tRun (ops : List StepV) : List Smp := ops.foldl tStep []
theorem StepV.Ok.grow {w w' : World} {o : StepV} (h : o.Ok w) (k : Grow w w') : o.Ok w' := ⟨h.t0, h.u0, h.v0, h.rd.grow k, h.smp⟩
theorem len_stot : ∀ ops : List StepV, ops.length ≤ stot ops
  | [] => Nat.le_refl _
  | o :: ops => by have := len_stot ops; simp only [stot, List.length_cons]; omega
theorem stot_app : ∀ a b : List StepV, stot (a ++ b) = stot a + stot b
  | [], b => by simp [stot]
  | o :: a, b => by have := stot_app a b; simp only [stot, List.cons_append]; omega
theorem stot_take {ops : List StepV} {i : Nat} (h : i < ops.length) : stot (ops.take (i + 1)) = stot (ops.take i) + (1 + (ops.getD i step0).m) := by
  rw [take_snoc step0 h, stot_app]; simp [stot]
theorem stot_le (ops : List StepV) (i : Nat) : stot (ops.take i) ≤ stot ops := by
  have := stot_app (ops.take i) (ops.drop i)
  rw [List.take_append_drop] at this
  omega
theorem tstep_len {l : List Smp} (hr : Rise l) (o : StepV) (hm : o.l.length = o.m) : (tStep l o).length ≤ l.length + 1 + o.m := by
  unfold tStep
  split
  · have := put_len_le o.t o.v hr; omega
  split
  · have : (sCut l o.t).length ≤ l.length := List.length_filter_le _ _; omega
  split
  · have : (sDel l o.t o.u).length ≤ l.length := List.length_filter_le _ _; omega
  split
  · have := sload_len o.l hr; omega
  · omega
end Go.Proofs.YtcnebgokbjpjnaaGreat
