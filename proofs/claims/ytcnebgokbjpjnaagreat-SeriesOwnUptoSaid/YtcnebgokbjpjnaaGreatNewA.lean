/- A block drawn and filled. -/
import Derived.Test.YtcnebgokbjpjnaaGreatLive8
set_option linter.unusedVariables false
set_option linter.unusedSimpArgs false
set_option maxRecDepth 100000
namespace Go.Proofs.YtcnebgokbjpjnaaGreat
open Go

theorem newA {P : Program} {w : World} {t : TypeId} {cs : Array Value} {ds : List Value} (hl : ds.length = cs.size) (h1 : ∀ u ∈ ds, u.oneCell' = true) {K : WK} {tk : Tok K} (h : ∀ w', Blk w' w.heap.size t ds → Grow w w' → K w') :
    aggSt P (w.alloc (.cells cs t)) ⟨w.heap.size, 0, none⟩ ds K tk :=
  (Blk.new' w t cs).stAgg (o := 0) (by simp [hl]) h1 (fun w' hB k => h w' (by
    rw [List.take_zero, List.nil_append, List.drop_of_length_le (by rw [Array.length_toList]; omega), List.append_nil] at hB
    exact hB) ((Grow.alloc w _).above k (fun q hq e => by omega)))

end Go.Proofs.YtcnebgokbjpjnaaGreat
