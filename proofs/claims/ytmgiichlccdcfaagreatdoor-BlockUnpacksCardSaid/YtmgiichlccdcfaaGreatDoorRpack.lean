/- The document's Pack: what it writes, or what is wrong. -/
import Derived.Test.YtmgiichlccdcfaaGreatDoorPack
import Derived.Test.YtmgiichlccdcfaaGreatDoorRtimes
import Derived.Test.YtmgiichlccdcfaaGreatDoorRvals
set_option linter.unusedVariables false
set_option linter.unusedSimpArgs false
set_option maxRecDepth 100000
namespace Go.Proofs.YtmgiichlccdcfaaGreatDoor
open Go

theorem bad_put {w w' : World} {g0 : Nat} {old : List Value} {b : BadV} {K : WK} {tk : Tok K} (g : Grow w w') (hB : Blk w' g0 31 old) (hl : old.length = 5) (hge : w.heap.size ≤ g0)
    (hk : ∀ w2, Blk w2 g0 31 b.cells → Keep (fun k => k = g0) w' w2 → Grow w w2 → K w2) : aggSt Tryz.prog w' ⟨g0, 0, none⟩ [.int .i64 b.code, .int .i64 b.at_, .int .i64 b.ins, .bool b.placed, .bool b.numbered] K tk := by
  refine hB.stAgg (by simp [hl]) (by simp [Value.oneCell']) (fun w2 hB2 hK2 => hk w2 ?_ hK2 (g.above hK2 (fun i hi e => by omega)))
  have : old.drop 5 = [] := List.drop_eq_nil_of_le (by omega)
  simpa [BadV.cells, this] using hB2
theorem bad_len (b : BadV) : b.cells.length = 5 := rfl

end Go.Proofs.YtmgiichlccdcfaaGreatDoor
