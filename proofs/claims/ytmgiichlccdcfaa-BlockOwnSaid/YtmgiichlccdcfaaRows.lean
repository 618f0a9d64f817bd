/-
  No cell of these rows narrows 'for every input' (looked for: loops, veiled, ifaces, maps, wideKeys, modest, calm, conditions, laid).
  DERIVED. THE GIVEN ROWS OF THIS SEAT. 5 by the template 'for every input the law returns true; each argument reads behind the call as it read before'; 0 by the template 'total and deterministic' (their statements: YtmgiichlccdcfaaTotals.lean).
  GIVEN WITH THE SEED: the statements are not yours to turn. If you find one false, say at which input.
  Laid BY PROGRAM, IN A SANDBOX (cutbox-rows.mjs): the forced cells as the released guide's own fill.sh prints them over the translation b517f3885bcf0e63… (all of the seat's roots in one cut). By AI agents, Wed Nov 11 2026. No macro, syntax, notation, axiom, sorry.
-/
import Derived.Test.YtmgiichlccdcfaaChecked
import GoSem.Claim
import GoSem.ClaimJoined
import GoSem.ClaimMapViews
import Derived.JoinedTies
import Derived.KernelRfl
namespace Go.Proofs.Ytmgiichlccdcfaa
/- THE CELL 'sum', in the pinned program and in every row, IS THE sha256 OF THE DUMP (.gsa) THAT YtmgiichlccdcfaaProg.lean LOADS. Nothing in Lean hashes anything: it is a label: what it is worth is what the hold of that sum in a sandbox is worth. -/
noncomputable def Try.pinned : Pinned := { name := "ytmgiichlccdcfaa", sum := "b517f3885bcf0e634a4eae2f5dd0a09b3f7b2083f165a38104f3fe1bd0a42469", checked := Try.checked }
namespace Rows
def none {H : Type} : Left H := { results := [], args := [] }

/-- 'weirlaw09.BlockLittle': WHATEVER THE INPUT: true; the input reads as it did. -/
def blockLittleSpec : ChangeSpec := { name := "blockLittle", fn := fun _ => fun
  | [d1, d2, d3] => { results := [.lit (.bool true)], args := [d1, d2, d3] }
  | _ => none }
def blockLittleRow : OpenClaim := { program := "ytmgiichlccdcfaa", sum := "b517f3885bcf0e634a4eae2f5dd0a09b3f7b2083f165a38104f3fe1bd0a42469", func := "weir/weirlaw09.BlockLittle", spec := "blockLittle", apart := false }
def BlockLittleSaid : Prop := blockLittleRow.holds Try.pinned (OpenSpec.ofChange blockLittleSpec)

/-- ITS FALSE NEIGHBOUR: 'it returns false'. Refute it at one input. -/
def blockLittleWrong : ChangeSpec := { name := "blockLittle", fn := fun _ => fun
  | [d1, d2, d3] => { results := [.lit (.bool false)], args := [d1, d2, d3] }
  | _ => none }
def BlockLittleWrongFalsely : Prop := blockLittleRow.holds Try.pinned (OpenSpec.ofChange blockLittleWrong)

/-- 'weirlaw09.BlockBack': WHATEVER THE INPUT: true; the input reads as it did. -/
def blockBackSpec : ChangeSpec := { name := "blockBack", fn := fun _ => fun
  | [d] => { results := [.lit (.bool true)], args := [d] }
  | _ => none }
def blockBackRow : OpenClaim := { program := "ytmgiichlccdcfaa", sum := "b517f3885bcf0e634a4eae2f5dd0a09b3f7b2083f165a38104f3fe1bd0a42469", func := "weir/weirlaw09.BlockBack", spec := "blockBack", apart := false }
def BlockBackSaid : Prop := blockBackRow.holds Try.pinned (OpenSpec.ofChange blockBackSpec)

/-- ITS FALSE NEIGHBOUR: 'it returns false'. Refute it at one input. -/
def blockBackWrong : ChangeSpec := { name := "blockBack", fn := fun _ => fun
  | [d] => { results := [.lit (.bool false)], args := [d] }
  | _ => none }
def BlockBackWrongFalsely : Prop := blockBackRow.holds Try.pinned (OpenSpec.ofChange blockBackWrong)

/-- 'weirlaw09.BlockOnly': WHATEVER THE INPUT: true; the input reads as it did. -/
def blockOnlySpec : ChangeSpec := { name := "blockOnly", fn := fun _ => fun
  | [d] => { results := [.lit (.bool true)], args := [d] }
  | _ => none }
def blockOnlyRow : OpenClaim := { program := "ytmgiichlccdcfaa", sum := "b517f3885bcf0e634a4eae2f5dd0a09b3f7b2083f165a38104f3fe1bd0a42469", func := "weir/weirlaw09.BlockOnly", spec := "blockOnly", apart := false }
def BlockOnlySaid : Prop := blockOnlyRow.holds Try.pinned (OpenSpec.ofChange blockOnlySpec)

/-- ITS FALSE NEIGHBOUR: 'it returns false'. Refute it at one input. -/
def blockOnlyWrong : ChangeSpec := { name := "blockOnly", fn := fun _ => fun
  | [d] => { results := [.lit (.bool false)], args := [d] }
  | _ => none }
def BlockOnlyWrongFalsely : Prop := blockOnlyRow.holds Try.pinned (OpenSpec.ofChange blockOnlyWrong)

/-- 'weirlaw09.BlockCut': WHATEVER THE INPUT: true; the input reads as it did. -/
def blockCutSpec : ChangeSpec := { name := "blockCut", fn := fun _ => fun
  | [d1, d2] => { results := [.lit (.bool true)], args := [d1, d2] }
  | _ => none }
def blockCutRow : OpenClaim := { program := "ytmgiichlccdcfaa", sum := "b517f3885bcf0e634a4eae2f5dd0a09b3f7b2083f165a38104f3fe1bd0a42469", func := "weir/weirlaw09.BlockCut", spec := "blockCut", apart := false }
def BlockCutSaid : Prop := blockCutRow.holds Try.pinned (OpenSpec.ofChange blockCutSpec)

/-- ITS FALSE NEIGHBOUR: 'it returns false'. Refute it at one input. -/
def blockCutWrong : ChangeSpec := { name := "blockCut", fn := fun _ => fun
  | [d1, d2] => { results := [.lit (.bool false)], args := [d1, d2] }
  | _ => none }
def BlockCutWrongFalsely : Prop := blockCutRow.holds Try.pinned (OpenSpec.ofChange blockCutWrong)

/-- 'weirlaw09.BlockOwn': WHATEVER THE INPUT: true; the input reads as it did. -/
def blockOwnSpec : ChangeSpec := { name := "blockOwn", fn := fun _ => fun
  | [d] => { results := [.lit (.bool true)], args := [d] }
  | _ => none }
def blockOwnRow : OpenClaim := { program := "ytmgiichlccdcfaa", sum := "b517f3885bcf0e634a4eae2f5dd0a09b3f7b2083f165a38104f3fe1bd0a42469", func := "weir/weirlaw09.BlockOwn", spec := "blockOwn", apart := false }
def BlockOwnSaid : Prop := blockOwnRow.holds Try.pinned (OpenSpec.ofChange blockOwnSpec)

/-- ITS FALSE NEIGHBOUR: 'it returns false'. Refute it at one input. -/
def blockOwnWrong : ChangeSpec := { name := "blockOwn", fn := fun _ => fun
  | [d] => { results := [.lit (.bool false)], args := [d] }
  | _ => none }
def BlockOwnWrongFalsely : Prop := blockOwnRow.holds Try.pinned (OpenSpec.ofChange blockOwnWrong)

/- THE SECOND FORM. 'bulk': how many values and letters a reading holds, each counted each time it is reached (what is shared counts as often as it is met; a slice's spare places count too). A statement '..UptoSaid' is the law's where the arguments, and the package variables that the reading takes, are together of bulk at most 1048576: NARROWER than '..Said'. Prove '..Said' where nothing that the law and all that it calls make is longer than what came in: it says more and counts as full. Else prove '..UptoSaid'. A law counts once. -/
mutual
def uptoBulk {H : Type} : DataW H → Nat
  | .lit (.string bytes) => bytes.length + 1
  | .lit _ => 1
  | .nil => 1
  | .ptr d => uptoBulk d + 1
  | .slice elems spare => uptoBulkAll elems + uptoBulkAll spare + 1
  | .agg parts => uptoBulkAll parts + 1
  | .iface _ d => uptoBulk d + 1
  | .map entries => uptoBulkEntries entries + 1
  | .held _ => 1
def uptoBulkAll {H : Type} : List (DataW H) → Nat
  | [] => 0
  | d :: r => uptoBulk d + uptoBulkAll r
def uptoBulkEntries {H : Type} : List (Lit × DataW H) → Nat
  | [] => 0
  | x :: r => uptoBulkEntry x + uptoBulkEntries r
def uptoBulkEntry {H : Type} : Lit × DataW H → Nat
  | (.string bytes, d) => bytes.length + uptoBulk d + 1
  | (_, d) => uptoBulk d + 1
 end
def uptoSmall : (H : Type) → List (DataW H) → Bool := fun _ ds => decide (uptoBulkAll ds ≤ 1048576)
def OpenSpec.upto (s : _root_.Go.ChangeSpec) : _root_.Go.OpenSpec := { _root_.Go.OpenSpec.ofChange s with cond := some uptoSmall }

/-- 'weirlaw09.BlockLittle', WHERE WHAT IT READS IS OF BULK AT MOST 1048576: true; the input reads as it did. -/
def blockLittleUptoRow : OpenClaim := { program := "ytmgiichlccdcfaa", sum := "b517f3885bcf0e634a4eae2f5dd0a09b3f7b2083f165a38104f3fe1bd0a42469", func := "weir/weirlaw09.BlockLittle", spec := "blockLittle", apart := false, narrowed := true }
def BlockLittleUptoSaid : Prop := blockLittleUptoRow.holds Try.pinned (OpenSpec.upto blockLittleSpec)

/-- 'weirlaw09.BlockBack', WHERE WHAT IT READS IS OF BULK AT MOST 1048576: true; the input reads as it did. -/
def blockBackUptoRow : OpenClaim := { program := "ytmgiichlccdcfaa", sum := "b517f3885bcf0e634a4eae2f5dd0a09b3f7b2083f165a38104f3fe1bd0a42469", func := "weir/weirlaw09.BlockBack", spec := "blockBack", apart := false, narrowed := true }
def BlockBackUptoSaid : Prop := blockBackUptoRow.holds Try.pinned (OpenSpec.upto blockBackSpec)

/-- 'weirlaw09.BlockOnly', WHERE WHAT IT READS IS OF BULK AT MOST 1048576: true; the input reads as it did. -/
def blockOnlyUptoRow : OpenClaim := { program := "ytmgiichlccdcfaa", sum := "b517f3885bcf0e634a4eae2f5dd0a09b3f7b2083f165a38104f3fe1bd0a42469", func := "weir/weirlaw09.BlockOnly", spec := "blockOnly", apart := false, narrowed := true }
def BlockOnlyUptoSaid : Prop := blockOnlyUptoRow.holds Try.pinned (OpenSpec.upto blockOnlySpec)

/-- 'weirlaw09.BlockCut', WHERE WHAT IT READS IS OF BULK AT MOST 1048576: true; the input reads as it did. -/
def blockCutUptoRow : OpenClaim := { program := "ytmgiichlccdcfaa", sum := "b517f3885bcf0e634a4eae2f5dd0a09b3f7b2083f165a38104f3fe1bd0a42469", func := "weir/weirlaw09.BlockCut", spec := "blockCut", apart := false, narrowed := true }
def BlockCutUptoSaid : Prop := blockCutUptoRow.holds Try.pinned (OpenSpec.upto blockCutSpec)

/-- 'weirlaw09.BlockOwn', WHERE WHAT IT READS IS OF BULK AT MOST 1048576: true; the input reads as it did. -/
def blockOwnUptoRow : OpenClaim := { program := "ytmgiichlccdcfaa", sum := "b517f3885bcf0e634a4eae2f5dd0a09b3f7b2083f165a38104f3fe1bd0a42469", func := "weir/weirlaw09.BlockOwn", spec := "blockOwn", apart := false, narrowed := true }
def BlockOwnUptoSaid : Prop := blockOwnUptoRow.holds Try.pinned (OpenSpec.upto blockOwnSpec)

end Rows
end Go.Proofs.Ytmgiichlccdcfaa
