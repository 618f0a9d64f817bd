/-
  NARROWER THAN 'FOR EVERY INPUT', by the rows' own cells (each row's printed sentence says how): BlockTimes: laid · BlockValues: laid · BlockPacks: laid · BlockUnValues: laid · BlockUnTimes: laid.
  DERIVED. THE GIVEN ROWS OF THIS SEAT. 5 by the template 'for every input the law returns true; each argument reads behind the call as it read before'; 0 by the template 'total and deterministic' (their statements: YtmgiichlccdcfaaDoorTotals.lean).
  GIVEN WITH THE SEED: the statements are not yours to turn. If you find one false, say at which input.
  Laid BY PROGRAM, IN A SANDBOX (cutbox-rows.mjs): the forced cells as the released guide's own fill.sh prints them over the translation dc574807334c611a… (all of the seat's roots in one cut). By AI agents, Wed Nov 11 2026. No macro, syntax, notation, axiom, sorry.
-/
import Derived.Test.YtmgiichlccdcfaaDoorChecked
import GoSem.Claim
import GoSem.ClaimJoined
import GoSem.ClaimMapViews
import Derived.JoinedTies
import Derived.KernelRfl
namespace Go.Proofs.YtmgiichlccdcfaaDoor
/- THE CELL 'sum', in the pinned program and in every row, IS THE sha256 OF THE DUMP (.gsa) THAT YtmgiichlccdcfaaDoorProg.lean LOADS. Nothing in Lean hashes anything: it is a label: what it is worth is what the hold of that sum in a sandbox is worth. -/
noncomputable def Tryd.pinned : Pinned := { name := "ytmgiichlccdcfaadoor", sum := "dc574807334c611adaaeb928834782d686947b65a85e5ba7d0af0f166e438a13", checked := Tryd.checked }
namespace Rows
def none {H : Type} : Left H := { results := [], args := [] }

/- WHAT THE LISTED PACKAGE-LEVEL VARIABLES READ AS WHEN THE CALL BEGINS. Each datum BY PROGRAM (the guide's laid-datum.mjs) off the statement by which the dump's own 'gosem.cut.vars' lays the variable. In a bare row this is a premise. The card (YtmgiichlccdcfaaDoorCards.lean) ties it to the program's text. -/
def laid_errors_errorType {H : Type} : DataW H := .iface "internal/reflectlite.rtype" (.agg [.ptr (.lit (.string [101, 114, 114, 111, 114]))])

/-- 'weirlaw09.BlockTimes': WHATEVER THE INPUT: true; the input reads as it did. -/
def blockTimesSpec : ChangeSpec := { name := "blockTimes", fn := fun _ => fun
  | [d] => { results := [.lit (.bool true)], args := [d] }
  | _ => none }
def blockTimesRow : OpenClaim := { program := "ytmgiichlccdcfaadoor", sum := "dc574807334c611adaaeb928834782d686947b65a85e5ba7d0af0f166e438a13", func := "weir/weirlaw09.BlockTimes", spec := "blockTimes", inPlace := ["internal/reflectlite.ValueOf", "(internal/reflectlite.Value).Type", "(internal/reflectlite.Value).IsNil", "internal/reflectlite.TypeOf", "(internal/reflectlite.Value).Elem", "(internal/reflectlite.Value).Set"], unfollowed := true, recurses := true, named := ["errors.errorType"], apart := false, laid := [("errors.errorType", laid_errors_errorType)] }
def BlockTimesSaid : Prop := blockTimesRow.holds Tryd.pinned (OpenSpec.ofChange blockTimesSpec)

/-- ITS FALSE NEIGHBOUR: 'it returns false'. Refute it at one input. -/
def blockTimesWrong : ChangeSpec := { name := "blockTimes", fn := fun _ => fun
  | [d] => { results := [.lit (.bool false)], args := [d] }
  | _ => none }
def BlockTimesWrongFalsely : Prop := blockTimesRow.holds Tryd.pinned (OpenSpec.ofChange blockTimesWrong)

/-- 'weirlaw09.BlockValues': WHATEVER THE INPUT: true; the input reads as it did. -/
def blockValuesSpec : ChangeSpec := { name := "blockValues", fn := fun _ => fun
  | [d] => { results := [.lit (.bool true)], args := [d] }
  | _ => none }
def blockValuesRow : OpenClaim := { program := "ytmgiichlccdcfaadoor", sum := "dc574807334c611adaaeb928834782d686947b65a85e5ba7d0af0f166e438a13", func := "weir/weirlaw09.BlockValues", spec := "blockValues", inPlace := ["internal/reflectlite.ValueOf", "(internal/reflectlite.Value).Type", "(internal/reflectlite.Value).IsNil", "internal/reflectlite.TypeOf", "(internal/reflectlite.Value).Elem", "(internal/reflectlite.Value).Set"], unfollowed := true, recurses := true, named := ["errors.errorType"], apart := false, laid := [("errors.errorType", laid_errors_errorType)] }
def BlockValuesSaid : Prop := blockValuesRow.holds Tryd.pinned (OpenSpec.ofChange blockValuesSpec)

/-- ITS FALSE NEIGHBOUR: 'it returns false'. Refute it at one input. -/
def blockValuesWrong : ChangeSpec := { name := "blockValues", fn := fun _ => fun
  | [d] => { results := [.lit (.bool false)], args := [d] }
  | _ => none }
def BlockValuesWrongFalsely : Prop := blockValuesRow.holds Tryd.pinned (OpenSpec.ofChange blockValuesWrong)

/-- 'weirlaw09.BlockPacks': WHATEVER THE INPUT: true; the input reads as it did. -/
def blockPacksSpec : ChangeSpec := { name := "blockPacks", fn := fun _ => fun
  | [d] => { results := [.lit (.bool true)], args := [d] }
  | _ => none }
def blockPacksRow : OpenClaim := { program := "ytmgiichlccdcfaadoor", sum := "dc574807334c611adaaeb928834782d686947b65a85e5ba7d0af0f166e438a13", func := "weir/weirlaw09.BlockPacks", spec := "blockPacks", inPlace := ["internal/reflectlite.ValueOf", "(internal/reflectlite.Value).Type", "(internal/reflectlite.Value).IsNil", "internal/reflectlite.TypeOf", "(internal/reflectlite.Value).Elem", "(internal/reflectlite.Value).Set"], unfollowed := true, recurses := true, named := ["errors.errorType"], apart := false, laid := [("errors.errorType", laid_errors_errorType)] }
def BlockPacksSaid : Prop := blockPacksRow.holds Tryd.pinned (OpenSpec.ofChange blockPacksSpec)

/-- ITS FALSE NEIGHBOUR: 'it returns false'. Refute it at one input. -/
def blockPacksWrong : ChangeSpec := { name := "blockPacks", fn := fun _ => fun
  | [d] => { results := [.lit (.bool false)], args := [d] }
  | _ => none }
def BlockPacksWrongFalsely : Prop := blockPacksRow.holds Tryd.pinned (OpenSpec.ofChange blockPacksWrong)

/-- 'weirlaw09.BlockUnValues': WHATEVER THE INPUT: true; the input reads as it did. -/
def blockUnValuesSpec : ChangeSpec := { name := "blockUnValues", fn := fun _ => fun
  | [d] => { results := [.lit (.bool true)], args := [d] }
  | _ => none }
def blockUnValuesRow : OpenClaim := { program := "ytmgiichlccdcfaadoor", sum := "dc574807334c611adaaeb928834782d686947b65a85e5ba7d0af0f166e438a13", func := "weir/weirlaw09.BlockUnValues", spec := "blockUnValues", inPlace := ["internal/reflectlite.ValueOf", "(internal/reflectlite.Value).Type", "(internal/reflectlite.Value).IsNil", "internal/reflectlite.TypeOf", "(internal/reflectlite.Value).Elem", "(internal/reflectlite.Value).Set"], unfollowed := true, recurses := true, named := ["errors.errorType"], apart := false, laid := [("errors.errorType", laid_errors_errorType)] }
def BlockUnValuesSaid : Prop := blockUnValuesRow.holds Tryd.pinned (OpenSpec.ofChange blockUnValuesSpec)

/-- ITS FALSE NEIGHBOUR: 'it returns false'. Refute it at one input. -/
def blockUnValuesWrong : ChangeSpec := { name := "blockUnValues", fn := fun _ => fun
  | [d] => { results := [.lit (.bool false)], args := [d] }
  | _ => none }
def BlockUnValuesWrongFalsely : Prop := blockUnValuesRow.holds Tryd.pinned (OpenSpec.ofChange blockUnValuesWrong)

/-- 'weirlaw09.BlockUnTimes': WHATEVER THE INPUT: true; the input reads as it did. -/
def blockUnTimesSpec : ChangeSpec := { name := "blockUnTimes", fn := fun _ => fun
  | [d] => { results := [.lit (.bool true)], args := [d] }
  | _ => none }
def blockUnTimesRow : OpenClaim := { program := "ytmgiichlccdcfaadoor", sum := "dc574807334c611adaaeb928834782d686947b65a85e5ba7d0af0f166e438a13", func := "weir/weirlaw09.BlockUnTimes", spec := "blockUnTimes", inPlace := ["internal/reflectlite.ValueOf", "(internal/reflectlite.Value).Type", "(internal/reflectlite.Value).IsNil", "internal/reflectlite.TypeOf", "(internal/reflectlite.Value).Elem", "(internal/reflectlite.Value).Set"], unfollowed := true, recurses := true, named := ["errors.errorType"], apart := false, laid := [("errors.errorType", laid_errors_errorType)] }
def BlockUnTimesSaid : Prop := blockUnTimesRow.holds Tryd.pinned (OpenSpec.ofChange blockUnTimesSpec)

/-- ITS FALSE NEIGHBOUR: 'it returns false'. Refute it at one input. -/
def blockUnTimesWrong : ChangeSpec := { name := "blockUnTimes", fn := fun _ => fun
  | [d] => { results := [.lit (.bool false)], args := [d] }
  | _ => none }
def BlockUnTimesWrongFalsely : Prop := blockUnTimesRow.holds Tryd.pinned (OpenSpec.ofChange blockUnTimesWrong)

/- THE SECOND FORM. 'bulk': how many values and letters a reading holds, each counted each time it is reached (what is shared counts as often as it is met; a slice's spare places count too). A statement '..UptoSaid' is the law's where the arguments, and the package variables that the reading takes, are together of bulk at most 1048576: NARROWER than '..Said'. Prove '..Said' where nothing that the law and all that it calls make is longer than what came in: it says more and counts as full. Else prove '..UptoSaid'. A law counts once. -/
mutual
def uptoBulk {H : Type} : DataW H → Nat
  | .lit (.string bytes) => bytes.length + 1
  | .lit _ => 1
  | .nil => 1
  | .ptr d => uptoBulk d + 1
  | .slice elems spare => uptoBulkAll elems + uptoBulkAll spare + 1
  | .agg parts => uptoBulkAll parts + 1
  | .iface _ d => uptoBulk d + 1
  | .map entries => uptoBulkEntries entries + 1
  | .held _ => 1
def uptoBulkAll {H : Type} : List (DataW H) → Nat
  | [] => 0
  | d :: r => uptoBulk d + uptoBulkAll r
def uptoBulkEntries {H : Type} : List (Lit × DataW H) → Nat
  | [] => 0
  | x :: r => uptoBulkEntry x + uptoBulkEntries r
def uptoBulkEntry {H : Type} : Lit × DataW H → Nat
  | (.string bytes, d) => bytes.length + uptoBulk d + 1
  | (_, d) => uptoBulk d + 1
 end
def uptoSmall : (H : Type) → List (DataW H) → Bool := fun _ ds => decide (uptoBulkAll ds ≤ 1048576)
def OpenSpec.upto (s : _root_.Go.ChangeSpec) : _root_.Go.OpenSpec := { _root_.Go.OpenSpec.ofChange s with cond := some uptoSmall }

/-- 'weirlaw09.BlockTimes', WHERE WHAT IT READS IS OF BULK AT MOST 1048576: true; the input reads as it did. -/
def blockTimesUptoRow : OpenClaim := { program := "ytmgiichlccdcfaadoor", sum := "dc574807334c611adaaeb928834782d686947b65a85e5ba7d0af0f166e438a13", func := "weir/weirlaw09.BlockTimes", spec := "blockTimes", inPlace := ["internal/reflectlite.ValueOf", "(internal/reflectlite.Value).Type", "(internal/reflectlite.Value).IsNil", "internal/reflectlite.TypeOf", "(internal/reflectlite.Value).Elem", "(internal/reflectlite.Value).Set"], unfollowed := true, recurses := true, named := ["errors.errorType"], apart := false, laid := [("errors.errorType", laid_errors_errorType)], narrowed := true }
def BlockTimesUptoSaid : Prop := blockTimesUptoRow.holds Tryd.pinned (OpenSpec.upto blockTimesSpec)

/-- 'weirlaw09.BlockValues', WHERE WHAT IT READS IS OF BULK AT MOST 1048576: true; the input reads as it did. -/
def blockValuesUptoRow : OpenClaim := { program := "ytmgiichlccdcfaadoor", sum := "dc574807334c611adaaeb928834782d686947b65a85e5ba7d0af0f166e438a13", func := "weir/weirlaw09.BlockValues", spec := "blockValues", inPlace := ["internal/reflectlite.ValueOf", "(internal/reflectlite.Value).Type", "(internal/reflectlite.Value).IsNil", "internal/reflectlite.TypeOf", "(internal/reflectlite.Value).Elem", "(internal/reflectlite.Value).Set"], unfollowed := true, recurses := true, named := ["errors.errorType"], apart := false, laid := [("errors.errorType", laid_errors_errorType)], narrowed := true }
def BlockValuesUptoSaid : Prop := blockValuesUptoRow.holds Tryd.pinned (OpenSpec.upto blockValuesSpec)

/-- 'weirlaw09.BlockPacks', WHERE WHAT IT READS IS OF BULK AT MOST 1048576: true; the input reads as it did. -/
def blockPacksUptoRow : OpenClaim := { program := "ytmgiichlccdcfaadoor", sum := "dc574807334c611adaaeb928834782d686947b65a85e5ba7d0af0f166e438a13", func := "weir/weirlaw09.BlockPacks", spec := "blockPacks", inPlace := ["internal/reflectlite.ValueOf", "(internal/reflectlite.Value).Type", "(internal/reflectlite.Value).IsNil", "internal/reflectlite.TypeOf", "(internal/reflectlite.Value).Elem", "(internal/reflectlite.Value).Set"], unfollowed := true, recurses := true, named := ["errors.errorType"], apart := false, laid := [("errors.errorType", laid_errors_errorType)], narrowed := true }
def BlockPacksUptoSaid : Prop := blockPacksUptoRow.holds Tryd.pinned (OpenSpec.upto blockPacksSpec)

/-- 'weirlaw09.BlockUnValues', WHERE WHAT IT READS IS OF BULK AT MOST 1048576: true; the input reads as it did. -/
def blockUnValuesUptoRow : OpenClaim := { program := "ytmgiichlccdcfaadoor", sum := "dc574807334c611adaaeb928834782d686947b65a85e5ba7d0af0f166e438a13", func := "weir/weirlaw09.BlockUnValues", spec := "blockUnValues", inPlace := ["internal/reflectlite.ValueOf", "(internal/reflectlite.Value).Type", "(internal/reflectlite.Value).IsNil", "internal/reflectlite.TypeOf", "(internal/reflectlite.Value).Elem", "(internal/reflectlite.Value).Set"], unfollowed := true, recurses := true, named := ["errors.errorType"], apart := false, laid := [("errors.errorType", laid_errors_errorType)], narrowed := true }
def BlockUnValuesUptoSaid : Prop := blockUnValuesUptoRow.holds Tryd.pinned (OpenSpec.upto blockUnValuesSpec)

/-- 'weirlaw09.BlockUnTimes', WHERE WHAT IT READS IS OF BULK AT MOST 1048576: true; the input reads as it did. -/
def blockUnTimesUptoRow : OpenClaim := { program := "ytmgiichlccdcfaadoor", sum := "dc574807334c611adaaeb928834782d686947b65a85e5ba7d0af0f166e438a13", func := "weir/weirlaw09.BlockUnTimes", spec := "blockUnTimes", inPlace := ["internal/reflectlite.ValueOf", "(internal/reflectlite.Value).Type", "(internal/reflectlite.Value).IsNil", "internal/reflectlite.TypeOf", "(internal/reflectlite.Value).Elem", "(internal/reflectlite.Value).Set"], unfollowed := true, recurses := true, named := ["errors.errorType"], apart := false, laid := [("errors.errorType", laid_errors_errorType)], narrowed := true }
def BlockUnTimesUptoSaid : Prop := blockUnTimesUptoRow.holds Tryd.pinned (OpenSpec.upto blockUnTimesSpec)

end Rows
end Go.Proofs.YtmgiichlccdcfaaDoor
