/-
  NARROWER THAN 'FOR EVERY INPUT', by the rows' own cells (each row's printed sentence says how): BatchRights: laid · BatchChecks: laid · BatchFlats: laid · BatchTurns: laid · BatchOrders: laid · BatchMerges: laid · BatchOnce: laid · BatchPoints: laid · BatchBack: laid · BatchOwn: laid.
  DERIVED. THE GIVEN ROWS OF THIS SEAT. 10 by the template 'for every input the law returns true; each argument reads behind the call as it read before'; 0 by the template 'total and deterministic' (their statements: YtljgnocpijniiaaGreatDoorTotals.lean).
  GIVEN WITH THE SEED: the statements are not yours to turn. If you find one false, say at which input.
  Laid BY PROGRAM, IN A SANDBOX (cutbox-rows.mjs): the forced cells as the released guide's own fill.sh prints them over the translation cb0b65972219b0df… (all of the seat's roots in one cut). By AI agents, Wed Nov 11 2026. No macro, syntax, notation, axiom, sorry.
-/
import Derived.Test.YtljgnocpijniiaaGreatDoorChecked
import GoSem.PinnedTables
import GoSem.Claim
import GoSem.ClaimJoined
import GoSem.ClaimMapViews
import Derived.JoinedTies
import Derived.KernelRfl
namespace Go.Proofs.YtljgnocpijniiaaGreatDoor
/- THE CELL 'sum', in the pinned program and in every row, IS THE sha256 OF THE DUMP (.gsa) THAT YtljgnocpijniiaaGreatDoorProg.lean LOADS. Nothing in Lean hashes anything: it is a label: what it is worth is what the hold of that sum in a sandbox is worth. -/
noncomputable def Tryz.pinned : Pinned := { name := "ytljgnocpijniiaagreatdoor", sum := "cb0b65972219b0df3f9c81488cd9d02cdea019dd2436fa2804d56c562afde603", checked := Tryz.checked }
namespace Rows
def none {H : Type} : Left H := { results := [], args := [] }

/- WHAT THE LISTED PACKAGE-LEVEL VARIABLES READ AS WHEN THE CALL BEGINS. Each datum BY PROGRAM (the guide's laid-datum.mjs) off the statement by which the dump's own 'gosem.cut.vars' lays the variable. In a bare row this is a premise. The card (YtljgnocpijniiaaGreatDoorCards.lean) ties it to the program's text. -/
def laid_unicode_utf8_acceptRanges {H : Type} : DataW H := .agg [.agg [.lit (.int .u8 128), .lit (.int .u8 191)], .agg [.lit (.int .u8 160), .lit (.int .u8 191)], .agg [.lit (.int .u8 128), .lit (.int .u8 159)], .agg [.lit (.int .u8 144), .lit (.int .u8 191)], .agg [.lit (.int .u8 128), .lit (.int .u8 143)], .agg [.lit (.int .u8 0), .lit (.int .u8 0)], .agg [.lit (.int .u8 0), .lit (.int .u8 0)], .agg [.lit (.int .u8 0), .lit (.int .u8 0)], .agg [.lit (.int .u8 0), .lit (.int .u8 0)], .agg [.lit (.int .u8 0), .lit (.int .u8 0)], .agg [.lit (.int .u8 0), .lit (.int .u8 0)], .agg [.lit (.int .u8 0), .lit (.int .u8 0)], .agg [.lit (.int .u8 0), .lit (.int .u8 0)], .agg [.lit (.int .u8 0), .lit (.int .u8 0)], .agg [.lit (.int .u8 0), .lit (.int .u8 0)], .agg [.lit (.int .u8 0), .lit (.int .u8 0)]]
def laid_errors_errorType {H : Type} : DataW H := .iface "internal/reflectlite.rtype" (.agg [.ptr (.lit (.string [101, 114, 114, 111, 114]))])
/-- One of Go's own tables, pinned by name: the form's constant. -/
def laid_unicode_utf8_first : DataW Unit := Go.Pinned.utf8First

/-- 'weirlaw07.BatchRights': WHATEVER THE INPUT: true; the input reads as it did. -/
def batchRightsSpec : ChangeSpec := { name := "batchRights", fn := fun _ => fun
  | [d] => { results := [.lit (.bool true)], args := [d] }
  | _ => none }
def batchRightsRow : OpenClaim := { program := "ytljgnocpijniiaagreatdoor", sum := "cb0b65972219b0df3f9c81488cd9d02cdea019dd2436fa2804d56c562afde603", func := "weir/weirlaw07.BatchRights", spec := "batchRights", inPlace := ["slices.overlaps[weir/api.Tag]", "internal/reflectlite.ValueOf", "(internal/reflectlite.Value).Type", "(internal/reflectlite.Value).IsNil", "internal/reflectlite.TypeOf", "(internal/reflectlite.Value).Elem", "(internal/reflectlite.Value).Set"], unfollowed := true, recurses := true, named := ["unicode/utf8.first", "unicode/utf8.acceptRanges", "errors.errorType"], apart := false, laid := [("unicode/utf8.acceptRanges", laid_unicode_utf8_acceptRanges), ("errors.errorType", laid_errors_errorType), ("unicode/utf8.first", laid_unicode_utf8_first)] }
def BatchRightsSaid : Prop := batchRightsRow.holds Tryz.pinned (OpenSpec.ofChange batchRightsSpec)

/-- ITS FALSE NEIGHBOUR: 'it returns false'. Refute it at one input. -/
def batchRightsWrong : ChangeSpec := { name := "batchRights", fn := fun _ => fun
  | [d] => { results := [.lit (.bool false)], args := [d] }
  | _ => none }
def BatchRightsWrongFalsely : Prop := batchRightsRow.holds Tryz.pinned (OpenSpec.ofChange batchRightsWrong)

/-- 'weirlaw07.BatchChecks': WHATEVER THE INPUT: true; the input reads as it did. -/
def batchChecksSpec : ChangeSpec := { name := "batchChecks", fn := fun _ => fun
  | [d] => { results := [.lit (.bool true)], args := [d] }
  | _ => none }
def batchChecksRow : OpenClaim := { program := "ytljgnocpijniiaagreatdoor", sum := "cb0b65972219b0df3f9c81488cd9d02cdea019dd2436fa2804d56c562afde603", func := "weir/weirlaw07.BatchChecks", spec := "batchChecks", inPlace := ["slices.overlaps[weir/api.Tag]", "internal/reflectlite.ValueOf", "(internal/reflectlite.Value).Type", "(internal/reflectlite.Value).IsNil", "internal/reflectlite.TypeOf", "(internal/reflectlite.Value).Elem", "(internal/reflectlite.Value).Set"], unfollowed := true, recurses := true, named := ["unicode/utf8.first", "unicode/utf8.acceptRanges", "errors.errorType"], apart := false, laid := [("unicode/utf8.acceptRanges", laid_unicode_utf8_acceptRanges), ("errors.errorType", laid_errors_errorType), ("unicode/utf8.first", laid_unicode_utf8_first)] }
def BatchChecksSaid : Prop := batchChecksRow.holds Tryz.pinned (OpenSpec.ofChange batchChecksSpec)

/-- ITS FALSE NEIGHBOUR: 'it returns false'. Refute it at one input. -/
def batchChecksWrong : ChangeSpec := { name := "batchChecks", fn := fun _ => fun
  | [d] => { results := [.lit (.bool false)], args := [d] }
  | _ => none }
def BatchChecksWrongFalsely : Prop := batchChecksRow.holds Tryz.pinned (OpenSpec.ofChange batchChecksWrong)

/-- 'weirlaw07.BatchFlats': WHATEVER THE INPUT: true; the input reads as it did. -/
def batchFlatsSpec : ChangeSpec := { name := "batchFlats", fn := fun _ => fun
  | [d] => { results := [.lit (.bool true)], args := [d] }
  | _ => none }
def batchFlatsRow : OpenClaim := { program := "ytljgnocpijniiaagreatdoor", sum := "cb0b65972219b0df3f9c81488cd9d02cdea019dd2436fa2804d56c562afde603", func := "weir/weirlaw07.BatchFlats", spec := "batchFlats", inPlace := ["slices.overlaps[weir/api.Tag]", "internal/reflectlite.ValueOf", "(internal/reflectlite.Value).Type", "(internal/reflectlite.Value).IsNil", "internal/reflectlite.TypeOf", "(internal/reflectlite.Value).Elem", "(internal/reflectlite.Value).Set"], unfollowed := true, recurses := true, named := ["unicode/utf8.first", "unicode/utf8.acceptRanges", "errors.errorType"], apart := false, laid := [("unicode/utf8.acceptRanges", laid_unicode_utf8_acceptRanges), ("errors.errorType", laid_errors_errorType), ("unicode/utf8.first", laid_unicode_utf8_first)] }
def BatchFlatsSaid : Prop := batchFlatsRow.holds Tryz.pinned (OpenSpec.ofChange batchFlatsSpec)

/-- ITS FALSE NEIGHBOUR: 'it returns false'. Refute it at one input. -/
def batchFlatsWrong : ChangeSpec := { name := "batchFlats", fn := fun _ => fun
  | [d] => { results := [.lit (.bool false)], args := [d] }
  | _ => none }
def BatchFlatsWrongFalsely : Prop := batchFlatsRow.holds Tryz.pinned (OpenSpec.ofChange batchFlatsWrong)

/-- 'weirlaw07.BatchTurns': WHATEVER THE INPUT: true; the input reads as it did. -/
def batchTurnsSpec : ChangeSpec := { name := "batchTurns", fn := fun _ => fun
  | [d1, d2] => { results := [.lit (.bool true)], args := [d1, d2] }
  | _ => none }
def batchTurnsRow : OpenClaim := { program := "ytljgnocpijniiaagreatdoor", sum := "cb0b65972219b0df3f9c81488cd9d02cdea019dd2436fa2804d56c562afde603", func := "weir/weirlaw07.BatchTurns", spec := "batchTurns", inPlace := ["slices.overlaps[weir/api.Tag]", "internal/reflectlite.ValueOf", "(internal/reflectlite.Value).Type", "(internal/reflectlite.Value).IsNil", "internal/reflectlite.TypeOf", "(internal/reflectlite.Value).Elem", "(internal/reflectlite.Value).Set"], unfollowed := true, recurses := true, named := ["unicode/utf8.first", "unicode/utf8.acceptRanges", "errors.errorType"], apart := false, laid := [("unicode/utf8.acceptRanges", laid_unicode_utf8_acceptRanges), ("errors.errorType", laid_errors_errorType), ("unicode/utf8.first", laid_unicode_utf8_first)] }
def BatchTurnsSaid : Prop := batchTurnsRow.holds Tryz.pinned (OpenSpec.ofChange batchTurnsSpec)

/-- ITS FALSE NEIGHBOUR: 'it returns false'. Refute it at one input. -/
def batchTurnsWrong : ChangeSpec := { name := "batchTurns", fn := fun _ => fun
  | [d1, d2] => { results := [.lit (.bool false)], args := [d1, d2] }
  | _ => none }
def BatchTurnsWrongFalsely : Prop := batchTurnsRow.holds Tryz.pinned (OpenSpec.ofChange batchTurnsWrong)

/-- 'weirlaw07.BatchOrders': WHATEVER THE INPUT: true; the input reads as it did. -/
def batchOrdersSpec : ChangeSpec := { name := "batchOrders", fn := fun _ => fun
  | [d1, d2] => { results := [.lit (.bool true)], args := [d1, d2] }
  | _ => none }
def batchOrdersRow : OpenClaim := { program := "ytljgnocpijniiaagreatdoor", sum := "cb0b65972219b0df3f9c81488cd9d02cdea019dd2436fa2804d56c562afde603", func := "weir/weirlaw07.BatchOrders", spec := "batchOrders", inPlace := ["slices.overlaps[weir/api.Tag]", "internal/reflectlite.ValueOf", "(internal/reflectlite.Value).Type", "(internal/reflectlite.Value).IsNil", "internal/reflectlite.TypeOf", "(internal/reflectlite.Value).Elem", "(internal/reflectlite.Value).Set"], unfollowed := true, recurses := true, named := ["unicode/utf8.first", "unicode/utf8.acceptRanges", "errors.errorType"], apart := false, laid := [("unicode/utf8.acceptRanges", laid_unicode_utf8_acceptRanges), ("errors.errorType", laid_errors_errorType), ("unicode/utf8.first", laid_unicode_utf8_first)] }
def BatchOrdersSaid : Prop := batchOrdersRow.holds Tryz.pinned (OpenSpec.ofChange batchOrdersSpec)

/-- ITS FALSE NEIGHBOUR: 'it returns false'. Refute it at one input. -/
def batchOrdersWrong : ChangeSpec := { name := "batchOrders", fn := fun _ => fun
  | [d1, d2] => { results := [.lit (.bool false)], args := [d1, d2] }
  | _ => none }
def BatchOrdersWrongFalsely : Prop := batchOrdersRow.holds Tryz.pinned (OpenSpec.ofChange batchOrdersWrong)

/-- 'weirlaw07.BatchMerges': WHATEVER THE INPUT: true; the input reads as it did. -/
def batchMergesSpec : ChangeSpec := { name := "batchMerges", fn := fun _ => fun
  | [d1, d2] => { results := [.lit (.bool true)], args := [d1, d2] }
  | _ => none }
def batchMergesRow : OpenClaim := { program := "ytljgnocpijniiaagreatdoor", sum := "cb0b65972219b0df3f9c81488cd9d02cdea019dd2436fa2804d56c562afde603", func := "weir/weirlaw07.BatchMerges", spec := "batchMerges", inPlace := ["slices.overlaps[weir/api.Tag]", "internal/reflectlite.ValueOf", "(internal/reflectlite.Value).Type", "(internal/reflectlite.Value).IsNil", "internal/reflectlite.TypeOf", "(internal/reflectlite.Value).Elem", "(internal/reflectlite.Value).Set"], unfollowed := true, recurses := true, named := ["unicode/utf8.first", "unicode/utf8.acceptRanges", "errors.errorType"], apart := false, laid := [("unicode/utf8.acceptRanges", laid_unicode_utf8_acceptRanges), ("errors.errorType", laid_errors_errorType), ("unicode/utf8.first", laid_unicode_utf8_first)] }
def BatchMergesSaid : Prop := batchMergesRow.holds Tryz.pinned (OpenSpec.ofChange batchMergesSpec)

/-- ITS FALSE NEIGHBOUR: 'it returns false'. Refute it at one input. -/
def batchMergesWrong : ChangeSpec := { name := "batchMerges", fn := fun _ => fun
  | [d1, d2] => { results := [.lit (.bool false)], args := [d1, d2] }
  | _ => none }
def BatchMergesWrongFalsely : Prop := batchMergesRow.holds Tryz.pinned (OpenSpec.ofChange batchMergesWrong)

/-- 'weirlaw07.BatchOnce': WHATEVER THE INPUT: true; the input reads as it did. -/
def batchOnceSpec : ChangeSpec := { name := "batchOnce", fn := fun _ => fun
  | [d1, d2] => { results := [.lit (.bool true)], args := [d1, d2] }
  | _ => none }
def batchOnceRow : OpenClaim := { program := "ytljgnocpijniiaagreatdoor", sum := "cb0b65972219b0df3f9c81488cd9d02cdea019dd2436fa2804d56c562afde603", func := "weir/weirlaw07.BatchOnce", spec := "batchOnce", inPlace := ["slices.overlaps[weir/api.Tag]", "internal/reflectlite.ValueOf", "(internal/reflectlite.Value).Type", "(internal/reflectlite.Value).IsNil", "internal/reflectlite.TypeOf", "(internal/reflectlite.Value).Elem", "(internal/reflectlite.Value).Set"], unfollowed := true, recurses := true, named := ["unicode/utf8.first", "unicode/utf8.acceptRanges", "errors.errorType"], apart := false, laid := [("unicode/utf8.acceptRanges", laid_unicode_utf8_acceptRanges), ("errors.errorType", laid_errors_errorType), ("unicode/utf8.first", laid_unicode_utf8_first)] }
def BatchOnceSaid : Prop := batchOnceRow.holds Tryz.pinned (OpenSpec.ofChange batchOnceSpec)

/-- ITS FALSE NEIGHBOUR: 'it returns false'. Refute it at one input. -/
def batchOnceWrong : ChangeSpec := { name := "batchOnce", fn := fun _ => fun
  | [d1, d2] => { results := [.lit (.bool false)], args := [d1, d2] }
  | _ => none }
def BatchOnceWrongFalsely : Prop := batchOnceRow.holds Tryz.pinned (OpenSpec.ofChange batchOnceWrong)

/-- 'weirlaw07.BatchPoints': WHATEVER THE INPUT: true; the input reads as it did. -/
def batchPointsSpec : ChangeSpec := { name := "batchPoints", fn := fun _ => fun
  | [d] => { results := [.lit (.bool true)], args := [d] }
  | _ => none }
def batchPointsRow : OpenClaim := { program := "ytljgnocpijniiaagreatdoor", sum := "cb0b65972219b0df3f9c81488cd9d02cdea019dd2436fa2804d56c562afde603", func := "weir/weirlaw07.BatchPoints", spec := "batchPoints", inPlace := ["slices.overlaps[weir/api.Tag]", "internal/reflectlite.ValueOf", "(internal/reflectlite.Value).Type", "(internal/reflectlite.Value).IsNil", "internal/reflectlite.TypeOf", "(internal/reflectlite.Value).Elem", "(internal/reflectlite.Value).Set"], unfollowed := true, recurses := true, named := ["unicode/utf8.first", "unicode/utf8.acceptRanges", "errors.errorType"], apart := false, laid := [("unicode/utf8.acceptRanges", laid_unicode_utf8_acceptRanges), ("errors.errorType", laid_errors_errorType), ("unicode/utf8.first", laid_unicode_utf8_first)] }
def BatchPointsSaid : Prop := batchPointsRow.holds Tryz.pinned (OpenSpec.ofChange batchPointsSpec)

/-- ITS FALSE NEIGHBOUR: 'it returns false'. Refute it at one input. -/
def batchPointsWrong : ChangeSpec := { name := "batchPoints", fn := fun _ => fun
  | [d] => { results := [.lit (.bool false)], args := [d] }
  | _ => none }
def BatchPointsWrongFalsely : Prop := batchPointsRow.holds Tryz.pinned (OpenSpec.ofChange batchPointsWrong)

/-- 'weirlaw07.BatchBack': WHATEVER THE INPUT: true; the input reads as it did. -/
def batchBackSpec : ChangeSpec := { name := "batchBack", fn := fun _ => fun
  | [d] => { results := [.lit (.bool true)], args := [d] }
  | _ => none }
def batchBackRow : OpenClaim := { program := "ytljgnocpijniiaagreatdoor", sum := "cb0b65972219b0df3f9c81488cd9d02cdea019dd2436fa2804d56c562afde603", func := "weir/weirlaw07.BatchBack", spec := "batchBack", inPlace := ["slices.overlaps[weir/api.Tag]", "internal/reflectlite.ValueOf", "(internal/reflectlite.Value).Type", "(internal/reflectlite.Value).IsNil", "internal/reflectlite.TypeOf", "(internal/reflectlite.Value).Elem", "(internal/reflectlite.Value).Set"], unfollowed := true, recurses := true, named := ["unicode/utf8.first", "unicode/utf8.acceptRanges", "errors.errorType"], apart := false, laid := [("unicode/utf8.acceptRanges", laid_unicode_utf8_acceptRanges), ("errors.errorType", laid_errors_errorType), ("unicode/utf8.first", laid_unicode_utf8_first)] }
def BatchBackSaid : Prop := batchBackRow.holds Tryz.pinned (OpenSpec.ofChange batchBackSpec)

/-- ITS FALSE NEIGHBOUR: 'it returns false'. Refute it at one input. -/
def batchBackWrong : ChangeSpec := { name := "batchBack", fn := fun _ => fun
  | [d] => { results := [.lit (.bool false)], args := [d] }
  | _ => none }
def BatchBackWrongFalsely : Prop := batchBackRow.holds Tryz.pinned (OpenSpec.ofChange batchBackWrong)

/-- 'weirlaw07.BatchOwn': WHATEVER THE INPUT: true; the input reads as it did. -/
def batchOwnSpec : ChangeSpec := { name := "batchOwn", fn := fun _ => fun
  | [d1, d2] => { results := [.lit (.bool true)], args := [d1, d2] }
  | _ => none }
def batchOwnRow : OpenClaim := { program := "ytljgnocpijniiaagreatdoor", sum := "cb0b65972219b0df3f9c81488cd9d02cdea019dd2436fa2804d56c562afde603", func := "weir/weirlaw07.BatchOwn", spec := "batchOwn", inPlace := ["slices.overlaps[weir/api.Tag]", "internal/reflectlite.ValueOf", "(internal/reflectlite.Value).Type", "(internal/reflectlite.Value).IsNil", "internal/reflectlite.TypeOf", "(internal/reflectlite.Value).Elem", "(internal/reflectlite.Value).Set"], unfollowed := true, recurses := true, named := ["unicode/utf8.first", "unicode/utf8.acceptRanges", "errors.errorType"], apart := false, laid := [("unicode/utf8.acceptRanges", laid_unicode_utf8_acceptRanges), ("errors.errorType", laid_errors_errorType), ("unicode/utf8.first", laid_unicode_utf8_first)] }
def BatchOwnSaid : Prop := batchOwnRow.holds Tryz.pinned (OpenSpec.ofChange batchOwnSpec)

/-- ITS FALSE NEIGHBOUR: 'it returns false'. Refute it at one input. -/
def batchOwnWrong : ChangeSpec := { name := "batchOwn", fn := fun _ => fun
  | [d1, d2] => { results := [.lit (.bool false)], args := [d1, d2] }
  | _ => none }
def BatchOwnWrongFalsely : Prop := batchOwnRow.holds Tryz.pinned (OpenSpec.ofChange batchOwnWrong)

/- THE SECOND FORM. 'bulk': how many values and letters a reading holds, each counted each time it is reached (what is shared counts as often as it is met; a slice's spare places count too). A statement '..UptoSaid' is the law's where the arguments, and the package variables that the reading takes, are together of bulk at most 1048576: NARROWER than '..Said'. Prove '..Said' where nothing that the law and all that it calls make is longer than what came in: it says more and counts as full. Else prove '..UptoSaid'. A law counts once. -/
mutual
def uptoBulk {H : Type} : DataW H → Nat
  | .lit (.string bytes) => bytes.length + 1
  | .lit _ => 1
  | .nil => 1
  | .ptr d => uptoBulk d + 1
  | .slice elems spare => uptoBulkAll elems + uptoBulkAll spare + 1
  | .agg parts => uptoBulkAll parts + 1
  | .iface _ d => uptoBulk d + 1
  | .map entries => uptoBulkEntries entries + 1
  | .held _ => 1
def uptoBulkAll {H : Type} : List (DataW H) → Nat
  | [] => 0
  | d :: r => uptoBulk d + uptoBulkAll r
def uptoBulkEntries {H : Type} : List (Lit × DataW H) → Nat
  | [] => 0
  | x :: r => uptoBulkEntry x + uptoBulkEntries r
def uptoBulkEntry {H : Type} : Lit × DataW H → Nat
  | (.string bytes, d) => bytes.length + uptoBulk d + 1
  | (_, d) => uptoBulk d + 1
 end
def uptoSmall : (H : Type) → List (DataW H) → Bool := fun _ ds => decide (uptoBulkAll ds ≤ 1048576)
def OpenSpec.upto (s : _root_.Go.ChangeSpec) : _root_.Go.OpenSpec := { _root_.Go.OpenSpec.ofChange s with cond := some uptoSmall }

/-- 'weirlaw07.BatchRights', WHERE WHAT IT READS IS OF BULK AT MOST 1048576: true; the input reads as it did. -/
def batchRightsUptoRow : OpenClaim := { program := "ytljgnocpijniiaagreatdoor", sum := "cb0b65972219b0df3f9c81488cd9d02cdea019dd2436fa2804d56c562afde603", func := "weir/weirlaw07.BatchRights", spec := "batchRights", inPlace := ["slices.overlaps[weir/api.Tag]", "internal/reflectlite.ValueOf", "(internal/reflectlite.Value).Type", "(internal/reflectlite.Value).IsNil", "internal/reflectlite.TypeOf", "(internal/reflectlite.Value).Elem", "(internal/reflectlite.Value).Set"], unfollowed := true, recurses := true, named := ["unicode/utf8.first", "unicode/utf8.acceptRanges", "errors.errorType"], apart := false, laid := [("unicode/utf8.acceptRanges", laid_unicode_utf8_acceptRanges), ("errors.errorType", laid_errors_errorType), ("unicode/utf8.first", laid_unicode_utf8_first)], narrowed := true }
def BatchRightsUptoSaid : Prop := batchRightsUptoRow.holds Tryz.pinned (OpenSpec.upto batchRightsSpec)

/-- 'weirlaw07.BatchChecks', WHERE WHAT IT READS IS OF BULK AT MOST 1048576: true; the input reads as it did. -/
def batchChecksUptoRow : OpenClaim := { program := "ytljgnocpijniiaagreatdoor", sum := "cb0b65972219b0df3f9c81488cd9d02cdea019dd2436fa2804d56c562afde603", func := "weir/weirlaw07.BatchChecks", spec := "batchChecks", inPlace := ["slices.overlaps[weir/api.Tag]", "internal/reflectlite.ValueOf", "(internal/reflectlite.Value).Type", "(internal/reflectlite.Value).IsNil", "internal/reflectlite.TypeOf", "(internal/reflectlite.Value).Elem", "(internal/reflectlite.Value).Set"], unfollowed := true, recurses := true, named := ["unicode/utf8.first", "unicode/utf8.acceptRanges", "errors.errorType"], apart := false, laid := [("unicode/utf8.acceptRanges", laid_unicode_utf8_acceptRanges), ("errors.errorType", laid_errors_errorType), ("unicode/utf8.first", laid_unicode_utf8_first)], narrowed := true }
def BatchChecksUptoSaid : Prop := batchChecksUptoRow.holds Tryz.pinned (OpenSpec.upto batchChecksSpec)

/-- 'weirlaw07.BatchFlats', WHERE WHAT IT READS IS OF BULK AT MOST 1048576: true; the input reads as it did. -/
def batchFlatsUptoRow : OpenClaim := { program := "ytljgnocpijniiaagreatdoor", sum := "cb0b65972219b0df3f9c81488cd9d02cdea019dd2436fa2804d56c562afde603", func := "weir/weirlaw07.BatchFlats", spec := "batchFlats", inPlace := ["slices.overlaps[weir/api.Tag]", "internal/reflectlite.ValueOf", "(internal/reflectlite.Value).Type", "(internal/reflectlite.Value).IsNil", "internal/reflectlite.TypeOf", "(internal/reflectlite.Value).Elem", "(internal/reflectlite.Value).Set"], unfollowed := true, recurses := true, named := ["unicode/utf8.first", "unicode/utf8.acceptRanges", "errors.errorType"], apart := false, laid := [("unicode/utf8.acceptRanges", laid_unicode_utf8_acceptRanges), ("errors.errorType", laid_errors_errorType), ("unicode/utf8.first", laid_unicode_utf8_first)], narrowed := true }
def BatchFlatsUptoSaid : Prop := batchFlatsUptoRow.holds Tryz.pinned (OpenSpec.upto batchFlatsSpec)

/-- 'weirlaw07.BatchTurns', WHERE WHAT IT READS IS OF BULK AT MOST 1048576: true; the input reads as it did. -/
def batchTurnsUptoRow : OpenClaim := { program := "ytljgnocpijniiaagreatdoor", sum := "cb0b65972219b0df3f9c81488cd9d02cdea019dd2436fa2804d56c562afde603", func := "weir/weirlaw07.BatchTurns", spec := "batchTurns", inPlace := ["slices.overlaps[weir/api.Tag]", "internal/reflectlite.ValueOf", "(internal/reflectlite.Value).Type", "(internal/reflectlite.Value).IsNil", "internal/reflectlite.TypeOf", "(internal/reflectlite.Value).Elem", "(internal/reflectlite.Value).Set"], unfollowed := true, recurses := true, named := ["unicode/utf8.first", "unicode/utf8.acceptRanges", "errors.errorType"], apart := false, laid := [("unicode/utf8.acceptRanges", laid_unicode_utf8_acceptRanges), ("errors.errorType", laid_errors_errorType), ("unicode/utf8.first", laid_unicode_utf8_first)], narrowed := true }
def BatchTurnsUptoSaid : Prop := batchTurnsUptoRow.holds Tryz.pinned (OpenSpec.upto batchTurnsSpec)

/-- 'weirlaw07.BatchOrders', WHERE WHAT IT READS IS OF BULK AT MOST 1048576: true; the input reads as it did. -/
def batchOrdersUptoRow : OpenClaim := { program := "ytljgnocpijniiaagreatdoor", sum := "cb0b65972219b0df3f9c81488cd9d02cdea019dd2436fa2804d56c562afde603", func := "weir/weirlaw07.BatchOrders", spec := "batchOrders", inPlace := ["slices.overlaps[weir/api.Tag]", "internal/reflectlite.ValueOf", "(internal/reflectlite.Value).Type", "(internal/reflectlite.Value).IsNil", "internal/reflectlite.TypeOf", "(internal/reflectlite.Value).Elem", "(internal/reflectlite.Value).Set"], unfollowed := true, recurses := true, named := ["unicode/utf8.first", "unicode/utf8.acceptRanges", "errors.errorType"], apart := false, laid := [("unicode/utf8.acceptRanges", laid_unicode_utf8_acceptRanges), ("errors.errorType", laid_errors_errorType), ("unicode/utf8.first", laid_unicode_utf8_first)], narrowed := true }
def BatchOrdersUptoSaid : Prop := batchOrdersUptoRow.holds Tryz.pinned (OpenSpec.upto batchOrdersSpec)

/-- 'weirlaw07.BatchMerges', WHERE WHAT IT READS IS OF BULK AT MOST 1048576: true; the input reads as it did. -/
def batchMergesUptoRow : OpenClaim := { program := "ytljgnocpijniiaagreatdoor", sum := "cb0b65972219b0df3f9c81488cd9d02cdea019dd2436fa2804d56c562afde603", func := "weir/weirlaw07.BatchMerges", spec := "batchMerges", inPlace := ["slices.overlaps[weir/api.Tag]", "internal/reflectlite.ValueOf", "(internal/reflectlite.Value).Type", "(internal/reflectlite.Value).IsNil", "internal/reflectlite.TypeOf", "(internal/reflectlite.Value).Elem", "(internal/reflectlite.Value).Set"], unfollowed := true, recurses := true, named := ["unicode/utf8.first", "unicode/utf8.acceptRanges", "errors.errorType"], apart := false, laid := [("unicode/utf8.acceptRanges", laid_unicode_utf8_acceptRanges), ("errors.errorType", laid_errors_errorType), ("unicode/utf8.first", laid_unicode_utf8_first)], narrowed := true }
def BatchMergesUptoSaid : Prop := batchMergesUptoRow.holds Tryz.pinned (OpenSpec.upto batchMergesSpec)

/-- 'weirlaw07.BatchOnce', WHERE WHAT IT READS IS OF BULK AT MOST 1048576: true; the input reads as it did. -/
def batchOnceUptoRow : OpenClaim := { program := "ytljgnocpijniiaagreatdoor", sum := "cb0b65972219b0df3f9c81488cd9d02cdea019dd2436fa2804d56c562afde603", func := "weir/weirlaw07.BatchOnce", spec := "batchOnce", inPlace := ["slices.overlaps[weir/api.Tag]", "internal/reflectlite.ValueOf", "(internal/reflectlite.Value).Type", "(internal/reflectlite.Value).IsNil", "internal/reflectlite.TypeOf", "(internal/reflectlite.Value).Elem", "(internal/reflectlite.Value).Set"], unfollowed := true, recurses := true, named := ["unicode/utf8.first", "unicode/utf8.acceptRanges", "errors.errorType"], apart := false, laid := [("unicode/utf8.acceptRanges", laid_unicode_utf8_acceptRanges), ("errors.errorType", laid_errors_errorType), ("unicode/utf8.first", laid_unicode_utf8_first)], narrowed := true }
def BatchOnceUptoSaid : Prop := batchOnceUptoRow.holds Tryz.pinned (OpenSpec.upto batchOnceSpec)

/-- 'weirlaw07.BatchPoints', WHERE WHAT IT READS IS OF BULK AT MOST 1048576: true; the input reads as it did. -/
def batchPointsUptoRow : OpenClaim := { program := "ytljgnocpijniiaagreatdoor", sum := "cb0b65972219b0df3f9c81488cd9d02cdea019dd2436fa2804d56c562afde603", func := "weir/weirlaw07.BatchPoints", spec := "batchPoints", inPlace := ["slices.overlaps[weir/api.Tag]", "internal/reflectlite.ValueOf", "(internal/reflectlite.Value).Type", "(internal/reflectlite.Value).IsNil", "internal/reflectlite.TypeOf", "(internal/reflectlite.Value).Elem", "(internal/reflectlite.Value).Set"], unfollowed := true, recurses := true, named := ["unicode/utf8.first", "unicode/utf8.acceptRanges", "errors.errorType"], apart := false, laid := [("unicode/utf8.acceptRanges", laid_unicode_utf8_acceptRanges), ("errors.errorType", laid_errors_errorType), ("unicode/utf8.first", laid_unicode_utf8_first)], narrowed := true }
def BatchPointsUptoSaid : Prop := batchPointsUptoRow.holds Tryz.pinned (OpenSpec.upto batchPointsSpec)

/-- 'weirlaw07.BatchBack', WHERE WHAT IT READS IS OF BULK AT MOST 1048576: true; the input reads as it did. -/
def batchBackUptoRow : OpenClaim := { program := "ytljgnocpijniiaagreatdoor", sum := "cb0b65972219b0df3f9c81488cd9d02cdea019dd2436fa2804d56c562afde603", func := "weir/weirlaw07.BatchBack", spec := "batchBack", inPlace := ["slices.overlaps[weir/api.Tag]", "internal/reflectlite.ValueOf", "(internal/reflectlite.Value).Type", "(internal/reflectlite.Value).IsNil", "internal/reflectlite.TypeOf", "(internal/reflectlite.Value).Elem", "(internal/reflectlite.Value).Set"], unfollowed := true, recurses := true, named := ["unicode/utf8.first", "unicode/utf8.acceptRanges", "errors.errorType"], apart := false, laid := [("unicode/utf8.acceptRanges", laid_unicode_utf8_acceptRanges), ("errors.errorType", laid_errors_errorType), ("unicode/utf8.first", laid_unicode_utf8_first)], narrowed := true }
def BatchBackUptoSaid : Prop := batchBackUptoRow.holds Tryz.pinned (OpenSpec.upto batchBackSpec)

/-- 'weirlaw07.BatchOwn', WHERE WHAT IT READS IS OF BULK AT MOST 1048576: true; the input reads as it did. -/
def batchOwnUptoRow : OpenClaim := { program := "ytljgnocpijniiaagreatdoor", sum := "cb0b65972219b0df3f9c81488cd9d02cdea019dd2436fa2804d56c562afde603", func := "weir/weirlaw07.BatchOwn", spec := "batchOwn", inPlace := ["slices.overlaps[weir/api.Tag]", "internal/reflectlite.ValueOf", "(internal/reflectlite.Value).Type", "(internal/reflectlite.Value).IsNil", "internal/reflectlite.TypeOf", "(internal/reflectlite.Value).Elem", "(internal/reflectlite.Value).Set"], unfollowed := true, recurses := true, named := ["unicode/utf8.first", "unicode/utf8.acceptRanges", "errors.errorType"], apart := false, laid := [("unicode/utf8.acceptRanges", laid_unicode_utf8_acceptRanges), ("errors.errorType", laid_errors_errorType), ("unicode/utf8.first", laid_unicode_utf8_first)], narrowed := true }
def BatchOwnUptoSaid : Prop := batchOwnUptoRow.holds Tryz.pinned (OpenSpec.upto batchOwnSpec)

end Rows
end Go.Proofs.YtljgnocpijniiaaGreatDoor
