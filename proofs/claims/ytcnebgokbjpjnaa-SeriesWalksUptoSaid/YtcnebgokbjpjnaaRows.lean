/-
  No cell of these rows narrows 'for every input' (looked for: loops, veiled, ifaces, maps, wideKeys, modest, calm, conditions, laid).
  DERIVED. THE GIVEN ROWS OF THIS SEAT. 6 by the template 'for every input the law returns true; each argument reads behind the call as it read before'; 0 by the template 'total and deterministic' (their statements: YtcnebgokbjpjnaaTotals.lean).
  GIVEN WITH THE SEED: the statements are not yours to turn. If you find one false, say at which input.
  Laid BY PROGRAM, IN A SANDBOX (cutbox-rows.mjs): the forced cells as the released guide's own fill.sh prints them over the translation bd2919bed5c31633… (all of the seat's roots in one cut). By AI agents, Wed Nov 11 2026. No macro, syntax, notation, axiom, sorry.
-/
import Derived.Test.YtcnebgokbjpjnaaChecked
import GoSem.Claim
import GoSem.ClaimJoined
import GoSem.ClaimMapViews
import Derived.JoinedTies
import Derived.KernelRfl
namespace Go.Proofs.Ytcnebgokbjpjnaa
/- THE CELL 'sum', in the pinned program and in every row, IS THE sha256 OF THE DUMP (.gsa) THAT YtcnebgokbjpjnaaProg.lean LOADS. Nothing in Lean hashes anything: it is a label: what it is worth is what the hold of that sum in a sandbox is worth. -/
noncomputable def Try.pinned : Pinned := { name := "ytcnebgokbjpjnaa", sum := "bd2919bed5c31633f2373d6c84e297cc3b458a1f10f0388c83a47e3a582cbd61", checked := Try.checked }
namespace Rows
def none {H : Type} : Left H := { results := [], args := [] }

/-- 'weirlaw08.SeriesLast': WHATEVER THE INPUT: true; the input reads as it did. -/
def seriesLastSpec : ChangeSpec := { name := "seriesLast", fn := fun _ => fun
  | [d] => { results := [.lit (.bool true)], args := [d] }
  | _ => none }
def seriesLastRow : OpenClaim := { program := "ytcnebgokbjpjnaa", sum := "bd2919bed5c31633f2373d6c84e297cc3b458a1f10f0388c83a47e3a582cbd61", func := "weir/weirlaw08.SeriesLast", spec := "seriesLast", inPlace := ["slices.overlaps[weir/api.Sample]"], unfollowed := true, recurses := true, apart := false }
def SeriesLastSaid : Prop := seriesLastRow.holds Try.pinned (OpenSpec.ofChange seriesLastSpec)

/-- ITS FALSE NEIGHBOUR: 'it returns false'. Refute it at one input. -/
def seriesLastWrong : ChangeSpec := { name := "seriesLast", fn := fun _ => fun
  | [d] => { results := [.lit (.bool false)], args := [d] }
  | _ => none }
def SeriesLastWrongFalsely : Prop := seriesLastRow.holds Try.pinned (OpenSpec.ofChange seriesLastWrong)

/-- 'weirlaw08.SeriesWalks': WHATEVER THE INPUT: true; the input reads as it did. -/
def seriesWalksSpec : ChangeSpec := { name := "seriesWalks", fn := fun _ => fun
  | [d] => { results := [.lit (.bool true)], args := [d] }
  | _ => none }
def seriesWalksRow : OpenClaim := { program := "ytcnebgokbjpjnaa", sum := "bd2919bed5c31633f2373d6c84e297cc3b458a1f10f0388c83a47e3a582cbd61", func := "weir/weirlaw08.SeriesWalks", spec := "seriesWalks", inPlace := ["slices.overlaps[weir/api.Sample]"], unfollowed := true, recurses := true, apart := false }
def SeriesWalksSaid : Prop := seriesWalksRow.holds Try.pinned (OpenSpec.ofChange seriesWalksSpec)

/-- ITS FALSE NEIGHBOUR: 'it returns false'. Refute it at one input. -/
def seriesWalksWrong : ChangeSpec := { name := "seriesWalks", fn := fun _ => fun
  | [d] => { results := [.lit (.bool false)], args := [d] }
  | _ => none }
def SeriesWalksWrongFalsely : Prop := seriesWalksRow.holds Try.pinned (OpenSpec.ofChange seriesWalksWrong)

/-- 'weirlaw08.SeriesPlays': WHATEVER THE INPUT: true; the input reads as it did. -/
def seriesPlaysSpec : ChangeSpec := { name := "seriesPlays", fn := fun _ => fun
  | [d] => { results := [.lit (.bool true)], args := [d] }
  | _ => none }
def seriesPlaysRow : OpenClaim := { program := "ytcnebgokbjpjnaa", sum := "bd2919bed5c31633f2373d6c84e297cc3b458a1f10f0388c83a47e3a582cbd61", func := "weir/weirlaw08.SeriesPlays", spec := "seriesPlays", inPlace := ["slices.overlaps[weir/api.Sample]"], unfollowed := true, recurses := true, apart := false }
def SeriesPlaysSaid : Prop := seriesPlaysRow.holds Try.pinned (OpenSpec.ofChange seriesPlaysSpec)

/-- ITS FALSE NEIGHBOUR: 'it returns false'. Refute it at one input. -/
def seriesPlaysWrong : ChangeSpec := { name := "seriesPlays", fn := fun _ => fun
  | [d] => { results := [.lit (.bool false)], args := [d] }
  | _ => none }
def SeriesPlaysWrongFalsely : Prop := seriesPlaysRow.holds Try.pinned (OpenSpec.ofChange seriesPlaysWrong)

/-- 'weirlaw08.SeriesSeldom': WHATEVER THE INPUT: true; the input reads as it did. -/
def seriesSeldomSpec : ChangeSpec := { name := "seriesSeldom", fn := fun _ => fun
  | [d] => { results := [.lit (.bool true)], args := [d] }
  | _ => none }
def seriesSeldomRow : OpenClaim := { program := "ytcnebgokbjpjnaa", sum := "bd2919bed5c31633f2373d6c84e297cc3b458a1f10f0388c83a47e3a582cbd61", func := "weir/weirlaw08.SeriesSeldom", spec := "seriesSeldom", inPlace := ["slices.overlaps[weir/api.Sample]"], unfollowed := true, recurses := true, apart := false }
def SeriesSeldomSaid : Prop := seriesSeldomRow.holds Try.pinned (OpenSpec.ofChange seriesSeldomSpec)

/-- ITS FALSE NEIGHBOUR: 'it returns false'. Refute it at one input. -/
def seriesSeldomWrong : ChangeSpec := { name := "seriesSeldom", fn := fun _ => fun
  | [d] => { results := [.lit (.bool false)], args := [d] }
  | _ => none }
def SeriesSeldomWrongFalsely : Prop := seriesSeldomRow.holds Try.pinned (OpenSpec.ofChange seriesSeldomWrong)

/-- 'weirlaw08.SeriesFork': WHATEVER THE INPUT: true; the input reads as it did. -/
def seriesForkSpec : ChangeSpec := { name := "seriesFork", fn := fun _ => fun
  | [d1, d2, d3] => { results := [.lit (.bool true)], args := [d1, d2, d3] }
  | _ => none }
def seriesForkRow : OpenClaim := { program := "ytcnebgokbjpjnaa", sum := "bd2919bed5c31633f2373d6c84e297cc3b458a1f10f0388c83a47e3a582cbd61", func := "weir/weirlaw08.SeriesFork", spec := "seriesFork", inPlace := ["slices.overlaps[weir/api.Sample]"], unfollowed := true, recurses := true, apart := false }
def SeriesForkSaid : Prop := seriesForkRow.holds Try.pinned (OpenSpec.ofChange seriesForkSpec)

/-- ITS FALSE NEIGHBOUR: 'it returns false'. Refute it at one input. -/
def seriesForkWrong : ChangeSpec := { name := "seriesFork", fn := fun _ => fun
  | [d1, d2, d3] => { results := [.lit (.bool false)], args := [d1, d2, d3] }
  | _ => none }
def SeriesForkWrongFalsely : Prop := seriesForkRow.holds Try.pinned (OpenSpec.ofChange seriesForkWrong)

/-- 'weirlaw08.SeriesNone': WHATEVER THE INPUT: true; the input reads as it did. -/
def seriesNoneSpec : ChangeSpec := { name := "seriesNone", fn := fun _ => fun
  | [d] => { results := [.lit (.bool true)], args := [d] }
  | _ => none }
def seriesNoneRow : OpenClaim := { program := "ytcnebgokbjpjnaa", sum := "bd2919bed5c31633f2373d6c84e297cc3b458a1f10f0388c83a47e3a582cbd61", func := "weir/weirlaw08.SeriesNone", spec := "seriesNone", inPlace := ["slices.overlaps[weir/api.Sample]"], unfollowed := true, recurses := true, apart := false }
def SeriesNoneSaid : Prop := seriesNoneRow.holds Try.pinned (OpenSpec.ofChange seriesNoneSpec)

/-- ITS FALSE NEIGHBOUR: 'it returns false'. Refute it at one input. -/
def seriesNoneWrong : ChangeSpec := { name := "seriesNone", fn := fun _ => fun
  | [d] => { results := [.lit (.bool false)], args := [d] }
  | _ => none }
def SeriesNoneWrongFalsely : Prop := seriesNoneRow.holds Try.pinned (OpenSpec.ofChange seriesNoneWrong)

/- THE SECOND FORM. 'bulk': how many values and letters a reading holds, each counted each time it is reached (what is shared counts as often as it is met; a slice's spare places count too). A statement '..UptoSaid' is the law's where the arguments, and the package variables that the reading takes, are together of bulk at most 1048576: NARROWER than '..Said'. Prove '..Said' where nothing that the law and all that it calls make is longer than what came in: it says more and counts as full. Else prove '..UptoSaid'. A law counts once. -/
mutual
def uptoBulk {H : Type} : DataW H → Nat
  | .lit (.string bytes) => bytes.length + 1
  | .lit _ => 1
  | .nil => 1
  | .ptr d => uptoBulk d + 1
  | .slice elems spare => uptoBulkAll elems + uptoBulkAll spare + 1
  | .agg parts => uptoBulkAll parts + 1
  | .iface _ d => uptoBulk d + 1
  | .map entries => uptoBulkEntries entries + 1
  | .held _ => 1
def uptoBulkAll {H : Type} : List (DataW H) → Nat
  | [] => 0
  | d :: r => uptoBulk d + uptoBulkAll r
def uptoBulkEntries {H : Type} : List (Lit × DataW H) → Nat
  | [] => 0
  | x :: r => uptoBulkEntry x + uptoBulkEntries r
def uptoBulkEntry {H : Type} : Lit × DataW H → Nat
  | (.string bytes, d) => bytes.length + uptoBulk d + 1
  | (_, d) => uptoBulk d + 1
 end
def uptoSmall : (H : Type) → List (DataW H) → Bool := fun _ ds => decide (uptoBulkAll ds ≤ 1048576)
def OpenSpec.upto (s : _root_.Go.ChangeSpec) : _root_.Go.OpenSpec := { _root_.Go.OpenSpec.ofChange s with cond := some uptoSmall }

/-- 'weirlaw08.SeriesLast', WHERE WHAT IT READS IS OF BULK AT MOST 1048576: true; the input reads as it did. -/
def seriesLastUptoRow : OpenClaim := { program := "ytcnebgokbjpjnaa", sum := "bd2919bed5c31633f2373d6c84e297cc3b458a1f10f0388c83a47e3a582cbd61", func := "weir/weirlaw08.SeriesLast", spec := "seriesLast", inPlace := ["slices.overlaps[weir/api.Sample]"], unfollowed := true, recurses := true, apart := false, narrowed := true }
def SeriesLastUptoSaid : Prop := seriesLastUptoRow.holds Try.pinned (OpenSpec.upto seriesLastSpec)

/-- 'weirlaw08.SeriesWalks', WHERE WHAT IT READS IS OF BULK AT MOST 1048576: true; the input reads as it did. -/
def seriesWalksUptoRow : OpenClaim := { program := "ytcnebgokbjpjnaa", sum := "bd2919bed5c31633f2373d6c84e297cc3b458a1f10f0388c83a47e3a582cbd61", func := "weir/weirlaw08.SeriesWalks", spec := "seriesWalks", inPlace := ["slices.overlaps[weir/api.Sample]"], unfollowed := true, recurses := true, apart := false, narrowed := true }
def SeriesWalksUptoSaid : Prop := seriesWalksUptoRow.holds Try.pinned (OpenSpec.upto seriesWalksSpec)

/-- 'weirlaw08.SeriesPlays', WHERE WHAT IT READS IS OF BULK AT MOST 1048576: true; the input reads as it did. -/
def seriesPlaysUptoRow : OpenClaim := { program := "ytcnebgokbjpjnaa", sum := "bd2919bed5c31633f2373d6c84e297cc3b458a1f10f0388c83a47e3a582cbd61", func := "weir/weirlaw08.SeriesPlays", spec := "seriesPlays", inPlace := ["slices.overlaps[weir/api.Sample]"], unfollowed := true, recurses := true, apart := false, narrowed := true }
def SeriesPlaysUptoSaid : Prop := seriesPlaysUptoRow.holds Try.pinned (OpenSpec.upto seriesPlaysSpec)

/-- 'weirlaw08.SeriesSeldom', WHERE WHAT IT READS IS OF BULK AT MOST 1048576: true; the input reads as it did. -/
def seriesSeldomUptoRow : OpenClaim := { program := "ytcnebgokbjpjnaa", sum := "bd2919bed5c31633f2373d6c84e297cc3b458a1f10f0388c83a47e3a582cbd61", func := "weir/weirlaw08.SeriesSeldom", spec := "seriesSeldom", inPlace := ["slices.overlaps[weir/api.Sample]"], unfollowed := true, recurses := true, apart := false, narrowed := true }
def SeriesSeldomUptoSaid : Prop := seriesSeldomUptoRow.holds Try.pinned (OpenSpec.upto seriesSeldomSpec)

/-- 'weirlaw08.SeriesFork', WHERE WHAT IT READS IS OF BULK AT MOST 1048576: true; the input reads as it did. -/
def seriesForkUptoRow : OpenClaim := { program := "ytcnebgokbjpjnaa", sum := "bd2919bed5c31633f2373d6c84e297cc3b458a1f10f0388c83a47e3a582cbd61", func := "weir/weirlaw08.SeriesFork", spec := "seriesFork", inPlace := ["slices.overlaps[weir/api.Sample]"], unfollowed := true, recurses := true, apart := false, narrowed := true }
def SeriesForkUptoSaid : Prop := seriesForkUptoRow.holds Try.pinned (OpenSpec.upto seriesForkSpec)

/-- 'weirlaw08.SeriesNone', WHERE WHAT IT READS IS OF BULK AT MOST 1048576: true; the input reads as it did. -/
def seriesNoneUptoRow : OpenClaim := { program := "ytcnebgokbjpjnaa", sum := "bd2919bed5c31633f2373d6c84e297cc3b458a1f10f0388c83a47e3a582cbd61", func := "weir/weirlaw08.SeriesNone", spec := "seriesNone", inPlace := ["slices.overlaps[weir/api.Sample]"], unfollowed := true, recurses := true, apart := false, narrowed := true }
def SeriesNoneUptoSaid : Prop := seriesNoneUptoRow.holds Try.pinned (OpenSpec.upto seriesNoneSpec)

end Rows
end Go.Proofs.Ytcnebgokbjpjnaa
