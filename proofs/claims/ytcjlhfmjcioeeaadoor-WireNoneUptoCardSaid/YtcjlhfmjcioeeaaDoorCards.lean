/-
  DERIVED. GIVEN WITH THE SEED: THE CARDS: each row of YtcjlhfmjcioeeaaDoorRows.lean that lists a variable, with what it lists TIED to the program's text (the seventh form; the later family's looks); each row that meets fmt, with fmt's text TOLD by the authors' own Lean function (tested against real Go, not proved from fmt's source: count such statements apart). THE CARD IS WHAT COUNTS. Prove the row's statement (the work); the ties are given (YtcjlhfmjcioeeaaDoorTie.lean); close each card by the builder's one call (the guide's Derived/Test/ToyasCard.lean, 'card_holds'). Laid BY PROGRAM, IN A SANDBOX (cutbox-door.mjs). By AI agents, Wed Nov 11 2026. No macro, syntax, notation, axiom, sorry.
-/
import Derived.Test.YtcjlhfmjcioeeaaDoorRows
import GoSem.ClaimSeven
namespace Go.Proofs.YtcjlhfmjcioeeaaDoor
namespace Rows

/-- THE TIED CARD OF 'weirlaw03.WireSeals'. -/
def wireSealsCard : Claim7 := { stood := { row := wireSealsRow, standIns := [], harness := (true, "8400a554a302a1b33a4b6256e42ae916c08ff5dee57b43b39284c91bb1811740"), looks := true }, kinds := [], alts := [], laidByText := true, laidKinds := [.handle], laidTests := true, laidLooks := .later }
def WireSealsCardSaid : Prop := Claim7.holds Tryd.pinned (.plain (OpenSpec.ofChange wireSealsSpec)) wireSealsCard

/-- THE TIED CARD OF 'weirlaw03.WireOpens'. -/
def wireOpensCard : Claim7 := { stood := { row := wireOpensRow, standIns := [], harness := (true, "8400a554a302a1b33a4b6256e42ae916c08ff5dee57b43b39284c91bb1811740"), looks := true }, kinds := [], alts := [], laidByText := true, laidKinds := [.handle], laidTests := true, laidLooks := .later }
def WireOpensCardSaid : Prop := Claim7.holds Tryd.pinned (.plain (OpenSpec.ofChange wireOpensSpec)) wireOpensCard

/-- THE TIED CARD OF 'weirlaw03.WireReads'. -/
def wireReadsCard : Claim7 := { stood := { row := wireReadsRow, standIns := [], harness := (true, "8400a554a302a1b33a4b6256e42ae916c08ff5dee57b43b39284c91bb1811740"), looks := true }, kinds := [], alts := [], laidByText := true, laidKinds := [.handle], laidTests := true, laidLooks := .later }
def WireReadsCardSaid : Prop := Claim7.holds Tryd.pinned (.plain (OpenSpec.ofChange wireReadsSpec)) wireReadsCard

/-- THE TIED CARD OF 'weirlaw03.WireNone'. -/
def wireNoneCard : Claim7 := { stood := { row := wireNoneRow, standIns := [], harness := (true, "8400a554a302a1b33a4b6256e42ae916c08ff5dee57b43b39284c91bb1811740"), looks := true }, kinds := [], alts := [], laidByText := true, laidKinds := [.handle], laidTests := true, laidLooks := .later }
def WireNoneCardSaid : Prop := Claim7.holds Tryd.pinned (.plain (OpenSpec.ofChange wireNoneSpec)) wireNoneCard

/-- THE SECOND FORM's CARD OF 'weirlaw03.WireSeals'. -/
def wireSealsUptoCard : Claim7 := { stood := { row := wireSealsUptoRow, standIns := [], harness := (true, "8400a554a302a1b33a4b6256e42ae916c08ff5dee57b43b39284c91bb1811740"), looks := true }, kinds := [], alts := [], laidByText := true, laidKinds := [.handle], laidTests := true, laidLooks := .later }
def WireSealsUptoCardSaid : Prop := Claim7.holds Tryd.pinned (.plain (OpenSpec.upto wireSealsSpec)) wireSealsUptoCard

/-- THE SECOND FORM's CARD OF 'weirlaw03.WireOpens'. -/
def wireOpensUptoCard : Claim7 := { stood := { row := wireOpensUptoRow, standIns := [], harness := (true, "8400a554a302a1b33a4b6256e42ae916c08ff5dee57b43b39284c91bb1811740"), looks := true }, kinds := [], alts := [], laidByText := true, laidKinds := [.handle], laidTests := true, laidLooks := .later }
def WireOpensUptoCardSaid : Prop := Claim7.holds Tryd.pinned (.plain (OpenSpec.upto wireOpensSpec)) wireOpensUptoCard

/-- THE SECOND FORM's CARD OF 'weirlaw03.WireReads'. -/
def wireReadsUptoCard : Claim7 := { stood := { row := wireReadsUptoRow, standIns := [], harness := (true, "8400a554a302a1b33a4b6256e42ae916c08ff5dee57b43b39284c91bb1811740"), looks := true }, kinds := [], alts := [], laidByText := true, laidKinds := [.handle], laidTests := true, laidLooks := .later }
def WireReadsUptoCardSaid : Prop := Claim7.holds Tryd.pinned (.plain (OpenSpec.upto wireReadsSpec)) wireReadsUptoCard

/-- THE SECOND FORM's CARD OF 'weirlaw03.WireNone'. -/
def wireNoneUptoCard : Claim7 := { stood := { row := wireNoneUptoRow, standIns := [], harness := (true, "8400a554a302a1b33a4b6256e42ae916c08ff5dee57b43b39284c91bb1811740"), looks := true }, kinds := [], alts := [], laidByText := true, laidKinds := [.handle], laidTests := true, laidLooks := .later }
def WireNoneUptoCardSaid : Prop := Claim7.holds Tryd.pinned (.plain (OpenSpec.upto wireNoneSpec)) wireNoneUptoCard
end Rows
end Go.Proofs.YtcjlhfmjcioeeaaDoor
