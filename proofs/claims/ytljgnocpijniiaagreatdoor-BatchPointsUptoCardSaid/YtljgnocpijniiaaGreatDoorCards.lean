/-
  DERIVED. GIVEN WITH THE SEED: THE CARDS: each row of YtljgnocpijniiaaGreatDoorRows.lean that lists a variable, with what it lists TIED to the program's text (the seventh form; the later family's looks); each row that meets fmt, with fmt's text TOLD by the authors' own Lean function (tested against real Go, not proved from fmt's source: count such statements apart). THE CARD IS WHAT COUNTS. Prove the row's statement (the work); the ties are given (YtljgnocpijniiaaGreatDoorTie.lean); close each card by the builder's one call (the guide's Derived/Test/ToyasCard.lean, 'card_holds'). Laid BY PROGRAM, IN A SANDBOX (cutbox-door.mjs). By AI agents, Wed Nov 11 2026. No macro, syntax, notation, axiom, sorry.
-/
import Derived.Test.YtljgnocpijniiaaGreatDoorRows
import GoSem.ClaimSeven
namespace Go.Proofs.YtljgnocpijniiaaGreatDoor
namespace Rows

/-- THE TIED CARD OF 'weirlaw07.BatchRights'. -/
def batchRightsCard : Claim7 := { stood := { row := batchRightsRow, standIns := [], harness := (true, "338e3b749ceb4811117c4c34eb3c05f3b2e65c099f3594978d59054573259417"), looks := true }, kinds := [], alts := [], laidByText := true, laidKinds := [.data, .handle, .pinned], laidTests := true, laidLooks := .later }
def BatchRightsCardSaid : Prop := Claim7.holds Tryz.pinned (.plain (OpenSpec.ofChange batchRightsSpec)) batchRightsCard

/-- THE TIED CARD OF 'weirlaw07.BatchChecks'. -/
def batchChecksCard : Claim7 := { stood := { row := batchChecksRow, standIns := [], harness := (true, "338e3b749ceb4811117c4c34eb3c05f3b2e65c099f3594978d59054573259417"), looks := true }, kinds := [], alts := [], laidByText := true, laidKinds := [.data, .handle, .pinned], laidTests := true, laidLooks := .later }
def BatchChecksCardSaid : Prop := Claim7.holds Tryz.pinned (.plain (OpenSpec.ofChange batchChecksSpec)) batchChecksCard

/-- THE TIED CARD OF 'weirlaw07.BatchFlats'. -/
def batchFlatsCard : Claim7 := { stood := { row := batchFlatsRow, standIns := [], harness := (true, "338e3b749ceb4811117c4c34eb3c05f3b2e65c099f3594978d59054573259417"), looks := true }, kinds := [], alts := [], laidByText := true, laidKinds := [.data, .handle, .pinned], laidTests := true, laidLooks := .later }
def BatchFlatsCardSaid : Prop := Claim7.holds Tryz.pinned (.plain (OpenSpec.ofChange batchFlatsSpec)) batchFlatsCard

/-- THE TIED CARD OF 'weirlaw07.BatchTurns'. -/
def batchTurnsCard : Claim7 := { stood := { row := batchTurnsRow, standIns := [], harness := (true, "338e3b749ceb4811117c4c34eb3c05f3b2e65c099f3594978d59054573259417"), looks := true }, kinds := [], alts := [], laidByText := true, laidKinds := [.data, .handle, .pinned], laidTests := true, laidLooks := .later }
def BatchTurnsCardSaid : Prop := Claim7.holds Tryz.pinned (.plain (OpenSpec.ofChange batchTurnsSpec)) batchTurnsCard

/-- THE TIED CARD OF 'weirlaw07.BatchOrders'. -/
def batchOrdersCard : Claim7 := { stood := { row := batchOrdersRow, standIns := [], harness := (true, "338e3b749ceb4811117c4c34eb3c05f3b2e65c099f3594978d59054573259417"), looks := true }, kinds := [], alts := [], laidByText := true, laidKinds := [.data, .handle, .pinned], laidTests := true, laidLooks := .later }
def BatchOrdersCardSaid : Prop := Claim7.holds Tryz.pinned (.plain (OpenSpec.ofChange batchOrdersSpec)) batchOrdersCard

/-- THE TIED CARD OF 'weirlaw07.BatchMerges'. -/
def batchMergesCard : Claim7 := { stood := { row := batchMergesRow, standIns := [], harness := (true, "338e3b749ceb4811117c4c34eb3c05f3b2e65c099f3594978d59054573259417"), looks := true }, kinds := [], alts := [], laidByText := true, laidKinds := [.data, .handle, .pinned], laidTests := true, laidLooks := .later }
def BatchMergesCardSaid : Prop := Claim7.holds Tryz.pinned (.plain (OpenSpec.ofChange batchMergesSpec)) batchMergesCard

/-- THE TIED CARD OF 'weirlaw07.BatchOnce'. -/
def batchOnceCard : Claim7 := { stood := { row := batchOnceRow, standIns := [], harness := (true, "338e3b749ceb4811117c4c34eb3c05f3b2e65c099f3594978d59054573259417"), looks := true }, kinds := [], alts := [], laidByText := true, laidKinds := [.data, .handle, .pinned], laidTests := true, laidLooks := .later }
def BatchOnceCardSaid : Prop := Claim7.holds Tryz.pinned (.plain (OpenSpec.ofChange batchOnceSpec)) batchOnceCard

/-- THE TIED CARD OF 'weirlaw07.BatchPoints'. -/
def batchPointsCard : Claim7 := { stood := { row := batchPointsRow, standIns := [], harness := (true, "338e3b749ceb4811117c4c34eb3c05f3b2e65c099f3594978d59054573259417"), looks := true }, kinds := [], alts := [], laidByText := true, laidKinds := [.data, .handle, .pinned], laidTests := true, laidLooks := .later }
def BatchPointsCardSaid : Prop := Claim7.holds Tryz.pinned (.plain (OpenSpec.ofChange batchPointsSpec)) batchPointsCard

/-- THE TIED CARD OF 'weirlaw07.BatchBack'. -/
def batchBackCard : Claim7 := { stood := { row := batchBackRow, standIns := [], harness := (true, "338e3b749ceb4811117c4c34eb3c05f3b2e65c099f3594978d59054573259417"), looks := true }, kinds := [], alts := [], laidByText := true, laidKinds := [.data, .handle, .pinned], laidTests := true, laidLooks := .later }
def BatchBackCardSaid : Prop := Claim7.holds Tryz.pinned (.plain (OpenSpec.ofChange batchBackSpec)) batchBackCard

/-- THE TIED CARD OF 'weirlaw07.BatchOwn'. -/
def batchOwnCard : Claim7 := { stood := { row := batchOwnRow, standIns := [], harness := (true, "338e3b749ceb4811117c4c34eb3c05f3b2e65c099f3594978d59054573259417"), looks := true }, kinds := [], alts := [], laidByText := true, laidKinds := [.data, .handle, .pinned], laidTests := true, laidLooks := .later }
def BatchOwnCardSaid : Prop := Claim7.holds Tryz.pinned (.plain (OpenSpec.ofChange batchOwnSpec)) batchOwnCard

/-- THE SECOND FORM's CARD OF 'weirlaw07.BatchRights'. -/
def batchRightsUptoCard : Claim7 := { stood := { row := batchRightsUptoRow, standIns := [], harness := (true, "338e3b749ceb4811117c4c34eb3c05f3b2e65c099f3594978d59054573259417"), looks := true }, kinds := [], alts := [], laidByText := true, laidKinds := [.data, .handle, .pinned], laidTests := true, laidLooks := .later }
def BatchRightsUptoCardSaid : Prop := Claim7.holds Tryz.pinned (.plain (OpenSpec.upto batchRightsSpec)) batchRightsUptoCard

/-- THE SECOND FORM's CARD OF 'weirlaw07.BatchChecks'. -/
def batchChecksUptoCard : Claim7 := { stood := { row := batchChecksUptoRow, standIns := [], harness := (true, "338e3b749ceb4811117c4c34eb3c05f3b2e65c099f3594978d59054573259417"), looks := true }, kinds := [], alts := [], laidByText := true, laidKinds := [.data, .handle, .pinned], laidTests := true, laidLooks := .later }
def BatchChecksUptoCardSaid : Prop := Claim7.holds Tryz.pinned (.plain (OpenSpec.upto batchChecksSpec)) batchChecksUptoCard

/-- THE SECOND FORM's CARD OF 'weirlaw07.BatchFlats'. -/
def batchFlatsUptoCard : Claim7 := { stood := { row := batchFlatsUptoRow, standIns := [], harness := (true, "338e3b749ceb4811117c4c34eb3c05f3b2e65c099f3594978d59054573259417"), looks := true }, kinds := [], alts := [], laidByText := true, laidKinds := [.data, .handle, .pinned], laidTests := true, laidLooks := .later }
def BatchFlatsUptoCardSaid : Prop := Claim7.holds Tryz.pinned (.plain (OpenSpec.upto batchFlatsSpec)) batchFlatsUptoCard

/-- THE SECOND FORM's CARD OF 'weirlaw07.BatchTurns'. -/
def batchTurnsUptoCard : Claim7 := { stood := { row := batchTurnsUptoRow, standIns := [], harness := (true, "338e3b749ceb4811117c4c34eb3c05f3b2e65c099f3594978d59054573259417"), looks := true }, kinds := [], alts := [], laidByText := true, laidKinds := [.data, .handle, .pinned], laidTests := true, laidLooks := .later }
def BatchTurnsUptoCardSaid : Prop := Claim7.holds Tryz.pinned (.plain (OpenSpec.upto batchTurnsSpec)) batchTurnsUptoCard

/-- THE SECOND FORM's CARD OF 'weirlaw07.BatchOrders'. -/
def batchOrdersUptoCard : Claim7 := { stood := { row := batchOrdersUptoRow, standIns := [], harness := (true, "338e3b749ceb4811117c4c34eb3c05f3b2e65c099f3594978d59054573259417"), looks := true }, kinds := [], alts := [], laidByText := true, laidKinds := [.data, .handle, .pinned], laidTests := true, laidLooks := .later }
def BatchOrdersUptoCardSaid : Prop := Claim7.holds Tryz.pinned (.plain (OpenSpec.upto batchOrdersSpec)) batchOrdersUptoCard

/-- THE SECOND FORM's CARD OF 'weirlaw07.BatchMerges'. -/
def batchMergesUptoCard : Claim7 := { stood := { row := batchMergesUptoRow, standIns := [], harness := (true, "338e3b749ceb4811117c4c34eb3c05f3b2e65c099f3594978d59054573259417"), looks := true }, kinds := [], alts := [], laidByText := true, laidKinds := [.data, .handle, .pinned], laidTests := true, laidLooks := .later }
def BatchMergesUptoCardSaid : Prop := Claim7.holds Tryz.pinned (.plain (OpenSpec.upto batchMergesSpec)) batchMergesUptoCard

/-- THE SECOND FORM's CARD OF 'weirlaw07.BatchOnce'. -/
def batchOnceUptoCard : Claim7 := { stood := { row := batchOnceUptoRow, standIns := [], harness := (true, "338e3b749ceb4811117c4c34eb3c05f3b2e65c099f3594978d59054573259417"), looks := true }, kinds := [], alts := [], laidByText := true, laidKinds := [.data, .handle, .pinned], laidTests := true, laidLooks := .later }
def BatchOnceUptoCardSaid : Prop := Claim7.holds Tryz.pinned (.plain (OpenSpec.upto batchOnceSpec)) batchOnceUptoCard

/-- THE SECOND FORM's CARD OF 'weirlaw07.BatchPoints'. -/
def batchPointsUptoCard : Claim7 := { stood := { row := batchPointsUptoRow, standIns := [], harness := (true, "338e3b749ceb4811117c4c34eb3c05f3b2e65c099f3594978d59054573259417"), looks := true }, kinds := [], alts := [], laidByText := true, laidKinds := [.data, .handle, .pinned], laidTests := true, laidLooks := .later }
def BatchPointsUptoCardSaid : Prop := Claim7.holds Tryz.pinned (.plain (OpenSpec.upto batchPointsSpec)) batchPointsUptoCard

/-- THE SECOND FORM's CARD OF 'weirlaw07.BatchBack'. -/
def batchBackUptoCard : Claim7 := { stood := { row := batchBackUptoRow, standIns := [], harness := (true, "338e3b749ceb4811117c4c34eb3c05f3b2e65c099f3594978d59054573259417"), looks := true }, kinds := [], alts := [], laidByText := true, laidKinds := [.data, .handle, .pinned], laidTests := true, laidLooks := .later }
def BatchBackUptoCardSaid : Prop := Claim7.holds Tryz.pinned (.plain (OpenSpec.upto batchBackSpec)) batchBackUptoCard

/-- THE SECOND FORM's CARD OF 'weirlaw07.BatchOwn'. -/
def batchOwnUptoCard : Claim7 := { stood := { row := batchOwnUptoRow, standIns := [], harness := (true, "338e3b749ceb4811117c4c34eb3c05f3b2e65c099f3594978d59054573259417"), looks := true }, kinds := [], alts := [], laidByText := true, laidKinds := [.data, .handle, .pinned], laidTests := true, laidLooks := .later }
def BatchOwnUptoCardSaid : Prop := Claim7.holds Tryz.pinned (.plain (OpenSpec.upto batchOwnSpec)) batchOwnUptoCard
end Rows
end Go.Proofs.YtljgnocpijniiaaGreatDoor
