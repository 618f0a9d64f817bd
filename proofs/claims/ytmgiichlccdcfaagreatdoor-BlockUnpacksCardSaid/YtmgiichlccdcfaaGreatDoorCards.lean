/-
  DERIVED. GIVEN WITH THE SEED: THE CARDS: each row of YtmgiichlccdcfaaGreatDoorRows.lean that lists a variable, with what it lists TIED to the program's text (the seventh form; the later family's looks); each row that meets fmt, with fmt's text TOLD by the authors' own Lean function (tested against real Go, not proved from fmt's source: count such statements apart). THE CARD IS WHAT COUNTS. Prove the row's statement (the work); the ties are given (YtmgiichlccdcfaaGreatDoorTie.lean); close each card by the builder's one call (the guide's Derived/Test/ToyasCard.lean, 'card_holds'). Laid BY PROGRAM, IN A SANDBOX (cutbox-door.mjs). By AI agents, Wed Nov 11 2026. No macro, syntax, notation, axiom, sorry.
-/
import Derived.Test.YtmgiichlccdcfaaGreatDoorRows
import GoSem.ClaimSeven
namespace Go.Proofs.YtmgiichlccdcfaaGreatDoor
namespace Rows

/-- THE TIED CARD OF 'weirlaw09.BlockUnpacks'. -/
def blockUnpacksCard : Claim7 := { stood := { row := blockUnpacksRow, standIns := [], harness := (true, "c4adba02ce01825c93bc12cc5df299e27f38df407f191f34d9cd8aeeacdb539a"), looks := true }, kinds := [], alts := [], laidByText := true, laidKinds := [.handle], laidTests := true, laidLooks := .later }
def BlockUnpacksCardSaid : Prop := Claim7.holds Tryz.pinned (.plain (OpenSpec.ofChange blockUnpacksSpec)) blockUnpacksCard

/-- THE SECOND FORM's CARD OF 'weirlaw09.BlockUnpacks'. -/
def blockUnpacksUptoCard : Claim7 := { stood := { row := blockUnpacksUptoRow, standIns := [], harness := (true, "c4adba02ce01825c93bc12cc5df299e27f38df407f191f34d9cd8aeeacdb539a"), looks := true }, kinds := [], alts := [], laidByText := true, laidKinds := [.handle], laidTests := true, laidLooks := .later }
def BlockUnpacksUptoCardSaid : Prop := Claim7.holds Tryz.pinned (.plain (OpenSpec.upto blockUnpacksSpec)) blockUnpacksUptoCard
end Rows
end Go.Proofs.YtmgiichlccdcfaaGreatDoor
