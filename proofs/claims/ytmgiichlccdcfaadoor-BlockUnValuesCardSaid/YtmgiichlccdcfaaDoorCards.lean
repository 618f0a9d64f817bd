/-
  DERIVED. GIVEN WITH THE SEED: THE CARDS: each row of YtmgiichlccdcfaaDoorRows.lean that lists a variable, with what it lists TIED to the program's text (the seventh form; the later family's looks); each row that meets fmt, with fmt's text TOLD by the authors' own Lean function (tested against real Go, not proved from fmt's source: count such statements apart). THE CARD IS WHAT COUNTS. Prove the row's statement (the work); the ties are given (YtmgiichlccdcfaaDoorTie.lean); close each card by the builder's one call (the guide's Derived/Test/ToyasCard.lean, 'card_holds'). Laid BY PROGRAM, IN A SANDBOX (cutbox-door.mjs). By AI agents, Wed Nov 11 2026. No macro, syntax, notation, axiom, sorry.
-/
import Derived.Test.YtmgiichlccdcfaaDoorRows
import GoSem.ClaimSeven
namespace Go.Proofs.YtmgiichlccdcfaaDoor
namespace Rows

/-- THE TIED CARD OF 'weirlaw09.BlockTimes'. -/
def blockTimesCard : Claim7 := { stood := { row := blockTimesRow, standIns := [], harness := (true, "dd745070a488499dbb46aaefd723815ac8cf34a017527dffae179d5709c7498c"), looks := true }, kinds := [], alts := [], laidByText := true, laidKinds := [.handle], laidTests := true, laidLooks := .later }
def BlockTimesCardSaid : Prop := Claim7.holds Tryd.pinned (.plain (OpenSpec.ofChange blockTimesSpec)) blockTimesCard

/-- THE TIED CARD OF 'weirlaw09.BlockValues'. -/
def blockValuesCard : Claim7 := { stood := { row := blockValuesRow, standIns := [], harness := (true, "dd745070a488499dbb46aaefd723815ac8cf34a017527dffae179d5709c7498c"), looks := true }, kinds := [], alts := [], laidByText := true, laidKinds := [.handle], laidTests := true, laidLooks := .later }
def BlockValuesCardSaid : Prop := Claim7.holds Tryd.pinned (.plain (OpenSpec.ofChange blockValuesSpec)) blockValuesCard

/-- THE TIED CARD OF 'weirlaw09.BlockPacks'. -/
def blockPacksCard : Claim7 := { stood := { row := blockPacksRow, standIns := [], harness := (true, "dd745070a488499dbb46aaefd723815ac8cf34a017527dffae179d5709c7498c"), looks := true }, kinds := [], alts := [], laidByText := true, laidKinds := [.handle], laidTests := true, laidLooks := .later }
def BlockPacksCardSaid : Prop := Claim7.holds Tryd.pinned (.plain (OpenSpec.ofChange blockPacksSpec)) blockPacksCard

/-- THE TIED CARD OF 'weirlaw09.BlockUnValues'. -/
def blockUnValuesCard : Claim7 := { stood := { row := blockUnValuesRow, standIns := [], harness := (true, "dd745070a488499dbb46aaefd723815ac8cf34a017527dffae179d5709c7498c"), looks := true }, kinds := [], alts := [], laidByText := true, laidKinds := [.handle], laidTests := true, laidLooks := .later }
def BlockUnValuesCardSaid : Prop := Claim7.holds Tryd.pinned (.plain (OpenSpec.ofChange blockUnValuesSpec)) blockUnValuesCard

/-- THE TIED CARD OF 'weirlaw09.BlockUnTimes'. -/
def blockUnTimesCard : Claim7 := { stood := { row := blockUnTimesRow, standIns := [], harness := (true, "dd745070a488499dbb46aaefd723815ac8cf34a017527dffae179d5709c7498c"), looks := true }, kinds := [], alts := [], laidByText := true, laidKinds := [.handle], laidTests := true, laidLooks := .later }
def BlockUnTimesCardSaid : Prop := Claim7.holds Tryd.pinned (.plain (OpenSpec.ofChange blockUnTimesSpec)) blockUnTimesCard

/-- THE SECOND FORM's CARD OF 'weirlaw09.BlockTimes'. -/
def blockTimesUptoCard : Claim7 := { stood := { row := blockTimesUptoRow, standIns := [], harness := (true, "dd745070a488499dbb46aaefd723815ac8cf34a017527dffae179d5709c7498c"), looks := true }, kinds := [], alts := [], laidByText := true, laidKinds := [.handle], laidTests := true, laidLooks := .later }
def BlockTimesUptoCardSaid : Prop := Claim7.holds Tryd.pinned (.plain (OpenSpec.upto blockTimesSpec)) blockTimesUptoCard

/-- THE SECOND FORM's CARD OF 'weirlaw09.BlockValues'. -/
def blockValuesUptoCard : Claim7 := { stood := { row := blockValuesUptoRow, standIns := [], harness := (true, "dd745070a488499dbb46aaefd723815ac8cf34a017527dffae179d5709c7498c"), looks := true }, kinds := [], alts := [], laidByText := true, laidKinds := [.handle], laidTests := true, laidLooks := .later }
def BlockValuesUptoCardSaid : Prop := Claim7.holds Tryd.pinned (.plain (OpenSpec.upto blockValuesSpec)) blockValuesUptoCard

/-- THE SECOND FORM's CARD OF 'weirlaw09.BlockPacks'. -/
def blockPacksUptoCard : Claim7 := { stood := { row := blockPacksUptoRow, standIns := [], harness := (true, "dd745070a488499dbb46aaefd723815ac8cf34a017527dffae179d5709c7498c"), looks := true }, kinds := [], alts := [], laidByText := true, laidKinds := [.handle], laidTests := true, laidLooks := .later }
def BlockPacksUptoCardSaid : Prop := Claim7.holds Tryd.pinned (.plain (OpenSpec.upto blockPacksSpec)) blockPacksUptoCard

/-- THE SECOND FORM's CARD OF 'weirlaw09.BlockUnValues'. -/
def blockUnValuesUptoCard : Claim7 := { stood := { row := blockUnValuesUptoRow, standIns := [], harness := (true, "dd745070a488499dbb46aaefd723815ac8cf34a017527dffae179d5709c7498c"), looks := true }, kinds := [], alts := [], laidByText := true, laidKinds := [.handle], laidTests := true, laidLooks := .later }
def BlockUnValuesUptoCardSaid : Prop := Claim7.holds Tryd.pinned (.plain (OpenSpec.upto blockUnValuesSpec)) blockUnValuesUptoCard

/-- THE SECOND FORM's CARD OF 'weirlaw09.BlockUnTimes'. -/
def blockUnTimesUptoCard : Claim7 := { stood := { row := blockUnTimesUptoRow, standIns := [], harness := (true, "dd745070a488499dbb46aaefd723815ac8cf34a017527dffae179d5709c7498c"), looks := true }, kinds := [], alts := [], laidByText := true, laidKinds := [.handle], laidTests := true, laidLooks := .later }
def BlockUnTimesUptoCardSaid : Prop := Claim7.holds Tryd.pinned (.plain (OpenSpec.upto blockUnTimesSpec)) blockUnTimesUptoCard
end Rows
end Go.Proofs.YtmgiichlccdcfaaDoor
