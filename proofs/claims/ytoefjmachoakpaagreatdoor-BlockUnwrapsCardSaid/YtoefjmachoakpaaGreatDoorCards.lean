/-
  DERIVED. GIVEN WITH THE SEED: THE CARDS: each row of YtoefjmachoakpaaGreatDoorRows.lean that lists a variable, with what it lists TIED to the program's text (the seventh form; the later family's looks); each row that meets fmt, with fmt's text TOLD by the authors' own Lean function (tested against real Go, not proved from fmt's source: count such statements apart). THE CARD IS WHAT COUNTS. Prove the row's statement (the work); the ties are given (YtoefjmachoakpaaGreatDoorTie.lean); close each card by the builder's one call (the guide's Derived/Test/ToyasCard.lean, 'card_holds'). Laid BY PROGRAM, IN A SANDBOX (cutbox-door.mjs). By AI agents, Wed Nov 11 2026. No macro, syntax, notation, axiom, sorry.
-/
import Derived.Test.YtoefjmachoakpaaGreatDoorRows
import GoSem.ClaimSeven
namespace Go.Proofs.YtoefjmachoakpaaGreatDoor
namespace Rows

/-- THE TIED CARD OF 'perigeelaw05.BlockDecodes'. -/
def blockDecodesCard : Claim7 := { stood := { row := blockDecodesRow, standIns := [], harness := (true, "1d32fce29afc1c7d25544fc6e23eb00042b482efd4f4ddbbe73ceb95fe93d3a9"), looks := true }, kinds := [], alts := [], laidByText := true, laidKinds := [.data, .pinned], laidTests := true, laidLooks := .later }
def BlockDecodesCardSaid : Prop := Claim7.holds Tryz.pinned (.plain (OpenSpec.ofChange blockDecodesSpec)) blockDecodesCard

/-- THE TIED CARD OF 'perigeelaw05.BlockUnwraps'. -/
def blockUnwrapsCard : Claim7 := { stood := { row := blockUnwrapsRow, standIns := [], harness := (true, "1d32fce29afc1c7d25544fc6e23eb00042b482efd4f4ddbbe73ceb95fe93d3a9"), looks := true }, kinds := [], alts := [], laidByText := true, laidKinds := [.data, .pinned], laidTests := true, laidLooks := .later }
def BlockUnwrapsCardSaid : Prop := Claim7.holds Tryz.pinned (.plain (OpenSpec.ofChange blockUnwrapsSpec)) blockUnwrapsCard

/-- THE SECOND FORM's CARD OF 'perigeelaw05.BlockDecodes'. -/
def blockDecodesUptoCard : Claim7 := { stood := { row := blockDecodesUptoRow, standIns := [], harness := (true, "1d32fce29afc1c7d25544fc6e23eb00042b482efd4f4ddbbe73ceb95fe93d3a9"), looks := true }, kinds := [], alts := [], laidByText := true, laidKinds := [.data, .pinned], laidTests := true, laidLooks := .later }
def BlockDecodesUptoCardSaid : Prop := Claim7.holds Tryz.pinned (.plain (OpenSpec.upto blockDecodesSpec)) blockDecodesUptoCard

/-- THE SECOND FORM's CARD OF 'perigeelaw05.BlockUnwraps'. -/
def blockUnwrapsUptoCard : Claim7 := { stood := { row := blockUnwrapsUptoRow, standIns := [], harness := (true, "1d32fce29afc1c7d25544fc6e23eb00042b482efd4f4ddbbe73ceb95fe93d3a9"), looks := true }, kinds := [], alts := [], laidByText := true, laidKinds := [.data, .pinned], laidTests := true, laidLooks := .later }
def BlockUnwrapsUptoCardSaid : Prop := Claim7.holds Tryz.pinned (.plain (OpenSpec.upto blockUnwrapsSpec)) blockUnwrapsUptoCard
end Rows
end Go.Proofs.YtoefjmachoakpaaGreatDoor
