/-
  DERIVED. GIVEN WITH THE SEED: THE CARDS: each row of YtoefjmachoakpaaDoorRows.lean that lists a variable, with what it lists TIED to the program's text (the seventh form; the later family's looks); each row that meets fmt, with fmt's text TOLD by the authors' own Lean function (tested against real Go, not proved from fmt's source: count such statements apart). THE CARD IS WHAT COUNTS. Prove the row's statement (the work); the ties are given (YtoefjmachoakpaaDoorTie.lean); close each card by the builder's one call (the guide's Derived/Test/ToyasCard.lean, 'card_holds'). Laid BY PROGRAM, IN A SANDBOX (cutbox-door.mjs). By AI agents, Wed Nov 11 2026. No macro, syntax, notation, axiom, sorry.
-/
import Derived.Test.YtoefjmachoakpaaDoorRows
import GoSem.ClaimSeven
namespace Go.Proofs.YtoefjmachoakpaaDoor
namespace Rows

/-- THE TIED CARD OF 'perigeelaw05.BlockEncodes'. -/
def blockEncodesCard : Claim7 := { stood := { row := blockEncodesRow, standIns := [], harness := (true, "5761ea3482c9a274546ce36c8243fa0a3816b90cfc18ab197e4a9c54879278f3"), looks := true }, kinds := [], alts := [], laidByText := true, laidKinds := [.data, .pinned], laidTests := true, laidLooks := .later }
def BlockEncodesCardSaid : Prop := Claim7.holds Tryd.pinned (.plain (OpenSpec.ofChange blockEncodesSpec)) blockEncodesCard

/-- THE TIED CARD OF 'perigeelaw05.BlockCorrects'. -/
def blockCorrectsCard : Claim7 := { stood := { row := blockCorrectsRow, standIns := [], harness := (true, "5761ea3482c9a274546ce36c8243fa0a3816b90cfc18ab197e4a9c54879278f3"), looks := true }, kinds := [], alts := [], laidByText := true, laidKinds := [.data, .pinned], laidTests := true, laidLooks := .later }
def BlockCorrectsCardSaid : Prop := Claim7.holds Tryd.pinned (.plain (OpenSpec.ofChange blockCorrectsSpec)) blockCorrectsCard

/-- THE TIED CARD OF 'perigeelaw05.BlockDistance'. -/
def blockDistanceCard : Claim7 := { stood := { row := blockDistanceRow, standIns := [], harness := (true, "5761ea3482c9a274546ce36c8243fa0a3816b90cfc18ab197e4a9c54879278f3"), looks := true }, kinds := [], alts := [], laidByText := true, laidKinds := [.data, .pinned], laidTests := true, laidLooks := .later }
def BlockDistanceCardSaid : Prop := Claim7.holds Tryd.pinned (.plain (OpenSpec.ofChange blockDistanceSpec)) blockDistanceCard

/-- THE TIED CARD OF 'perigeelaw05.BlockBursts'. -/
def blockBurstsCard : Claim7 := { stood := { row := blockBurstsRow, standIns := [], harness := (true, "5761ea3482c9a274546ce36c8243fa0a3816b90cfc18ab197e4a9c54879278f3"), looks := true }, kinds := [], alts := [], laidByText := true, laidKinds := [.data, .pinned], laidTests := true, laidLooks := .later }
def BlockBurstsCardSaid : Prop := Claim7.holds Tryd.pinned (.plain (OpenSpec.ofChange blockBurstsSpec)) blockBurstsCard

/-- THE SECOND FORM's CARD OF 'perigeelaw05.BlockEncodes'. -/
def blockEncodesUptoCard : Claim7 := { stood := { row := blockEncodesUptoRow, standIns := [], harness := (true, "5761ea3482c9a274546ce36c8243fa0a3816b90cfc18ab197e4a9c54879278f3"), looks := true }, kinds := [], alts := [], laidByText := true, laidKinds := [.data, .pinned], laidTests := true, laidLooks := .later }
def BlockEncodesUptoCardSaid : Prop := Claim7.holds Tryd.pinned (.plain (OpenSpec.upto blockEncodesSpec)) blockEncodesUptoCard

/-- THE SECOND FORM's CARD OF 'perigeelaw05.BlockCorrects'. -/
def blockCorrectsUptoCard : Claim7 := { stood := { row := blockCorrectsUptoRow, standIns := [], harness := (true, "5761ea3482c9a274546ce36c8243fa0a3816b90cfc18ab197e4a9c54879278f3"), looks := true }, kinds := [], alts := [], laidByText := true, laidKinds := [.data, .pinned], laidTests := true, laidLooks := .later }
def BlockCorrectsUptoCardSaid : Prop := Claim7.holds Tryd.pinned (.plain (OpenSpec.upto blockCorrectsSpec)) blockCorrectsUptoCard

/-- THE SECOND FORM's CARD OF 'perigeelaw05.BlockDistance'. -/
def blockDistanceUptoCard : Claim7 := { stood := { row := blockDistanceUptoRow, standIns := [], harness := (true, "5761ea3482c9a274546ce36c8243fa0a3816b90cfc18ab197e4a9c54879278f3"), looks := true }, kinds := [], alts := [], laidByText := true, laidKinds := [.data, .pinned], laidTests := true, laidLooks := .later }
def BlockDistanceUptoCardSaid : Prop := Claim7.holds Tryd.pinned (.plain (OpenSpec.upto blockDistanceSpec)) blockDistanceUptoCard

/-- THE SECOND FORM's CARD OF 'perigeelaw05.BlockBursts'. -/
def blockBurstsUptoCard : Claim7 := { stood := { row := blockBurstsUptoRow, standIns := [], harness := (true, "5761ea3482c9a274546ce36c8243fa0a3816b90cfc18ab197e4a9c54879278f3"), looks := true }, kinds := [], alts := [], laidByText := true, laidKinds := [.data, .pinned], laidTests := true, laidLooks := .later }
def BlockBurstsUptoCardSaid : Prop := Claim7.holds Tryd.pinned (.plain (OpenSpec.upto blockBurstsSpec)) blockBurstsUptoCard
end Rows
end Go.Proofs.YtoefjmachoakpaaDoor
