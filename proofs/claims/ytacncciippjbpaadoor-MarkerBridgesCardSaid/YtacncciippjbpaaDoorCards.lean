/-
  DERIVED. GIVEN WITH THE SEED: THE CARDS: each row of YtacncciippjbpaaDoorRows.lean that lists a variable, with what it lists TIED to the program's text (the seventh form; the later family's looks); each row that meets fmt, with fmt's text TOLD by the authors' own Lean function (tested against real Go, not proved from fmt's source: count such statements apart). THE CARD IS WHAT COUNTS. Prove the row's statement (the work); the ties are given (YtacncciippjbpaaDoorTie.lean); close each card by the builder's one call (the guide's Derived/Test/ToyasCard.lean, 'card_holds'). Laid BY PROGRAM, IN A SANDBOX (cutbox-door.mjs). By AI agents, Wed Nov 11 2026. No macro, syntax, notation, axiom, sorry.
-/
import Derived.Test.YtacncciippjbpaaDoorRows
import GoSem.ClaimSeven
namespace Go.Proofs.YtacncciippjbpaaDoor
namespace Rows

/-- THE TIED CARD OF 'perigeelaw08.MarkerMixes'. -/
def markerMixesCard : Claim7 := { stood := { row := markerMixesRow, standIns := [], harness := (true, "72a70ea111a91b1a74b35764602a7d735d062668cfa379555d5844050e45fd99"), looks := false }, kinds := [], alts := [], laidByText := true, laidKinds := [.data, .pinned], laidTests := true, laidLooks := .later }
def MarkerMixesCardSaid : Prop := Claim7.holds Tryd.pinned (.plain (OpenSpec.ofChange markerMixesSpec)) markerMixesCard

/-- THE TIED CARD OF 'perigeelaw08.MarkerFinds'. -/
def markerFindsCard : Claim7 := { stood := { row := markerFindsRow, standIns := [], harness := (true, "72a70ea111a91b1a74b35764602a7d735d062668cfa379555d5844050e45fd99"), looks := false }, kinds := [], alts := [], laidByText := true, laidKinds := [.data, .pinned], laidTests := true, laidLooks := .later }
def MarkerFindsCardSaid : Prop := Claim7.holds Tryd.pinned (.plain (OpenSpec.ofChange markerFindsSpec)) markerFindsCard

/-- THE TIED CARD OF 'perigeelaw08.MarkerPortions'. -/
def markerPortionsCard : Claim7 := { stood := { row := markerPortionsRow, standIns := [], harness := (true, "72a70ea111a91b1a74b35764602a7d735d062668cfa379555d5844050e45fd99"), looks := false }, kinds := [], alts := [], laidByText := true, laidKinds := [.data, .pinned], laidTests := true, laidLooks := .later }
def MarkerPortionsCardSaid : Prop := Claim7.holds Tryd.pinned (.plain (OpenSpec.ofChange markerPortionsSpec)) markerPortionsCard

/-- THE TIED CARD OF 'perigeelaw08.MarkerBridges'. -/
def markerBridgesCard : Claim7 := { stood := { row := markerBridgesRow, standIns := [], harness := (true, "72a70ea111a91b1a74b35764602a7d735d062668cfa379555d5844050e45fd99"), looks := false }, kinds := [], alts := [], laidByText := true, laidKinds := [.data, .pinned], laidTests := true, laidLooks := .later }
def MarkerBridgesCardSaid : Prop := Claim7.holds Tryd.pinned (.plain (OpenSpec.ofChange markerBridgesSpec)) markerBridgesCard

/-- THE TIED CARD OF 'perigeelaw08.MarkerNone'. -/
def markerNoneCard : Claim7 := { stood := { row := markerNoneRow, standIns := [], harness := (true, "72a70ea111a91b1a74b35764602a7d735d062668cfa379555d5844050e45fd99"), looks := false }, kinds := [], alts := [], laidByText := true, laidKinds := [.data, .pinned], laidTests := true, laidLooks := .later }
def MarkerNoneCardSaid : Prop := Claim7.holds Tryd.pinned (.plain (OpenSpec.ofChange markerNoneSpec)) markerNoneCard

/-- THE TIED CARD OF 'perigeelaw08.MarkerPeriod'. -/
def markerPeriodCard : Claim7 := { stood := { row := markerPeriodRow, standIns := [], harness := (true, "72a70ea111a91b1a74b35764602a7d735d062668cfa379555d5844050e45fd99"), looks := false }, kinds := [], alts := [], laidByText := true, laidKinds := [.data, .pinned], laidTests := true, laidLooks := .later }
def MarkerPeriodCardSaid : Prop := Claim7.holds Tryd.pinned (.plain (OpenSpec.ofChange markerPeriodSpec)) markerPeriodCard

/-- THE SECOND FORM's CARD OF 'perigeelaw08.MarkerMixes'. -/
def markerMixesUptoCard : Claim7 := { stood := { row := markerMixesUptoRow, standIns := [], harness := (true, "72a70ea111a91b1a74b35764602a7d735d062668cfa379555d5844050e45fd99"), looks := false }, kinds := [], alts := [], laidByText := true, laidKinds := [.data, .pinned], laidTests := true, laidLooks := .later }
def MarkerMixesUptoCardSaid : Prop := Claim7.holds Tryd.pinned (.plain (OpenSpec.upto markerMixesSpec)) markerMixesUptoCard

/-- THE SECOND FORM's CARD OF 'perigeelaw08.MarkerFinds'. -/
def markerFindsUptoCard : Claim7 := { stood := { row := markerFindsUptoRow, standIns := [], harness := (true, "72a70ea111a91b1a74b35764602a7d735d062668cfa379555d5844050e45fd99"), looks := false }, kinds := [], alts := [], laidByText := true, laidKinds := [.data, .pinned], laidTests := true, laidLooks := .later }
def MarkerFindsUptoCardSaid : Prop := Claim7.holds Tryd.pinned (.plain (OpenSpec.upto markerFindsSpec)) markerFindsUptoCard

/-- THE SECOND FORM's CARD OF 'perigeelaw08.MarkerPortions'. -/
def markerPortionsUptoCard : Claim7 := { stood := { row := markerPortionsUptoRow, standIns := [], harness := (true, "72a70ea111a91b1a74b35764602a7d735d062668cfa379555d5844050e45fd99"), looks := false }, kinds := [], alts := [], laidByText := true, laidKinds := [.data, .pinned], laidTests := true, laidLooks := .later }
def MarkerPortionsUptoCardSaid : Prop := Claim7.holds Tryd.pinned (.plain (OpenSpec.upto markerPortionsSpec)) markerPortionsUptoCard

/-- THE SECOND FORM's CARD OF 'perigeelaw08.MarkerBridges'. -/
def markerBridgesUptoCard : Claim7 := { stood := { row := markerBridgesUptoRow, standIns := [], harness := (true, "72a70ea111a91b1a74b35764602a7d735d062668cfa379555d5844050e45fd99"), looks := false }, kinds := [], alts := [], laidByText := true, laidKinds := [.data, .pinned], laidTests := true, laidLooks := .later }
def MarkerBridgesUptoCardSaid : Prop := Claim7.holds Tryd.pinned (.plain (OpenSpec.upto markerBridgesSpec)) markerBridgesUptoCard

/-- THE SECOND FORM's CARD OF 'perigeelaw08.MarkerNone'. -/
def markerNoneUptoCard : Claim7 := { stood := { row := markerNoneUptoRow, standIns := [], harness := (true, "72a70ea111a91b1a74b35764602a7d735d062668cfa379555d5844050e45fd99"), looks := false }, kinds := [], alts := [], laidByText := true, laidKinds := [.data, .pinned], laidTests := true, laidLooks := .later }
def MarkerNoneUptoCardSaid : Prop := Claim7.holds Tryd.pinned (.plain (OpenSpec.upto markerNoneSpec)) markerNoneUptoCard

/-- THE SECOND FORM's CARD OF 'perigeelaw08.MarkerPeriod'. -/
def markerPeriodUptoCard : Claim7 := { stood := { row := markerPeriodUptoRow, standIns := [], harness := (true, "72a70ea111a91b1a74b35764602a7d735d062668cfa379555d5844050e45fd99"), looks := false }, kinds := [], alts := [], laidByText := true, laidKinds := [.data, .pinned], laidTests := true, laidLooks := .later }
def MarkerPeriodUptoCardSaid : Prop := Claim7.holds Tryd.pinned (.plain (OpenSpec.upto markerPeriodSpec)) markerPeriodUptoCard
end Rows
end Go.Proofs.YtacncciippjbpaaDoor
