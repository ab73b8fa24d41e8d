/-
  DERIVED. GIVEN WITH THE SEED: THE CARDS: each row of YtnibcchhhebfaaaGreatDoorRows.lean that lists a variable, with what it lists TIED to the program's text (the seventh form; the later family's looks); each row that meets fmt, with fmt's text TOLD by the authors' own Lean function (tested against real Go, not proved from fmt's source: count such statements apart). THE CARD IS WHAT COUNTS. Prove the row's statement (the work); the ties are given (YtnibcchhhebfaaaGreatDoorTie.lean); close each card by the builder's one call (the guide's Derived/Test/ToyasCard.lean, 'card_holds'). Laid BY PROGRAM, IN A SANDBOX (cutbox-door.mjs). By AI agents, Wed Nov 11 2026. No macro, syntax, notation, axiom, sorry.
-/
import Derived.Test.YtnibcchhhebfaaaGreatDoorRows
import GoSem.ClaimSeven
namespace Go.Proofs.YtnibcchhhebfaaaGreatDoor
namespace Rows

/-- THE TIED CARD OF 'perigeelaw40.DownlinkSends'. -/
def downlinkSendsCard : Claim7 := { stood := { row := downlinkSendsRow, standIns := [], harness := (true, "f2af5815af08dafb332928c062c12827d0e69416679508d2dfb24cd10f79245b"), looks := true }, kinds := [], alts := [], laidByText := true, laidKinds := [.data, .pinned], laidTests := true, laidLooks := .later }
def DownlinkSendsCardSaid : Prop := Claim7.holds Tryz.pinned (.plain (OpenSpec.ofChange downlinkSendsSpec)) downlinkSendsCard

/-- THE TIED CARD OF 'perigeelaw40.DownlinkReceives'. -/
def downlinkReceivesCard : Claim7 := { stood := { row := downlinkReceivesRow, standIns := [], harness := (true, "f2af5815af08dafb332928c062c12827d0e69416679508d2dfb24cd10f79245b"), looks := true }, kinds := [], alts := [], laidByText := true, laidKinds := [.data, .pinned], laidTests := true, laidLooks := .later }
def DownlinkReceivesCardSaid : Prop := Claim7.holds Tryz.pinned (.plain (OpenSpec.ofChange downlinkReceivesSpec)) downlinkReceivesCard

/-- THE TIED CARD OF 'perigeelaw40.DownlinkCorrects'. -/
def downlinkCorrectsCard : Claim7 := { stood := { row := downlinkCorrectsRow, standIns := [], harness := (true, "f2af5815af08dafb332928c062c12827d0e69416679508d2dfb24cd10f79245b"), looks := true }, kinds := [], alts := [], laidByText := true, laidKinds := [.data, .pinned], laidTests := true, laidLooks := .later }
def DownlinkCorrectsCardSaid : Prop := Claim7.holds Tryz.pinned (.plain (OpenSpec.ofChange downlinkCorrectsSpec)) downlinkCorrectsCard

/-- THE TIED CARD OF 'perigeelaw40.DownlinkBytes'. -/
def downlinkBytesCard : Claim7 := { stood := { row := downlinkBytesRow, standIns := [], harness := (true, "f2af5815af08dafb332928c062c12827d0e69416679508d2dfb24cd10f79245b"), looks := true }, kinds := [], alts := [], laidByText := true, laidKinds := [.data, .pinned], laidTests := true, laidLooks := .later }
def DownlinkBytesCardSaid : Prop := Claim7.holds Tryz.pinned (.plain (OpenSpec.ofChange downlinkBytesSpec)) downlinkBytesCard

/-- THE TIED CARD OF 'perigeelaw40.DownlinkPortions'. -/
def downlinkPortionsCard : Claim7 := { stood := { row := downlinkPortionsRow, standIns := [], harness := (true, "f2af5815af08dafb332928c062c12827d0e69416679508d2dfb24cd10f79245b"), looks := true }, kinds := [], alts := [], laidByText := true, laidKinds := [.data, .pinned], laidTests := true, laidLooks := .later }
def DownlinkPortionsCardSaid : Prop := Claim7.holds Tryz.pinned (.plain (OpenSpec.ofChange downlinkPortionsSpec)) downlinkPortionsCard

/-- THE TIED CARD OF 'perigeelaw40.DownlinkNone'. -/
def downlinkNoneCard : Claim7 := { stood := { row := downlinkNoneRow, standIns := [], harness := (true, "f2af5815af08dafb332928c062c12827d0e69416679508d2dfb24cd10f79245b"), looks := true }, kinds := [], alts := [], laidByText := true, laidKinds := [.data, .pinned], laidTests := true, laidLooks := .later }
def DownlinkNoneCardSaid : Prop := Claim7.holds Tryz.pinned (.plain (OpenSpec.ofChange downlinkNoneSpec)) downlinkNoneCard

/-- THE SECOND FORM's CARD OF 'perigeelaw40.DownlinkSends'. -/
def downlinkSendsUptoCard : Claim7 := { stood := { row := downlinkSendsUptoRow, standIns := [], harness := (true, "f2af5815af08dafb332928c062c12827d0e69416679508d2dfb24cd10f79245b"), looks := true }, kinds := [], alts := [], laidByText := true, laidKinds := [.data, .pinned], laidTests := true, laidLooks := .later }
def DownlinkSendsUptoCardSaid : Prop := Claim7.holds Tryz.pinned (.plain (OpenSpec.upto downlinkSendsSpec)) downlinkSendsUptoCard

/-- THE SECOND FORM's CARD OF 'perigeelaw40.DownlinkReceives'. -/
def downlinkReceivesUptoCard : Claim7 := { stood := { row := downlinkReceivesUptoRow, standIns := [], harness := (true, "f2af5815af08dafb332928c062c12827d0e69416679508d2dfb24cd10f79245b"), looks := true }, kinds := [], alts := [], laidByText := true, laidKinds := [.data, .pinned], laidTests := true, laidLooks := .later }
def DownlinkReceivesUptoCardSaid : Prop := Claim7.holds Tryz.pinned (.plain (OpenSpec.upto downlinkReceivesSpec)) downlinkReceivesUptoCard

/-- THE SECOND FORM's CARD OF 'perigeelaw40.DownlinkCorrects'. -/
def downlinkCorrectsUptoCard : Claim7 := { stood := { row := downlinkCorrectsUptoRow, standIns := [], harness := (true, "f2af5815af08dafb332928c062c12827d0e69416679508d2dfb24cd10f79245b"), looks := true }, kinds := [], alts := [], laidByText := true, laidKinds := [.data, .pinned], laidTests := true, laidLooks := .later }
def DownlinkCorrectsUptoCardSaid : Prop := Claim7.holds Tryz.pinned (.plain (OpenSpec.upto downlinkCorrectsSpec)) downlinkCorrectsUptoCard

/-- THE SECOND FORM's CARD OF 'perigeelaw40.DownlinkBytes'. -/
def downlinkBytesUptoCard : Claim7 := { stood := { row := downlinkBytesUptoRow, standIns := [], harness := (true, "f2af5815af08dafb332928c062c12827d0e69416679508d2dfb24cd10f79245b"), looks := true }, kinds := [], alts := [], laidByText := true, laidKinds := [.data, .pinned], laidTests := true, laidLooks := .later }
def DownlinkBytesUptoCardSaid : Prop := Claim7.holds Tryz.pinned (.plain (OpenSpec.upto downlinkBytesSpec)) downlinkBytesUptoCard

/-- THE SECOND FORM's CARD OF 'perigeelaw40.DownlinkPortions'. -/
def downlinkPortionsUptoCard : Claim7 := { stood := { row := downlinkPortionsUptoRow, standIns := [], harness := (true, "f2af5815af08dafb332928c062c12827d0e69416679508d2dfb24cd10f79245b"), looks := true }, kinds := [], alts := [], laidByText := true, laidKinds := [.data, .pinned], laidTests := true, laidLooks := .later }
def DownlinkPortionsUptoCardSaid : Prop := Claim7.holds Tryz.pinned (.plain (OpenSpec.upto downlinkPortionsSpec)) downlinkPortionsUptoCard

/-- THE SECOND FORM's CARD OF 'perigeelaw40.DownlinkNone'. -/
def downlinkNoneUptoCard : Claim7 := { stood := { row := downlinkNoneUptoRow, standIns := [], harness := (true, "f2af5815af08dafb332928c062c12827d0e69416679508d2dfb24cd10f79245b"), looks := true }, kinds := [], alts := [], laidByText := true, laidKinds := [.data, .pinned], laidTests := true, laidLooks := .later }
def DownlinkNoneUptoCardSaid : Prop := Claim7.holds Tryz.pinned (.plain (OpenSpec.upto downlinkNoneSpec)) downlinkNoneUptoCard
end Rows
end Go.Proofs.YtnibcchhhebfaaaGreatDoor
