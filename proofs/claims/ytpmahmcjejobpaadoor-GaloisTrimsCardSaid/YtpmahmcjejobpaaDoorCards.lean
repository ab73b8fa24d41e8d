/-
  DERIVED. GIVEN WITH THE SEED: THE CARDS: each row of YtpmahmcjejobpaaDoorRows.lean that lists a variable, with what it lists TIED to the program's text (the seventh form; the later family's looks); each row that meets fmt, with fmt's text TOLD by the authors' own Lean function (tested against real Go, not proved from fmt's source: count such statements apart). THE CARD IS WHAT COUNTS. Prove the row's statement (the work); the ties are given (YtpmahmcjejobpaaDoorTie.lean); close each card by the builder's one call (the guide's Derived/Test/ToyasCard.lean, 'card_holds'). Laid BY PROGRAM, IN A SANDBOX (cutbox-door.mjs). By AI agents, Wed Nov 11 2026. No macro, syntax, notation, axiom, sorry.
-/
import Derived.Test.YtpmahmcjejobpaaDoorRows
import GoSem.ClaimSeven
namespace Go.Proofs.YtpmahmcjejobpaaDoor
namespace Rows

/-- THE TIED CARD OF 'perigeelaw04.GaloisElements'. -/
def galoisElementsCard : Claim7 := { stood := { row := galoisElementsRow, standIns := [], harness := (true, "9c71c64ce76dcc11869bc031a18081063e663724468c8d6c5e75661b77eea64c"), looks := false }, kinds := [], alts := [], laidByText := true, laidKinds := [.data, .pinned], laidTests := true, laidLooks := .later }
def GaloisElementsCardSaid : Prop := Claim7.holds Tryd.pinned (.plain (OpenSpec.ofChange galoisElementsSpec)) galoisElementsCard

/-- THE TIED CARD OF 'perigeelaw04.GaloisPolynomials'. -/
def galoisPolynomialsCard : Claim7 := { stood := { row := galoisPolynomialsRow, standIns := [], harness := (true, "9c71c64ce76dcc11869bc031a18081063e663724468c8d6c5e75661b77eea64c"), looks := false }, kinds := [], alts := [], laidByText := true, laidKinds := [.data, .pinned], laidTests := true, laidLooks := .later }
def GaloisPolynomialsCardSaid : Prop := Claim7.holds Tryd.pinned (.plain (OpenSpec.ofChange galoisPolynomialsSpec)) galoisPolynomialsCard

/-- THE TIED CARD OF 'perigeelaw04.GaloisField'. -/
def galoisFieldCard : Claim7 := { stood := { row := galoisFieldRow, standIns := [], harness := (true, "9c71c64ce76dcc11869bc031a18081063e663724468c8d6c5e75661b77eea64c"), looks := false }, kinds := [], alts := [], laidByText := true, laidKinds := [.data, .pinned], laidTests := true, laidLooks := .later }
def GaloisFieldCardSaid : Prop := Claim7.holds Tryd.pinned (.plain (OpenSpec.ofChange galoisFieldSpec)) galoisFieldCard

/-- THE TIED CARD OF 'perigeelaw04.GaloisPowers'. -/
def galoisPowersCard : Claim7 := { stood := { row := galoisPowersRow, standIns := [], harness := (true, "9c71c64ce76dcc11869bc031a18081063e663724468c8d6c5e75661b77eea64c"), looks := false }, kinds := [], alts := [], laidByText := true, laidKinds := [.data, .pinned], laidTests := true, laidLooks := .later }
def GaloisPowersCardSaid : Prop := Claim7.holds Tryd.pinned (.plain (OpenSpec.ofChange galoisPowersSpec)) galoisPowersCard

/-- THE TIED CARD OF 'perigeelaw04.GaloisDivides'. -/
def galoisDividesCard : Claim7 := { stood := { row := galoisDividesRow, standIns := [], harness := (true, "9c71c64ce76dcc11869bc031a18081063e663724468c8d6c5e75661b77eea64c"), looks := false }, kinds := [], alts := [], laidByText := true, laidKinds := [.data, .pinned], laidTests := true, laidLooks := .later }
def GaloisDividesCardSaid : Prop := Claim7.holds Tryd.pinned (.plain (OpenSpec.ofChange galoisDividesSpec)) galoisDividesCard

/-- THE TIED CARD OF 'perigeelaw04.GaloisTrims'. -/
def galoisTrimsCard : Claim7 := { stood := { row := galoisTrimsRow, standIns := [], harness := (true, "9c71c64ce76dcc11869bc031a18081063e663724468c8d6c5e75661b77eea64c"), looks := false }, kinds := [], alts := [], laidByText := true, laidKinds := [.data, .pinned], laidTests := true, laidLooks := .later }
def GaloisTrimsCardSaid : Prop := Claim7.holds Tryd.pinned (.plain (OpenSpec.ofChange galoisTrimsSpec)) galoisTrimsCard

/-- THE SECOND FORM's CARD OF 'perigeelaw04.GaloisElements'. -/
def galoisElementsUptoCard : Claim7 := { stood := { row := galoisElementsUptoRow, standIns := [], harness := (true, "9c71c64ce76dcc11869bc031a18081063e663724468c8d6c5e75661b77eea64c"), looks := false }, kinds := [], alts := [], laidByText := true, laidKinds := [.data, .pinned], laidTests := true, laidLooks := .later }
def GaloisElementsUptoCardSaid : Prop := Claim7.holds Tryd.pinned (.plain (OpenSpec.upto galoisElementsSpec)) galoisElementsUptoCard

/-- THE SECOND FORM's CARD OF 'perigeelaw04.GaloisPolynomials'. -/
def galoisPolynomialsUptoCard : Claim7 := { stood := { row := galoisPolynomialsUptoRow, standIns := [], harness := (true, "9c71c64ce76dcc11869bc031a18081063e663724468c8d6c5e75661b77eea64c"), looks := false }, kinds := [], alts := [], laidByText := true, laidKinds := [.data, .pinned], laidTests := true, laidLooks := .later }
def GaloisPolynomialsUptoCardSaid : Prop := Claim7.holds Tryd.pinned (.plain (OpenSpec.upto galoisPolynomialsSpec)) galoisPolynomialsUptoCard

/-- THE SECOND FORM's CARD OF 'perigeelaw04.GaloisField'. -/
def galoisFieldUptoCard : Claim7 := { stood := { row := galoisFieldUptoRow, standIns := [], harness := (true, "9c71c64ce76dcc11869bc031a18081063e663724468c8d6c5e75661b77eea64c"), looks := false }, kinds := [], alts := [], laidByText := true, laidKinds := [.data, .pinned], laidTests := true, laidLooks := .later }
def GaloisFieldUptoCardSaid : Prop := Claim7.holds Tryd.pinned (.plain (OpenSpec.upto galoisFieldSpec)) galoisFieldUptoCard

/-- THE SECOND FORM's CARD OF 'perigeelaw04.GaloisPowers'. -/
def galoisPowersUptoCard : Claim7 := { stood := { row := galoisPowersUptoRow, standIns := [], harness := (true, "9c71c64ce76dcc11869bc031a18081063e663724468c8d6c5e75661b77eea64c"), looks := false }, kinds := [], alts := [], laidByText := true, laidKinds := [.data, .pinned], laidTests := true, laidLooks := .later }
def GaloisPowersUptoCardSaid : Prop := Claim7.holds Tryd.pinned (.plain (OpenSpec.upto galoisPowersSpec)) galoisPowersUptoCard

/-- THE SECOND FORM's CARD OF 'perigeelaw04.GaloisDivides'. -/
def galoisDividesUptoCard : Claim7 := { stood := { row := galoisDividesUptoRow, standIns := [], harness := (true, "9c71c64ce76dcc11869bc031a18081063e663724468c8d6c5e75661b77eea64c"), looks := false }, kinds := [], alts := [], laidByText := true, laidKinds := [.data, .pinned], laidTests := true, laidLooks := .later }
def GaloisDividesUptoCardSaid : Prop := Claim7.holds Tryd.pinned (.plain (OpenSpec.upto galoisDividesSpec)) galoisDividesUptoCard

/-- THE SECOND FORM's CARD OF 'perigeelaw04.GaloisTrims'. -/
def galoisTrimsUptoCard : Claim7 := { stood := { row := galoisTrimsUptoRow, standIns := [], harness := (true, "9c71c64ce76dcc11869bc031a18081063e663724468c8d6c5e75661b77eea64c"), looks := false }, kinds := [], alts := [], laidByText := true, laidKinds := [.data, .pinned], laidTests := true, laidLooks := .later }
def GaloisTrimsUptoCardSaid : Prop := Claim7.holds Tryd.pinned (.plain (OpenSpec.upto galoisTrimsSpec)) galoisTrimsUptoCard
end Rows
end Go.Proofs.YtpmahmcjejobpaaDoor
