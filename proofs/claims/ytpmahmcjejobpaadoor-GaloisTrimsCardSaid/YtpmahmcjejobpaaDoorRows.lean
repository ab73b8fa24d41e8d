/-
  NARROWER THAN 'FOR EVERY INPUT', by the rows' own cells (each row's printed sentence says how): GaloisElements: laid · GaloisPolynomials: laid · GaloisField: laid · GaloisPowers: laid · GaloisDivides: laid · GaloisTrims: laid.
  DERIVED. THE GIVEN ROWS OF THIS SEAT. 6 by the template 'for every input the law returns true; each argument reads behind the call as it read before'; 0 by the template 'total and deterministic' (their statements: YtpmahmcjejobpaaDoorTotals.lean).
  GIVEN WITH THE SEED: the statements are not yours to turn. If you find one false, say at which input.
  Laid BY PROGRAM, IN A SANDBOX (cutbox-rows.mjs): the forced cells as the released guide's own fill.sh prints them over the translation 4a5bdf689a7dd76a… (all of the seat's roots in one cut). By AI agents, Wed Nov 11 2026. No macro, syntax, notation, axiom, sorry.
-/
import Derived.Test.YtpmahmcjejobpaaDoorChecked
import GoSem.PinnedTables
import GoSem.Claim
import GoSem.ClaimJoined
import GoSem.ClaimMapViews
import Derived.JoinedTies
import Derived.KernelRfl
namespace Go.Proofs.YtpmahmcjejobpaaDoor
/- THE CELL 'sum', in the pinned program and in every row, IS THE sha256 OF THE DUMP (.gsa) THAT YtpmahmcjejobpaaDoorProg.lean LOADS. Nothing in Lean hashes anything: it is a label: what it is worth is what the hold of that sum in a sandbox is worth. -/
noncomputable def Tryd.pinned : Pinned := { name := "ytpmahmcjejobpaadoor", sum := "4a5bdf689a7dd76a91ab101ef90e78721f04e1e0e2f7b6f1867e601523d55274", checked := Tryd.checked }
namespace Rows
def none {H : Type} : Left H := { results := [], args := [] }

/- WHAT THE LISTED PACKAGE-LEVEL VARIABLES READ AS WHEN THE CALL BEGINS. Each datum BY PROGRAM (the guide's laid-datum.mjs) off the statement by which the dump's own 'gosem.cut.vars' lays the variable. In a bare row this is a premise. The card (YtpmahmcjejobpaaDoorCards.lean) ties it to the program's text. -/
def laid_unicode_utf8_acceptRanges {H : Type} : DataW H := .agg [.agg [.lit (.int .u8 128), .lit (.int .u8 191)], .agg [.lit (.int .u8 160), .lit (.int .u8 191)], .agg [.lit (.int .u8 128), .lit (.int .u8 159)], .agg [.lit (.int .u8 144), .lit (.int .u8 191)], .agg [.lit (.int .u8 128), .lit (.int .u8 143)], .agg [.lit (.int .u8 0), .lit (.int .u8 0)], .agg [.lit (.int .u8 0), .lit (.int .u8 0)], .agg [.lit (.int .u8 0), .lit (.int .u8 0)], .agg [.lit (.int .u8 0), .lit (.int .u8 0)], .agg [.lit (.int .u8 0), .lit (.int .u8 0)], .agg [.lit (.int .u8 0), .lit (.int .u8 0)], .agg [.lit (.int .u8 0), .lit (.int .u8 0)], .agg [.lit (.int .u8 0), .lit (.int .u8 0)], .agg [.lit (.int .u8 0), .lit (.int .u8 0)], .agg [.lit (.int .u8 0), .lit (.int .u8 0)], .agg [.lit (.int .u8 0), .lit (.int .u8 0)]]
/-- One of Go's own tables, pinned by name: the form's constant. -/
def laid_unicode_utf8_first : DataW Unit := Go.Pinned.utf8First

/-- 'perigeelaw04.GaloisElements': WHATEVER THE INPUT: true; the input reads as it did. -/
def galoisElementsSpec : ChangeSpec := { name := "galoisElements", fn := fun _ => fun
  | [d1, d2, d3] => { results := [.lit (.bool true)], args := [d1, d2, d3] }
  | _ => none }
def galoisElementsRow : OpenClaim := { program := "ytpmahmcjejobpaadoor", sum := "4a5bdf689a7dd76a91ab101ef90e78721f04e1e0e2f7b6f1867e601523d55274", func := "perigee/perigeelaw04.GaloisElements", spec := "galoisElements", inPlace := ["internal/bytealg.IndexByteString", "internal/bytealg.IndexString"], unfollowed := true, recurses := true, named := ["unicode/utf8.first", "unicode/utf8.acceptRanges", "internal/bytealg.MaxLen"], apart := false, laid := [("unicode/utf8.acceptRanges", laid_unicode_utf8_acceptRanges), ("unicode/utf8.first", laid_unicode_utf8_first)] }
def GaloisElementsSaid : Prop := galoisElementsRow.holds Tryd.pinned (OpenSpec.ofChange galoisElementsSpec)

/-- ITS FALSE NEIGHBOUR: 'it returns false'. Refute it at one input. -/
def galoisElementsWrong : ChangeSpec := { name := "galoisElements", fn := fun _ => fun
  | [d1, d2, d3] => { results := [.lit (.bool false)], args := [d1, d2, d3] }
  | _ => none }
def GaloisElementsWrongFalsely : Prop := galoisElementsRow.holds Tryd.pinned (OpenSpec.ofChange galoisElementsWrong)

/-- 'perigeelaw04.GaloisPolynomials': WHATEVER THE INPUT: true; the input reads as it did. -/
def galoisPolynomialsSpec : ChangeSpec := { name := "galoisPolynomials", fn := fun _ => fun
  | [d1, d2, d3] => { results := [.lit (.bool true)], args := [d1, d2, d3] }
  | _ => none }
def galoisPolynomialsRow : OpenClaim := { program := "ytpmahmcjejobpaadoor", sum := "4a5bdf689a7dd76a91ab101ef90e78721f04e1e0e2f7b6f1867e601523d55274", func := "perigee/perigeelaw04.GaloisPolynomials", spec := "galoisPolynomials", inPlace := ["internal/bytealg.IndexByteString", "internal/bytealg.IndexString"], unfollowed := true, recurses := true, named := ["unicode/utf8.first", "unicode/utf8.acceptRanges", "internal/bytealg.MaxLen"], apart := false, laid := [("unicode/utf8.acceptRanges", laid_unicode_utf8_acceptRanges), ("unicode/utf8.first", laid_unicode_utf8_first)] }
def GaloisPolynomialsSaid : Prop := galoisPolynomialsRow.holds Tryd.pinned (OpenSpec.ofChange galoisPolynomialsSpec)

/-- ITS FALSE NEIGHBOUR: 'it returns false'. Refute it at one input. -/
def galoisPolynomialsWrong : ChangeSpec := { name := "galoisPolynomials", fn := fun _ => fun
  | [d1, d2, d3] => { results := [.lit (.bool false)], args := [d1, d2, d3] }
  | _ => none }
def GaloisPolynomialsWrongFalsely : Prop := galoisPolynomialsRow.holds Tryd.pinned (OpenSpec.ofChange galoisPolynomialsWrong)

/-- 'perigeelaw04.GaloisField': WHATEVER THE INPUT: true; the input reads as it did. -/
def galoisFieldSpec : ChangeSpec := { name := "galoisField", fn := fun _ => fun
  | [d1, d2, d3] => { results := [.lit (.bool true)], args := [d1, d2, d3] }
  | _ => none }
def galoisFieldRow : OpenClaim := { program := "ytpmahmcjejobpaadoor", sum := "4a5bdf689a7dd76a91ab101ef90e78721f04e1e0e2f7b6f1867e601523d55274", func := "perigee/perigeelaw04.GaloisField", spec := "galoisField", inPlace := ["internal/bytealg.IndexByteString", "internal/bytealg.IndexString"], unfollowed := true, recurses := true, named := ["unicode/utf8.first", "unicode/utf8.acceptRanges", "internal/bytealg.MaxLen"], apart := false, laid := [("unicode/utf8.acceptRanges", laid_unicode_utf8_acceptRanges), ("unicode/utf8.first", laid_unicode_utf8_first)] }
def GaloisFieldSaid : Prop := galoisFieldRow.holds Tryd.pinned (OpenSpec.ofChange galoisFieldSpec)

/-- ITS FALSE NEIGHBOUR: 'it returns false'. Refute it at one input. -/
def galoisFieldWrong : ChangeSpec := { name := "galoisField", fn := fun _ => fun
  | [d1, d2, d3] => { results := [.lit (.bool false)], args := [d1, d2, d3] }
  | _ => none }
def GaloisFieldWrongFalsely : Prop := galoisFieldRow.holds Tryd.pinned (OpenSpec.ofChange galoisFieldWrong)

/-- 'perigeelaw04.GaloisPowers': WHATEVER THE INPUT: true; the input reads as it did. -/
def galoisPowersSpec : ChangeSpec := { name := "galoisPowers", fn := fun _ => fun
  | [d1, d2, d3] => { results := [.lit (.bool true)], args := [d1, d2, d3] }
  | _ => none }
def galoisPowersRow : OpenClaim := { program := "ytpmahmcjejobpaadoor", sum := "4a5bdf689a7dd76a91ab101ef90e78721f04e1e0e2f7b6f1867e601523d55274", func := "perigee/perigeelaw04.GaloisPowers", spec := "galoisPowers", inPlace := ["internal/bytealg.IndexByteString", "internal/bytealg.IndexString"], unfollowed := true, recurses := true, named := ["unicode/utf8.first", "unicode/utf8.acceptRanges", "internal/bytealg.MaxLen"], apart := false, laid := [("unicode/utf8.acceptRanges", laid_unicode_utf8_acceptRanges), ("unicode/utf8.first", laid_unicode_utf8_first)] }
def GaloisPowersSaid : Prop := galoisPowersRow.holds Tryd.pinned (OpenSpec.ofChange galoisPowersSpec)

/-- ITS FALSE NEIGHBOUR: 'it returns false'. Refute it at one input. -/
def galoisPowersWrong : ChangeSpec := { name := "galoisPowers", fn := fun _ => fun
  | [d1, d2, d3] => { results := [.lit (.bool false)], args := [d1, d2, d3] }
  | _ => none }
def GaloisPowersWrongFalsely : Prop := galoisPowersRow.holds Tryd.pinned (OpenSpec.ofChange galoisPowersWrong)

/-- 'perigeelaw04.GaloisDivides': WHATEVER THE INPUT: true; the input reads as it did. -/
def galoisDividesSpec : ChangeSpec := { name := "galoisDivides", fn := fun _ => fun
  | [d1, d2, d3] => { results := [.lit (.bool true)], args := [d1, d2, d3] }
  | _ => none }
def galoisDividesRow : OpenClaim := { program := "ytpmahmcjejobpaadoor", sum := "4a5bdf689a7dd76a91ab101ef90e78721f04e1e0e2f7b6f1867e601523d55274", func := "perigee/perigeelaw04.GaloisDivides", spec := "galoisDivides", inPlace := ["internal/bytealg.IndexByteString", "internal/bytealg.IndexString"], unfollowed := true, recurses := true, named := ["unicode/utf8.first", "unicode/utf8.acceptRanges", "internal/bytealg.MaxLen"], apart := false, laid := [("unicode/utf8.acceptRanges", laid_unicode_utf8_acceptRanges), ("unicode/utf8.first", laid_unicode_utf8_first)] }
def GaloisDividesSaid : Prop := galoisDividesRow.holds Tryd.pinned (OpenSpec.ofChange galoisDividesSpec)

/-- ITS FALSE NEIGHBOUR: 'it returns false'. Refute it at one input. -/
def galoisDividesWrong : ChangeSpec := { name := "galoisDivides", fn := fun _ => fun
  | [d1, d2, d3] => { results := [.lit (.bool false)], args := [d1, d2, d3] }
  | _ => none }
def GaloisDividesWrongFalsely : Prop := galoisDividesRow.holds Tryd.pinned (OpenSpec.ofChange galoisDividesWrong)

/-- 'perigeelaw04.GaloisTrims': WHATEVER THE INPUT: true; the input reads as it did. -/
def galoisTrimsSpec : ChangeSpec := { name := "galoisTrims", fn := fun _ => fun
  | [d1, d2, d3] => { results := [.lit (.bool true)], args := [d1, d2, d3] }
  | _ => none }
def galoisTrimsRow : OpenClaim := { program := "ytpmahmcjejobpaadoor", sum := "4a5bdf689a7dd76a91ab101ef90e78721f04e1e0e2f7b6f1867e601523d55274", func := "perigee/perigeelaw04.GaloisTrims", spec := "galoisTrims", inPlace := ["internal/bytealg.IndexByteString", "internal/bytealg.IndexString"], unfollowed := true, recurses := true, named := ["unicode/utf8.first", "unicode/utf8.acceptRanges", "internal/bytealg.MaxLen"], apart := false, laid := [("unicode/utf8.acceptRanges", laid_unicode_utf8_acceptRanges), ("unicode/utf8.first", laid_unicode_utf8_first)] }
def GaloisTrimsSaid : Prop := galoisTrimsRow.holds Tryd.pinned (OpenSpec.ofChange galoisTrimsSpec)

/-- ITS FALSE NEIGHBOUR: 'it returns false'. Refute it at one input. -/
def galoisTrimsWrong : ChangeSpec := { name := "galoisTrims", fn := fun _ => fun
  | [d1, d2, d3] => { results := [.lit (.bool false)], args := [d1, d2, d3] }
  | _ => none }
def GaloisTrimsWrongFalsely : Prop := galoisTrimsRow.holds Tryd.pinned (OpenSpec.ofChange galoisTrimsWrong)

/- THE SECOND FORM. 'bulk': how many values and letters a reading holds, each counted each time it is reached (what is shared counts as often as it is met; a slice's spare places count too). A statement '..UptoSaid' is the law's where the arguments, and the package variables that the reading takes, are together of bulk at most 1048576: NARROWER than '..Said'. Prove '..Said' where nothing that the law and all that it calls make is longer than what came in: it says more and counts as full. Else prove '..UptoSaid'. A law counts once. -/
mutual
def uptoBulk {H : Type} : DataW H → Nat
  | .lit (.string bytes) => bytes.length + 1
  | .lit _ => 1
  | .nil => 1
  | .ptr d => uptoBulk d + 1
  | .slice elems spare => uptoBulkAll elems + uptoBulkAll spare + 1
  | .agg parts => uptoBulkAll parts + 1
  | .iface _ d => uptoBulk d + 1
  | .map entries => uptoBulkEntries entries + 1
  | .held _ => 1
def uptoBulkAll {H : Type} : List (DataW H) → Nat
  | [] => 0
  | d :: r => uptoBulk d + uptoBulkAll r
def uptoBulkEntries {H : Type} : List (Lit × DataW H) → Nat
  | [] => 0
  | x :: r => uptoBulkEntry x + uptoBulkEntries r
def uptoBulkEntry {H : Type} : Lit × DataW H → Nat
  | (.string bytes, d) => bytes.length + uptoBulk d + 1
  | (_, d) => uptoBulk d + 1
 end
def uptoSmall : (H : Type) → List (DataW H) → Bool := fun _ ds => decide (uptoBulkAll ds ≤ 1048576)
def OpenSpec.upto (s : _root_.Go.ChangeSpec) : _root_.Go.OpenSpec := { _root_.Go.OpenSpec.ofChange s with cond := some uptoSmall }

/-- 'perigeelaw04.GaloisElements', WHERE WHAT IT READS IS OF BULK AT MOST 1048576: true; the input reads as it did. -/
def galoisElementsUptoRow : OpenClaim := { program := "ytpmahmcjejobpaadoor", sum := "4a5bdf689a7dd76a91ab101ef90e78721f04e1e0e2f7b6f1867e601523d55274", func := "perigee/perigeelaw04.GaloisElements", spec := "galoisElements", inPlace := ["internal/bytealg.IndexByteString", "internal/bytealg.IndexString"], unfollowed := true, recurses := true, named := ["unicode/utf8.first", "unicode/utf8.acceptRanges", "internal/bytealg.MaxLen"], apart := false, laid := [("unicode/utf8.acceptRanges", laid_unicode_utf8_acceptRanges), ("unicode/utf8.first", laid_unicode_utf8_first)], narrowed := true }
def GaloisElementsUptoSaid : Prop := galoisElementsUptoRow.holds Tryd.pinned (OpenSpec.upto galoisElementsSpec)

/-- 'perigeelaw04.GaloisPolynomials', WHERE WHAT IT READS IS OF BULK AT MOST 1048576: true; the input reads as it did. -/
def galoisPolynomialsUptoRow : OpenClaim := { program := "ytpmahmcjejobpaadoor", sum := "4a5bdf689a7dd76a91ab101ef90e78721f04e1e0e2f7b6f1867e601523d55274", func := "perigee/perigeelaw04.GaloisPolynomials", spec := "galoisPolynomials", inPlace := ["internal/bytealg.IndexByteString", "internal/bytealg.IndexString"], unfollowed := true, recurses := true, named := ["unicode/utf8.first", "unicode/utf8.acceptRanges", "internal/bytealg.MaxLen"], apart := false, laid := [("unicode/utf8.acceptRanges", laid_unicode_utf8_acceptRanges), ("unicode/utf8.first", laid_unicode_utf8_first)], narrowed := true }
def GaloisPolynomialsUptoSaid : Prop := galoisPolynomialsUptoRow.holds Tryd.pinned (OpenSpec.upto galoisPolynomialsSpec)

/-- 'perigeelaw04.GaloisField', WHERE WHAT IT READS IS OF BULK AT MOST 1048576: true; the input reads as it did. -/
def galoisFieldUptoRow : OpenClaim := { program := "ytpmahmcjejobpaadoor", sum := "4a5bdf689a7dd76a91ab101ef90e78721f04e1e0e2f7b6f1867e601523d55274", func := "perigee/perigeelaw04.GaloisField", spec := "galoisField", inPlace := ["internal/bytealg.IndexByteString", "internal/bytealg.IndexString"], unfollowed := true, recurses := true, named := ["unicode/utf8.first", "unicode/utf8.acceptRanges", "internal/bytealg.MaxLen"], apart := false, laid := [("unicode/utf8.acceptRanges", laid_unicode_utf8_acceptRanges), ("unicode/utf8.first", laid_unicode_utf8_first)], narrowed := true }
def GaloisFieldUptoSaid : Prop := galoisFieldUptoRow.holds Tryd.pinned (OpenSpec.upto galoisFieldSpec)

/-- 'perigeelaw04.GaloisPowers', WHERE WHAT IT READS IS OF BULK AT MOST 1048576: true; the input reads as it did. -/
def galoisPowersUptoRow : OpenClaim := { program := "ytpmahmcjejobpaadoor", sum := "4a5bdf689a7dd76a91ab101ef90e78721f04e1e0e2f7b6f1867e601523d55274", func := "perigee/perigeelaw04.GaloisPowers", spec := "galoisPowers", inPlace := ["internal/bytealg.IndexByteString", "internal/bytealg.IndexString"], unfollowed := true, recurses := true, named := ["unicode/utf8.first", "unicode/utf8.acceptRanges", "internal/bytealg.MaxLen"], apart := false, laid := [("unicode/utf8.acceptRanges", laid_unicode_utf8_acceptRanges), ("unicode/utf8.first", laid_unicode_utf8_first)], narrowed := true }
def GaloisPowersUptoSaid : Prop := galoisPowersUptoRow.holds Tryd.pinned (OpenSpec.upto galoisPowersSpec)

/-- 'perigeelaw04.GaloisDivides', WHERE WHAT IT READS IS OF BULK AT MOST 1048576: true; the input reads as it did. -/
def galoisDividesUptoRow : OpenClaim := { program := "ytpmahmcjejobpaadoor", sum := "4a5bdf689a7dd76a91ab101ef90e78721f04e1e0e2f7b6f1867e601523d55274", func := "perigee/perigeelaw04.GaloisDivides", spec := "galoisDivides", inPlace := ["internal/bytealg.IndexByteString", "internal/bytealg.IndexString"], unfollowed := true, recurses := true, named := ["unicode/utf8.first", "unicode/utf8.acceptRanges", "internal/bytealg.MaxLen"], apart := false, laid := [("unicode/utf8.acceptRanges", laid_unicode_utf8_acceptRanges), ("unicode/utf8.first", laid_unicode_utf8_first)], narrowed := true }
def GaloisDividesUptoSaid : Prop := galoisDividesUptoRow.holds Tryd.pinned (OpenSpec.upto galoisDividesSpec)

/-- 'perigeelaw04.GaloisTrims', WHERE WHAT IT READS IS OF BULK AT MOST 1048576: true; the input reads as it did. -/
def galoisTrimsUptoRow : OpenClaim := { program := "ytpmahmcjejobpaadoor", sum := "4a5bdf689a7dd76a91ab101ef90e78721f04e1e0e2f7b6f1867e601523d55274", func := "perigee/perigeelaw04.GaloisTrims", spec := "galoisTrims", inPlace := ["internal/bytealg.IndexByteString", "internal/bytealg.IndexString"], unfollowed := true, recurses := true, named := ["unicode/utf8.first", "unicode/utf8.acceptRanges", "internal/bytealg.MaxLen"], apart := false, laid := [("unicode/utf8.acceptRanges", laid_unicode_utf8_acceptRanges), ("unicode/utf8.first", laid_unicode_utf8_first)], narrowed := true }
def GaloisTrimsUptoSaid : Prop := galoisTrimsUptoRow.holds Tryd.pinned (OpenSpec.upto galoisTrimsSpec)

end Rows
end Go.Proofs.YtpmahmcjejobpaaDoor
