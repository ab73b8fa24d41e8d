/-
  NARROWER THAN 'FOR EVERY INPUT', by the rows' own cells (each row's printed sentence says how): DownlinkSends: laid · DownlinkReceives: laid · DownlinkCorrects: laid · DownlinkBytes: laid · DownlinkPortions: laid · DownlinkNone: laid.
  DERIVED. THE GIVEN ROWS OF THIS SEAT. 6 by the template 'for every input the law returns true; each argument reads behind the call as it read before'; 0 by the template 'total and deterministic' (their statements: YtnibcchhhebfaaaGreatDoorTotals.lean).
  GIVEN WITH THE SEED: the statements are not yours to turn. If you find one false, say at which input.
  Laid BY PROGRAM, IN A SANDBOX (cutbox-rows.mjs): the forced cells as the released guide's own fill.sh prints them over the translation 119cc7cab5a8b70b… (all of the seat's roots in one cut). By AI agents, Wed Nov 11 2026. No macro, syntax, notation, axiom, sorry.
-/
import Derived.Test.YtnibcchhhebfaaaGreatDoorChecked
import GoSem.PinnedTables
import GoSem.Claim
import GoSem.ClaimJoined
import GoSem.ClaimMapViews
import Derived.JoinedTies
import Derived.KernelRfl
namespace Go.Proofs.YtnibcchhhebfaaaGreatDoor
/- THE CELL 'sum', in the pinned program and in every row, IS THE sha256 OF THE DUMP (.gsa) THAT YtnibcchhhebfaaaGreatDoorProg.lean LOADS. Nothing in Lean hashes anything: it is a label: what it is worth is what the hold of that sum in a sandbox is worth. -/
noncomputable def Tryz.pinned : Pinned := { name := "ytnibcchhhebfaaagreatdoor", sum := "119cc7cab5a8b70b5c919c466af706113c8f1d0864649a7ef9b8fba6dafe5315", checked := Tryz.checked }
namespace Rows
def none {H : Type} : Left H := { results := [], args := [] }

/- WHAT THE LISTED PACKAGE-LEVEL VARIABLES READ AS WHEN THE CALL BEGINS. Each datum BY PROGRAM (the guide's laid-datum.mjs) off the statement by which the dump's own 'gosem.cut.vars' lays the variable. In a bare row this is a premise. The card (YtnibcchhhebfaaaGreatDoorCards.lean) ties it to the program's text. -/
def laid_unicode_utf8_acceptRanges {H : Type} : DataW H := .agg [.agg [.lit (.int .u8 128), .lit (.int .u8 191)], .agg [.lit (.int .u8 160), .lit (.int .u8 191)], .agg [.lit (.int .u8 128), .lit (.int .u8 159)], .agg [.lit (.int .u8 144), .lit (.int .u8 191)], .agg [.lit (.int .u8 128), .lit (.int .u8 143)], .agg [.lit (.int .u8 0), .lit (.int .u8 0)], .agg [.lit (.int .u8 0), .lit (.int .u8 0)], .agg [.lit (.int .u8 0), .lit (.int .u8 0)], .agg [.lit (.int .u8 0), .lit (.int .u8 0)], .agg [.lit (.int .u8 0), .lit (.int .u8 0)], .agg [.lit (.int .u8 0), .lit (.int .u8 0)], .agg [.lit (.int .u8 0), .lit (.int .u8 0)], .agg [.lit (.int .u8 0), .lit (.int .u8 0)], .agg [.lit (.int .u8 0), .lit (.int .u8 0)], .agg [.lit (.int .u8 0), .lit (.int .u8 0)], .agg [.lit (.int .u8 0), .lit (.int .u8 0)]]
/-- One of Go's own tables, pinned by name: the form's constant. -/
def laid_unicode_utf8_first : DataW Unit := Go.Pinned.utf8First

/-- 'perigeelaw40.DownlinkSends': WHATEVER THE INPUT: true; the input reads as it did. -/
def downlinkSendsSpec : ChangeSpec := { name := "downlinkSends", fn := fun _ => fun
  | [d1, d2, d3] => { results := [.lit (.bool true)], args := [d1, d2, d3] }
  | _ => none }
def downlinkSendsRow : OpenClaim := { program := "ytnibcchhhebfaaagreatdoor", sum := "119cc7cab5a8b70b5c919c466af706113c8f1d0864649a7ef9b8fba6dafe5315", func := "perigee/perigeelaw40.DownlinkSends", spec := "downlinkSends", inPlace := ["internal/bytealg.IndexByteString", "internal/bytealg.IndexString"], unfollowed := true, recurses := true, named := ["unicode/utf8.first", "unicode/utf8.acceptRanges", "internal/bytealg.MaxLen"], apart := false, laid := [("unicode/utf8.acceptRanges", laid_unicode_utf8_acceptRanges), ("unicode/utf8.first", laid_unicode_utf8_first)] }
def DownlinkSendsSaid : Prop := downlinkSendsRow.holds Tryz.pinned (OpenSpec.ofChange downlinkSendsSpec)

/-- ITS FALSE NEIGHBOUR: 'it returns false'. Refute it at one input. -/
def downlinkSendsWrong : ChangeSpec := { name := "downlinkSends", fn := fun _ => fun
  | [d1, d2, d3] => { results := [.lit (.bool false)], args := [d1, d2, d3] }
  | _ => none }
def DownlinkSendsWrongFalsely : Prop := downlinkSendsRow.holds Tryz.pinned (OpenSpec.ofChange downlinkSendsWrong)

/-- 'perigeelaw40.DownlinkReceives': WHATEVER THE INPUT: true; the input reads as it did. -/
def downlinkReceivesSpec : ChangeSpec := { name := "downlinkReceives", fn := fun _ => fun
  | [d1, d2] => { results := [.lit (.bool true)], args := [d1, d2] }
  | _ => none }
def downlinkReceivesRow : OpenClaim := { program := "ytnibcchhhebfaaagreatdoor", sum := "119cc7cab5a8b70b5c919c466af706113c8f1d0864649a7ef9b8fba6dafe5315", func := "perigee/perigeelaw40.DownlinkReceives", spec := "downlinkReceives", inPlace := ["internal/bytealg.IndexByteString", "internal/bytealg.IndexString"], unfollowed := true, recurses := true, named := ["unicode/utf8.first", "unicode/utf8.acceptRanges", "internal/bytealg.MaxLen"], apart := false, laid := [("unicode/utf8.acceptRanges", laid_unicode_utf8_acceptRanges), ("unicode/utf8.first", laid_unicode_utf8_first)] }
def DownlinkReceivesSaid : Prop := downlinkReceivesRow.holds Tryz.pinned (OpenSpec.ofChange downlinkReceivesSpec)

/-- ITS FALSE NEIGHBOUR: 'it returns false'. Refute it at one input. -/
def downlinkReceivesWrong : ChangeSpec := { name := "downlinkReceives", fn := fun _ => fun
  | [d1, d2] => { results := [.lit (.bool false)], args := [d1, d2] }
  | _ => none }
def DownlinkReceivesWrongFalsely : Prop := downlinkReceivesRow.holds Tryz.pinned (OpenSpec.ofChange downlinkReceivesWrong)

/-- 'perigeelaw40.DownlinkCorrects': WHATEVER THE INPUT: true; the input reads as it did. -/
def downlinkCorrectsSpec : ChangeSpec := { name := "downlinkCorrects", fn := fun _ => fun
  | [d1, d2, d3] => { results := [.lit (.bool true)], args := [d1, d2, d3] }
  | _ => none }
def downlinkCorrectsRow : OpenClaim := { program := "ytnibcchhhebfaaagreatdoor", sum := "119cc7cab5a8b70b5c919c466af706113c8f1d0864649a7ef9b8fba6dafe5315", func := "perigee/perigeelaw40.DownlinkCorrects", spec := "downlinkCorrects", inPlace := ["internal/bytealg.IndexByteString", "internal/bytealg.IndexString"], unfollowed := true, recurses := true, named := ["unicode/utf8.first", "unicode/utf8.acceptRanges", "internal/bytealg.MaxLen"], apart := false, laid := [("unicode/utf8.acceptRanges", laid_unicode_utf8_acceptRanges), ("unicode/utf8.first", laid_unicode_utf8_first)] }
def DownlinkCorrectsSaid : Prop := downlinkCorrectsRow.holds Tryz.pinned (OpenSpec.ofChange downlinkCorrectsSpec)

/-- ITS FALSE NEIGHBOUR: 'it returns false'. Refute it at one input. -/
def downlinkCorrectsWrong : ChangeSpec := { name := "downlinkCorrects", fn := fun _ => fun
  | [d1, d2, d3] => { results := [.lit (.bool false)], args := [d1, d2, d3] }
  | _ => none }
def DownlinkCorrectsWrongFalsely : Prop := downlinkCorrectsRow.holds Tryz.pinned (OpenSpec.ofChange downlinkCorrectsWrong)

/-- 'perigeelaw40.DownlinkBytes': WHATEVER THE INPUT: true; the input reads as it did. -/
def downlinkBytesSpec : ChangeSpec := { name := "downlinkBytes", fn := fun _ => fun
  | [d1, d2, d3] => { results := [.lit (.bool true)], args := [d1, d2, d3] }
  | _ => none }
def downlinkBytesRow : OpenClaim := { program := "ytnibcchhhebfaaagreatdoor", sum := "119cc7cab5a8b70b5c919c466af706113c8f1d0864649a7ef9b8fba6dafe5315", func := "perigee/perigeelaw40.DownlinkBytes", spec := "downlinkBytes", inPlace := ["internal/bytealg.IndexByteString", "internal/bytealg.IndexString"], unfollowed := true, recurses := true, named := ["unicode/utf8.first", "unicode/utf8.acceptRanges", "internal/bytealg.MaxLen"], apart := false, laid := [("unicode/utf8.acceptRanges", laid_unicode_utf8_acceptRanges), ("unicode/utf8.first", laid_unicode_utf8_first)] }
def DownlinkBytesSaid : Prop := downlinkBytesRow.holds Tryz.pinned (OpenSpec.ofChange downlinkBytesSpec)

/-- ITS FALSE NEIGHBOUR: 'it returns false'. Refute it at one input. -/
def downlinkBytesWrong : ChangeSpec := { name := "downlinkBytes", fn := fun _ => fun
  | [d1, d2, d3] => { results := [.lit (.bool false)], args := [d1, d2, d3] }
  | _ => none }
def DownlinkBytesWrongFalsely : Prop := downlinkBytesRow.holds Tryz.pinned (OpenSpec.ofChange downlinkBytesWrong)

/-- 'perigeelaw40.DownlinkPortions': WHATEVER THE INPUT: true; the input reads as it did. -/
def downlinkPortionsSpec : ChangeSpec := { name := "downlinkPortions", fn := fun _ => fun
  | [d1, d2] => { results := [.lit (.bool true)], args := [d1, d2] }
  | _ => none }
def downlinkPortionsRow : OpenClaim := { program := "ytnibcchhhebfaaagreatdoor", sum := "119cc7cab5a8b70b5c919c466af706113c8f1d0864649a7ef9b8fba6dafe5315", func := "perigee/perigeelaw40.DownlinkPortions", spec := "downlinkPortions", inPlace := ["internal/bytealg.IndexByteString", "internal/bytealg.IndexString"], unfollowed := true, recurses := true, named := ["unicode/utf8.first", "unicode/utf8.acceptRanges", "internal/bytealg.MaxLen"], apart := false, laid := [("unicode/utf8.acceptRanges", laid_unicode_utf8_acceptRanges), ("unicode/utf8.first", laid_unicode_utf8_first)] }
def DownlinkPortionsSaid : Prop := downlinkPortionsRow.holds Tryz.pinned (OpenSpec.ofChange downlinkPortionsSpec)

/-- ITS FALSE NEIGHBOUR: 'it returns false'. Refute it at one input. -/
def downlinkPortionsWrong : ChangeSpec := { name := "downlinkPortions", fn := fun _ => fun
  | [d1, d2] => { results := [.lit (.bool false)], args := [d1, d2] }
  | _ => none }
def DownlinkPortionsWrongFalsely : Prop := downlinkPortionsRow.holds Tryz.pinned (OpenSpec.ofChange downlinkPortionsWrong)

/-- 'perigeelaw40.DownlinkNone': WHATEVER THE INPUT: true; the input reads as it did. -/
def downlinkNoneSpec : ChangeSpec := { name := "downlinkNone", fn := fun _ => fun
  | [d1, d2, d3] => { results := [.lit (.bool true)], args := [d1, d2, d3] }
  | _ => none }
def downlinkNoneRow : OpenClaim := { program := "ytnibcchhhebfaaagreatdoor", sum := "119cc7cab5a8b70b5c919c466af706113c8f1d0864649a7ef9b8fba6dafe5315", func := "perigee/perigeelaw40.DownlinkNone", spec := "downlinkNone", inPlace := ["internal/bytealg.IndexByteString", "internal/bytealg.IndexString"], unfollowed := true, recurses := true, named := ["unicode/utf8.first", "unicode/utf8.acceptRanges", "internal/bytealg.MaxLen"], apart := false, laid := [("unicode/utf8.acceptRanges", laid_unicode_utf8_acceptRanges), ("unicode/utf8.first", laid_unicode_utf8_first)] }
def DownlinkNoneSaid : Prop := downlinkNoneRow.holds Tryz.pinned (OpenSpec.ofChange downlinkNoneSpec)

/-- ITS FALSE NEIGHBOUR: 'it returns false'. Refute it at one input. -/
def downlinkNoneWrong : ChangeSpec := { name := "downlinkNone", fn := fun _ => fun
  | [d1, d2, d3] => { results := [.lit (.bool false)], args := [d1, d2, d3] }
  | _ => none }
def DownlinkNoneWrongFalsely : Prop := downlinkNoneRow.holds Tryz.pinned (OpenSpec.ofChange downlinkNoneWrong)

/- THE SECOND FORM. 'bulk': how many values and letters a reading holds, each counted each time it is reached (what is shared counts as often as it is met; a slice's spare places count too). A statement '..UptoSaid' is the law's where the arguments, and the package variables that the reading takes, are together of bulk at most 1048576: NARROWER than '..Said'. Prove '..Said' where nothing that the law and all that it calls make is longer than what came in: it says more and counts as full. Else prove '..UptoSaid'. A law counts once. -/
mutual
def uptoBulk {H : Type} : DataW H → Nat
  | .lit (.string bytes) => bytes.length + 1
  | .lit _ => 1
  | .nil => 1
  | .ptr d => uptoBulk d + 1
  | .slice elems spare => uptoBulkAll elems + uptoBulkAll spare + 1
  | .agg parts => uptoBulkAll parts + 1
  | .iface _ d => uptoBulk d + 1
  | .map entries => uptoBulkEntries entries + 1
  | .held _ => 1
def uptoBulkAll {H : Type} : List (DataW H) → Nat
  | [] => 0
  | d :: r => uptoBulk d + uptoBulkAll r
def uptoBulkEntries {H : Type} : List (Lit × DataW H) → Nat
  | [] => 0
  | x :: r => uptoBulkEntry x + uptoBulkEntries r
def uptoBulkEntry {H : Type} : Lit × DataW H → Nat
  | (.string bytes, d) => bytes.length + uptoBulk d + 1
  | (_, d) => uptoBulk d + 1
 end
def uptoSmall : (H : Type) → List (DataW H) → Bool := fun _ ds => decide (uptoBulkAll ds ≤ 1048576)
def OpenSpec.upto (s : _root_.Go.ChangeSpec) : _root_.Go.OpenSpec := { _root_.Go.OpenSpec.ofChange s with cond := some uptoSmall }

/-- 'perigeelaw40.DownlinkSends', WHERE WHAT IT READS IS OF BULK AT MOST 1048576: true; the input reads as it did. -/
def downlinkSendsUptoRow : OpenClaim := { program := "ytnibcchhhebfaaagreatdoor", sum := "119cc7cab5a8b70b5c919c466af706113c8f1d0864649a7ef9b8fba6dafe5315", func := "perigee/perigeelaw40.DownlinkSends", spec := "downlinkSends", inPlace := ["internal/bytealg.IndexByteString", "internal/bytealg.IndexString"], unfollowed := true, recurses := true, named := ["unicode/utf8.first", "unicode/utf8.acceptRanges", "internal/bytealg.MaxLen"], apart := false, laid := [("unicode/utf8.acceptRanges", laid_unicode_utf8_acceptRanges), ("unicode/utf8.first", laid_unicode_utf8_first)], narrowed := true }
def DownlinkSendsUptoSaid : Prop := downlinkSendsUptoRow.holds Tryz.pinned (OpenSpec.upto downlinkSendsSpec)

/-- 'perigeelaw40.DownlinkReceives', WHERE WHAT IT READS IS OF BULK AT MOST 1048576: true; the input reads as it did. -/
def downlinkReceivesUptoRow : OpenClaim := { program := "ytnibcchhhebfaaagreatdoor", sum := "119cc7cab5a8b70b5c919c466af706113c8f1d0864649a7ef9b8fba6dafe5315", func := "perigee/perigeelaw40.DownlinkReceives", spec := "downlinkReceives", inPlace := ["internal/bytealg.IndexByteString", "internal/bytealg.IndexString"], unfollowed := true, recurses := true, named := ["unicode/utf8.first", "unicode/utf8.acceptRanges", "internal/bytealg.MaxLen"], apart := false, laid := [("unicode/utf8.acceptRanges", laid_unicode_utf8_acceptRanges), ("unicode/utf8.first", laid_unicode_utf8_first)], narrowed := true }
def DownlinkReceivesUptoSaid : Prop := downlinkReceivesUptoRow.holds Tryz.pinned (OpenSpec.upto downlinkReceivesSpec)

/-- 'perigeelaw40.DownlinkCorrects', WHERE WHAT IT READS IS OF BULK AT MOST 1048576: true; the input reads as it did. -/
def downlinkCorrectsUptoRow : OpenClaim := { program := "ytnibcchhhebfaaagreatdoor", sum := "119cc7cab5a8b70b5c919c466af706113c8f1d0864649a7ef9b8fba6dafe5315", func := "perigee/perigeelaw40.DownlinkCorrects", spec := "downlinkCorrects", inPlace := ["internal/bytealg.IndexByteString", "internal/bytealg.IndexString"], unfollowed := true, recurses := true, named := ["unicode/utf8.first", "unicode/utf8.acceptRanges", "internal/bytealg.MaxLen"], apart := false, laid := [("unicode/utf8.acceptRanges", laid_unicode_utf8_acceptRanges), ("unicode/utf8.first", laid_unicode_utf8_first)], narrowed := true }
def DownlinkCorrectsUptoSaid : Prop := downlinkCorrectsUptoRow.holds Tryz.pinned (OpenSpec.upto downlinkCorrectsSpec)

/-- 'perigeelaw40.DownlinkBytes', WHERE WHAT IT READS IS OF BULK AT MOST 1048576: true; the input reads as it did. -/
def downlinkBytesUptoRow : OpenClaim := { program := "ytnibcchhhebfaaagreatdoor", sum := "119cc7cab5a8b70b5c919c466af706113c8f1d0864649a7ef9b8fba6dafe5315", func := "perigee/perigeelaw40.DownlinkBytes", spec := "downlinkBytes", inPlace := ["internal/bytealg.IndexByteString", "internal/bytealg.IndexString"], unfollowed := true, recurses := true, named := ["unicode/utf8.first", "unicode/utf8.acceptRanges", "internal/bytealg.MaxLen"], apart := false, laid := [("unicode/utf8.acceptRanges", laid_unicode_utf8_acceptRanges), ("unicode/utf8.first", laid_unicode_utf8_first)], narrowed := true }
def DownlinkBytesUptoSaid : Prop := downlinkBytesUptoRow.holds Tryz.pinned (OpenSpec.upto downlinkBytesSpec)

/-- 'perigeelaw40.DownlinkPortions', WHERE WHAT IT READS IS OF BULK AT MOST 1048576: true; the input reads as it did. -/
def downlinkPortionsUptoRow : OpenClaim := { program := "ytnibcchhhebfaaagreatdoor", sum := "119cc7cab5a8b70b5c919c466af706113c8f1d0864649a7ef9b8fba6dafe5315", func := "perigee/perigeelaw40.DownlinkPortions", spec := "downlinkPortions", inPlace := ["internal/bytealg.IndexByteString", "internal/bytealg.IndexString"], unfollowed := true, recurses := true, named := ["unicode/utf8.first", "unicode/utf8.acceptRanges", "internal/bytealg.MaxLen"], apart := false, laid := [("unicode/utf8.acceptRanges", laid_unicode_utf8_acceptRanges), ("unicode/utf8.first", laid_unicode_utf8_first)], narrowed := true }
def DownlinkPortionsUptoSaid : Prop := downlinkPortionsUptoRow.holds Tryz.pinned (OpenSpec.upto downlinkPortionsSpec)

/-- 'perigeelaw40.DownlinkNone', WHERE WHAT IT READS IS OF BULK AT MOST 1048576: true; the input reads as it did. -/
def downlinkNoneUptoRow : OpenClaim := { program := "ytnibcchhhebfaaagreatdoor", sum := "119cc7cab5a8b70b5c919c466af706113c8f1d0864649a7ef9b8fba6dafe5315", func := "perigee/perigeelaw40.DownlinkNone", spec := "downlinkNone", inPlace := ["internal/bytealg.IndexByteString", "internal/bytealg.IndexString"], unfollowed := true, recurses := true, named := ["unicode/utf8.first", "unicode/utf8.acceptRanges", "internal/bytealg.MaxLen"], apart := false, laid := [("unicode/utf8.acceptRanges", laid_unicode_utf8_acceptRanges), ("unicode/utf8.first", laid_unicode_utf8_first)], narrowed := true }
def DownlinkNoneUptoSaid : Prop := downlinkNoneUptoRow.holds Tryz.pinned (OpenSpec.upto downlinkNoneSpec)

end Rows
end Go.Proofs.YtnibcchhhebfaaaGreatDoor
