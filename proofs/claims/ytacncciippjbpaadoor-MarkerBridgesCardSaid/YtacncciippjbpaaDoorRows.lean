/-
  NARROWER THAN 'FOR EVERY INPUT', by the rows' own cells (each row's printed sentence says how): MarkerMixes: laid · MarkerFinds: laid · MarkerPortions: laid · MarkerBridges: laid · MarkerNone: laid · MarkerPeriod: laid.
  DERIVED. THE GIVEN ROWS OF THIS SEAT. 6 by the template 'for every input the law returns true; each argument reads behind the call as it read before'; 0 by the template 'total and deterministic' (their statements: YtacncciippjbpaaDoorTotals.lean).
  GIVEN WITH THE SEED: the statements are not yours to turn. If you find one false, say at which input.
  Laid BY PROGRAM, IN A SANDBOX (cutbox-rows.mjs): the forced cells as the released guide's own fill.sh prints them over the translation 98751f5a3867d007… (all of the seat's roots in one cut). By AI agents, Wed Nov 11 2026. No macro, syntax, notation, axiom, sorry.
-/
import Derived.Test.YtacncciippjbpaaDoorChecked
import GoSem.PinnedTables
import GoSem.Claim
import GoSem.ClaimJoined
import GoSem.ClaimMapViews
import Derived.JoinedTies
import Derived.KernelRfl
namespace Go.Proofs.YtacncciippjbpaaDoor
/- THE CELL 'sum', in the pinned program and in every row, IS THE sha256 OF THE DUMP (.gsa) THAT YtacncciippjbpaaDoorProg.lean LOADS. Nothing in Lean hashes anything: it is a label: what it is worth is what the hold of that sum in a sandbox is worth. -/
noncomputable def Tryd.pinned : Pinned := { name := "ytacncciippjbpaadoor", sum := "98751f5a3867d007e95f89d5876451280f34ab667b24cc61ef71472644b03a82", checked := Tryd.checked }
namespace Rows
def none {H : Type} : Left H := { results := [], args := [] }

/- WHAT THE LISTED PACKAGE-LEVEL VARIABLES READ AS WHEN THE CALL BEGINS. Each datum BY PROGRAM (the guide's laid-datum.mjs) off the statement by which the dump's own 'gosem.cut.vars' lays the variable. In a bare row this is a premise. The card (YtacncciippjbpaaDoorCards.lean) ties it to the program's text. -/
def laid_unicode_utf8_acceptRanges {H : Type} : DataW H := .agg [.agg [.lit (.int .u8 128), .lit (.int .u8 191)], .agg [.lit (.int .u8 160), .lit (.int .u8 191)], .agg [.lit (.int .u8 128), .lit (.int .u8 159)], .agg [.lit (.int .u8 144), .lit (.int .u8 191)], .agg [.lit (.int .u8 128), .lit (.int .u8 143)], .agg [.lit (.int .u8 0), .lit (.int .u8 0)], .agg [.lit (.int .u8 0), .lit (.int .u8 0)], .agg [.lit (.int .u8 0), .lit (.int .u8 0)], .agg [.lit (.int .u8 0), .lit (.int .u8 0)], .agg [.lit (.int .u8 0), .lit (.int .u8 0)], .agg [.lit (.int .u8 0), .lit (.int .u8 0)], .agg [.lit (.int .u8 0), .lit (.int .u8 0)], .agg [.lit (.int .u8 0), .lit (.int .u8 0)], .agg [.lit (.int .u8 0), .lit (.int .u8 0)], .agg [.lit (.int .u8 0), .lit (.int .u8 0)], .agg [.lit (.int .u8 0), .lit (.int .u8 0)]]
/-- One of Go's own tables, pinned by name: the form's constant. -/
def laid_unicode_utf8_first : DataW Unit := Go.Pinned.utf8First

/-- 'perigeelaw08.MarkerMixes': WHATEVER THE INPUT: true; the input reads as it did. -/
def markerMixesSpec : ChangeSpec := { name := "markerMixes", fn := fun _ => fun
  | [d1, d2, d3] => { results := [.lit (.bool true)], args := [d1, d2, d3] }
  | _ => none }
def markerMixesRow : OpenClaim := { program := "ytacncciippjbpaadoor", sum := "98751f5a3867d007e95f89d5876451280f34ab667b24cc61ef71472644b03a82", func := "perigee/perigeelaw08.MarkerMixes", spec := "markerMixes", inPlace := ["internal/bytealg.IndexByteString", "internal/bytealg.IndexString"], unfollowed := true, recurses := true, named := ["unicode/utf8.first", "unicode/utf8.acceptRanges", "internal/bytealg.MaxLen"], apart := false, laid := [("unicode/utf8.acceptRanges", laid_unicode_utf8_acceptRanges), ("unicode/utf8.first", laid_unicode_utf8_first)] }
def MarkerMixesSaid : Prop := markerMixesRow.holds Tryd.pinned (OpenSpec.ofChange markerMixesSpec)

/-- ITS FALSE NEIGHBOUR: 'it returns false'. Refute it at one input. -/
def markerMixesWrong : ChangeSpec := { name := "markerMixes", fn := fun _ => fun
  | [d1, d2, d3] => { results := [.lit (.bool false)], args := [d1, d2, d3] }
  | _ => none }
def MarkerMixesWrongFalsely : Prop := markerMixesRow.holds Tryd.pinned (OpenSpec.ofChange markerMixesWrong)

/-- 'perigeelaw08.MarkerFinds': WHATEVER THE INPUT: true; the input reads as it did. -/
def markerFindsSpec : ChangeSpec := { name := "markerFinds", fn := fun _ => fun
  | [d1, d2, d3] => { results := [.lit (.bool true)], args := [d1, d2, d3] }
  | _ => none }
def markerFindsRow : OpenClaim := { program := "ytacncciippjbpaadoor", sum := "98751f5a3867d007e95f89d5876451280f34ab667b24cc61ef71472644b03a82", func := "perigee/perigeelaw08.MarkerFinds", spec := "markerFinds", inPlace := ["internal/bytealg.IndexByteString", "internal/bytealg.IndexString"], unfollowed := true, recurses := true, named := ["unicode/utf8.first", "unicode/utf8.acceptRanges", "internal/bytealg.MaxLen"], apart := false, laid := [("unicode/utf8.acceptRanges", laid_unicode_utf8_acceptRanges), ("unicode/utf8.first", laid_unicode_utf8_first)] }
def MarkerFindsSaid : Prop := markerFindsRow.holds Tryd.pinned (OpenSpec.ofChange markerFindsSpec)

/-- ITS FALSE NEIGHBOUR: 'it returns false'. Refute it at one input. -/
def markerFindsWrong : ChangeSpec := { name := "markerFinds", fn := fun _ => fun
  | [d1, d2, d3] => { results := [.lit (.bool false)], args := [d1, d2, d3] }
  | _ => none }
def MarkerFindsWrongFalsely : Prop := markerFindsRow.holds Tryd.pinned (OpenSpec.ofChange markerFindsWrong)

/-- 'perigeelaw08.MarkerPortions': WHATEVER THE INPUT: true; the input reads as it did. -/
def markerPortionsSpec : ChangeSpec := { name := "markerPortions", fn := fun _ => fun
  | [d1, d2, d3] => { results := [.lit (.bool true)], args := [d1, d2, d3] }
  | _ => none }
def markerPortionsRow : OpenClaim := { program := "ytacncciippjbpaadoor", sum := "98751f5a3867d007e95f89d5876451280f34ab667b24cc61ef71472644b03a82", func := "perigee/perigeelaw08.MarkerPortions", spec := "markerPortions", inPlace := ["internal/bytealg.IndexByteString", "internal/bytealg.IndexString"], unfollowed := true, recurses := true, named := ["unicode/utf8.first", "unicode/utf8.acceptRanges", "internal/bytealg.MaxLen"], apart := false, laid := [("unicode/utf8.acceptRanges", laid_unicode_utf8_acceptRanges), ("unicode/utf8.first", laid_unicode_utf8_first)] }
def MarkerPortionsSaid : Prop := markerPortionsRow.holds Tryd.pinned (OpenSpec.ofChange markerPortionsSpec)

/-- ITS FALSE NEIGHBOUR: 'it returns false'. Refute it at one input. -/
def markerPortionsWrong : ChangeSpec := { name := "markerPortions", fn := fun _ => fun
  | [d1, d2, d3] => { results := [.lit (.bool false)], args := [d1, d2, d3] }
  | _ => none }
def MarkerPortionsWrongFalsely : Prop := markerPortionsRow.holds Tryd.pinned (OpenSpec.ofChange markerPortionsWrong)

/-- 'perigeelaw08.MarkerBridges': WHATEVER THE INPUT: true; the input reads as it did. -/
def markerBridgesSpec : ChangeSpec := { name := "markerBridges", fn := fun _ => fun
  | [d1, d2, d3] => { results := [.lit (.bool true)], args := [d1, d2, d3] }
  | _ => none }
def markerBridgesRow : OpenClaim := { program := "ytacncciippjbpaadoor", sum := "98751f5a3867d007e95f89d5876451280f34ab667b24cc61ef71472644b03a82", func := "perigee/perigeelaw08.MarkerBridges", spec := "markerBridges", inPlace := ["internal/bytealg.IndexByteString", "internal/bytealg.IndexString"], unfollowed := true, recurses := true, named := ["unicode/utf8.first", "unicode/utf8.acceptRanges", "internal/bytealg.MaxLen"], apart := false, laid := [("unicode/utf8.acceptRanges", laid_unicode_utf8_acceptRanges), ("unicode/utf8.first", laid_unicode_utf8_first)] }
def MarkerBridgesSaid : Prop := markerBridgesRow.holds Tryd.pinned (OpenSpec.ofChange markerBridgesSpec)

/-- ITS FALSE NEIGHBOUR: 'it returns false'. Refute it at one input. -/
def markerBridgesWrong : ChangeSpec := { name := "markerBridges", fn := fun _ => fun
  | [d1, d2, d3] => { results := [.lit (.bool false)], args := [d1, d2, d3] }
  | _ => none }
def MarkerBridgesWrongFalsely : Prop := markerBridgesRow.holds Tryd.pinned (OpenSpec.ofChange markerBridgesWrong)

/-- 'perigeelaw08.MarkerNone': WHATEVER THE INPUT: true; the input reads as it did. -/
def markerNoneSpec : ChangeSpec := { name := "markerNone", fn := fun _ => fun
  | [d1, d2] => { results := [.lit (.bool true)], args := [d1, d2] }
  | _ => none }
def markerNoneRow : OpenClaim := { program := "ytacncciippjbpaadoor", sum := "98751f5a3867d007e95f89d5876451280f34ab667b24cc61ef71472644b03a82", func := "perigee/perigeelaw08.MarkerNone", spec := "markerNone", inPlace := ["internal/bytealg.IndexByteString", "internal/bytealg.IndexString"], unfollowed := true, recurses := true, named := ["unicode/utf8.first", "unicode/utf8.acceptRanges", "internal/bytealg.MaxLen"], apart := false, laid := [("unicode/utf8.acceptRanges", laid_unicode_utf8_acceptRanges), ("unicode/utf8.first", laid_unicode_utf8_first)] }
def MarkerNoneSaid : Prop := markerNoneRow.holds Tryd.pinned (OpenSpec.ofChange markerNoneSpec)

/-- ITS FALSE NEIGHBOUR: 'it returns false'. Refute it at one input. -/
def markerNoneWrong : ChangeSpec := { name := "markerNone", fn := fun _ => fun
  | [d1, d2] => { results := [.lit (.bool false)], args := [d1, d2] }
  | _ => none }
def MarkerNoneWrongFalsely : Prop := markerNoneRow.holds Tryd.pinned (OpenSpec.ofChange markerNoneWrong)

/-- 'perigeelaw08.MarkerPeriod': WHATEVER THE INPUT: true; the input reads as it did. -/
def markerPeriodSpec : ChangeSpec := { name := "markerPeriod", fn := fun _ => fun
  | [] => { results := [.lit (.bool true)], args := [] }
  | _ => none }
def markerPeriodRow : OpenClaim := { program := "ytacncciippjbpaadoor", sum := "98751f5a3867d007e95f89d5876451280f34ab667b24cc61ef71472644b03a82", func := "perigee/perigeelaw08.MarkerPeriod", spec := "markerPeriod", inPlace := ["internal/bytealg.IndexByteString", "internal/bytealg.IndexString"], unfollowed := true, recurses := true, named := ["unicode/utf8.first", "unicode/utf8.acceptRanges", "internal/bytealg.MaxLen"], apart := false, laid := [("unicode/utf8.acceptRanges", laid_unicode_utf8_acceptRanges), ("unicode/utf8.first", laid_unicode_utf8_first)] }
def MarkerPeriodSaid : Prop := markerPeriodRow.holds Tryd.pinned (OpenSpec.ofChange markerPeriodSpec)

/-- ITS FALSE NEIGHBOUR: 'it returns false'. Refute it at one input. -/
def markerPeriodWrong : ChangeSpec := { name := "markerPeriod", fn := fun _ => fun
  | [] => { results := [.lit (.bool false)], args := [] }
  | _ => none }
def MarkerPeriodWrongFalsely : Prop := markerPeriodRow.holds Tryd.pinned (OpenSpec.ofChange markerPeriodWrong)

/- THE SECOND FORM. 'bulk': how many values and letters a reading holds, each counted each time it is reached (what is shared counts as often as it is met; a slice's spare places count too). A statement '..UptoSaid' is the law's where the arguments, and the package variables that the reading takes, are together of bulk at most 1048576: NARROWER than '..Said'. Prove '..Said' where nothing that the law and all that it calls make is longer than what came in: it says more and counts as full. Else prove '..UptoSaid'. A law counts once. -/
mutual
def uptoBulk {H : Type} : DataW H → Nat
  | .lit (.string bytes) => bytes.length + 1
  | .lit _ => 1
  | .nil => 1
  | .ptr d => uptoBulk d + 1
  | .slice elems spare => uptoBulkAll elems + uptoBulkAll spare + 1
  | .agg parts => uptoBulkAll parts + 1
  | .iface _ d => uptoBulk d + 1
  | .map entries => uptoBulkEntries entries + 1
  | .held _ => 1
def uptoBulkAll {H : Type} : List (DataW H) → Nat
  | [] => 0
  | d :: r => uptoBulk d + uptoBulkAll r
def uptoBulkEntries {H : Type} : List (Lit × DataW H) → Nat
  | [] => 0
  | x :: r => uptoBulkEntry x + uptoBulkEntries r
def uptoBulkEntry {H : Type} : Lit × DataW H → Nat
  | (.string bytes, d) => bytes.length + uptoBulk d + 1
  | (_, d) => uptoBulk d + 1
 end
def uptoSmall : (H : Type) → List (DataW H) → Bool := fun _ ds => decide (uptoBulkAll ds ≤ 1048576)
def OpenSpec.upto (s : _root_.Go.ChangeSpec) : _root_.Go.OpenSpec := { _root_.Go.OpenSpec.ofChange s with cond := some uptoSmall }

/-- 'perigeelaw08.MarkerMixes', WHERE WHAT IT READS IS OF BULK AT MOST 1048576: true; the input reads as it did. -/
def markerMixesUptoRow : OpenClaim := { program := "ytacncciippjbpaadoor", sum := "98751f5a3867d007e95f89d5876451280f34ab667b24cc61ef71472644b03a82", func := "perigee/perigeelaw08.MarkerMixes", spec := "markerMixes", inPlace := ["internal/bytealg.IndexByteString", "internal/bytealg.IndexString"], unfollowed := true, recurses := true, named := ["unicode/utf8.first", "unicode/utf8.acceptRanges", "internal/bytealg.MaxLen"], apart := false, laid := [("unicode/utf8.acceptRanges", laid_unicode_utf8_acceptRanges), ("unicode/utf8.first", laid_unicode_utf8_first)], narrowed := true }
def MarkerMixesUptoSaid : Prop := markerMixesUptoRow.holds Tryd.pinned (OpenSpec.upto markerMixesSpec)

/-- 'perigeelaw08.MarkerFinds', WHERE WHAT IT READS IS OF BULK AT MOST 1048576: true; the input reads as it did. -/
def markerFindsUptoRow : OpenClaim := { program := "ytacncciippjbpaadoor", sum := "98751f5a3867d007e95f89d5876451280f34ab667b24cc61ef71472644b03a82", func := "perigee/perigeelaw08.MarkerFinds", spec := "markerFinds", inPlace := ["internal/bytealg.IndexByteString", "internal/bytealg.IndexString"], unfollowed := true, recurses := true, named := ["unicode/utf8.first", "unicode/utf8.acceptRanges", "internal/bytealg.MaxLen"], apart := false, laid := [("unicode/utf8.acceptRanges", laid_unicode_utf8_acceptRanges), ("unicode/utf8.first", laid_unicode_utf8_first)], narrowed := true }
def MarkerFindsUptoSaid : Prop := markerFindsUptoRow.holds Tryd.pinned (OpenSpec.upto markerFindsSpec)

/-- 'perigeelaw08.MarkerPortions', WHERE WHAT IT READS IS OF BULK AT MOST 1048576: true; the input reads as it did. -/
def markerPortionsUptoRow : OpenClaim := { program := "ytacncciippjbpaadoor", sum := "98751f5a3867d007e95f89d5876451280f34ab667b24cc61ef71472644b03a82", func := "perigee/perigeelaw08.MarkerPortions", spec := "markerPortions", inPlace := ["internal/bytealg.IndexByteString", "internal/bytealg.IndexString"], unfollowed := true, recurses := true, named := ["unicode/utf8.first", "unicode/utf8.acceptRanges", "internal/bytealg.MaxLen"], apart := false, laid := [("unicode/utf8.acceptRanges", laid_unicode_utf8_acceptRanges), ("unicode/utf8.first", laid_unicode_utf8_first)], narrowed := true }
def MarkerPortionsUptoSaid : Prop := markerPortionsUptoRow.holds Tryd.pinned (OpenSpec.upto markerPortionsSpec)

/-- 'perigeelaw08.MarkerBridges', WHERE WHAT IT READS IS OF BULK AT MOST 1048576: true; the input reads as it did. -/
def markerBridgesUptoRow : OpenClaim := { program := "ytacncciippjbpaadoor", sum := "98751f5a3867d007e95f89d5876451280f34ab667b24cc61ef71472644b03a82", func := "perigee/perigeelaw08.MarkerBridges", spec := "markerBridges", inPlace := ["internal/bytealg.IndexByteString", "internal/bytealg.IndexString"], unfollowed := true, recurses := true, named := ["unicode/utf8.first", "unicode/utf8.acceptRanges", "internal/bytealg.MaxLen"], apart := false, laid := [("unicode/utf8.acceptRanges", laid_unicode_utf8_acceptRanges), ("unicode/utf8.first", laid_unicode_utf8_first)], narrowed := true }
def MarkerBridgesUptoSaid : Prop := markerBridgesUptoRow.holds Tryd.pinned (OpenSpec.upto markerBridgesSpec)

/-- 'perigeelaw08.MarkerNone', WHERE WHAT IT READS IS OF BULK AT MOST 1048576: true; the input reads as it did. -/
def markerNoneUptoRow : OpenClaim := { program := "ytacncciippjbpaadoor", sum := "98751f5a3867d007e95f89d5876451280f34ab667b24cc61ef71472644b03a82", func := "perigee/perigeelaw08.MarkerNone", spec := "markerNone", inPlace := ["internal/bytealg.IndexByteString", "internal/bytealg.IndexString"], unfollowed := true, recurses := true, named := ["unicode/utf8.first", "unicode/utf8.acceptRanges", "internal/bytealg.MaxLen"], apart := false, laid := [("unicode/utf8.acceptRanges", laid_unicode_utf8_acceptRanges), ("unicode/utf8.first", laid_unicode_utf8_first)], narrowed := true }
def MarkerNoneUptoSaid : Prop := markerNoneUptoRow.holds Tryd.pinned (OpenSpec.upto markerNoneSpec)

/-- 'perigeelaw08.MarkerPeriod', WHERE WHAT IT READS IS OF BULK AT MOST 1048576: true; the input reads as it did. -/
def markerPeriodUptoRow : OpenClaim := { program := "ytacncciippjbpaadoor", sum := "98751f5a3867d007e95f89d5876451280f34ab667b24cc61ef71472644b03a82", func := "perigee/perigeelaw08.MarkerPeriod", spec := "markerPeriod", inPlace := ["internal/bytealg.IndexByteString", "internal/bytealg.IndexString"], unfollowed := true, recurses := true, named := ["unicode/utf8.first", "unicode/utf8.acceptRanges", "internal/bytealg.MaxLen"], apart := false, laid := [("unicode/utf8.acceptRanges", laid_unicode_utf8_acceptRanges), ("unicode/utf8.first", laid_unicode_utf8_first)], narrowed := true }
def MarkerPeriodUptoSaid : Prop := markerPeriodUptoRow.holds Tryd.pinned (OpenSpec.upto markerPeriodSpec)

end Rows
end Go.Proofs.YtacncciippjbpaaDoor
