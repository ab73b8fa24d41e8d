/-
  No cell of these rows narrows 'for every input' (looked for: loops, veiled, ifaces, maps, wideKeys, modest, calm, conditions, laid).
  DERIVED. THE GIVEN ROWS OF THIS SEAT. 3 by the template 'for every input the law returns true; each argument reads behind the call as it read before'; 0 by the template 'total and deterministic' (their statements: YtfmbmiiioojbeaaGreatTotals.lean).
  GIVEN WITH THE SEED: the statements are not yours to turn. If you find one false, say at which input.
  Laid BY PROGRAM, IN A SANDBOX (cutbox-rows.mjs): the forced cells as the released guide's own fill.sh prints them over the translation 3f8a46e4801c1ad1… (all of the seat's roots in one cut). By AI agents, Wed Nov 11 2026. No macro, syntax, notation, axiom, sorry.
-/
import Derived.Test.YtfmbmiiioojbeaaGreatChecked
import GoSem.Claim
import GoSem.ClaimJoined
import GoSem.ClaimMapViews
import Derived.JoinedTies
import Derived.KernelRfl
namespace Go.Proofs.YtfmbmiiioojbeaaGreat
/- THE CELL 'sum', in the pinned program and in every row, IS THE sha256 OF THE DUMP (.gsa) THAT YtfmbmiiioojbeaaGreatProg.lean LOADS. Nothing in Lean hashes anything: it is a label: what it is worth is what the hold of that sum in a sandbox is worth. -/
noncomputable def Tryz.pinned : Pinned := { name := "ytfmbmiiioojbeaagreat", sum := "3f8a46e4801c1ad145ea46f21048b7a13bc6951215592df78729b702aff4d279", checked := Tryz.checked }
namespace Rows
def none {H : Type} : Left H := { results := [], args := [] }

/-- 'perigeelaw38.SenderBytes': WHATEVER THE INPUT: true; the input reads as it did. -/
def senderBytesSpec : ChangeSpec := { name := "senderBytes", fn := fun _ => fun
  | [d1, d2, d3] => { results := [.lit (.bool true)], args := [d1, d2, d3] }
  | _ => none }
def senderBytesRow : OpenClaim := { program := "ytfmbmiiioojbeaagreat", sum := "3f8a46e4801c1ad145ea46f21048b7a13bc6951215592df78729b702aff4d279", func := "perigee/perigeelaw38.SenderBytes", spec := "senderBytes", unfollowed := true, recurses := true, apart := false }
def SenderBytesSaid : Prop := senderBytesRow.holds Tryz.pinned (OpenSpec.ofChange senderBytesSpec)

/-- ITS FALSE NEIGHBOUR: 'it returns false'. Refute it at one input. -/
def senderBytesWrong : ChangeSpec := { name := "senderBytes", fn := fun _ => fun
  | [d1, d2, d3] => { results := [.lit (.bool false)], args := [d1, d2, d3] }
  | _ => none }
def SenderBytesWrongFalsely : Prop := senderBytesRow.holds Tryz.pinned (OpenSpec.ofChange senderBytesWrong)

/-- 'perigeelaw38.SenderRuns': WHATEVER THE INPUT: true; the input reads as it did. -/
def senderRunsSpec : ChangeSpec := { name := "senderRuns", fn := fun _ => fun
  | [d1, d2, d3] => { results := [.lit (.bool true)], args := [d1, d2, d3] }
  | _ => none }
def senderRunsRow : OpenClaim := { program := "ytfmbmiiioojbeaagreat", sum := "3f8a46e4801c1ad145ea46f21048b7a13bc6951215592df78729b702aff4d279", func := "perigee/perigeelaw38.SenderRuns", spec := "senderRuns", unfollowed := true, recurses := true, apart := false }
def SenderRunsSaid : Prop := senderRunsRow.holds Tryz.pinned (OpenSpec.ofChange senderRunsSpec)

/-- ITS FALSE NEIGHBOUR: 'it returns false'. Refute it at one input. -/
def senderRunsWrong : ChangeSpec := { name := "senderRuns", fn := fun _ => fun
  | [d1, d2, d3] => { results := [.lit (.bool false)], args := [d1, d2, d3] }
  | _ => none }
def SenderRunsWrongFalsely : Prop := senderRunsRow.holds Tryz.pinned (OpenSpec.ofChange senderRunsWrong)

/-- 'perigeelaw38.SenderNone': WHATEVER THE INPUT: true; the input reads as it did. -/
def senderNoneSpec : ChangeSpec := { name := "senderNone", fn := fun _ => fun
  | [d] => { results := [.lit (.bool true)], args := [d] }
  | _ => none }
def senderNoneRow : OpenClaim := { program := "ytfmbmiiioojbeaagreat", sum := "3f8a46e4801c1ad145ea46f21048b7a13bc6951215592df78729b702aff4d279", func := "perigee/perigeelaw38.SenderNone", spec := "senderNone", unfollowed := true, recurses := true, apart := false }
def SenderNoneSaid : Prop := senderNoneRow.holds Tryz.pinned (OpenSpec.ofChange senderNoneSpec)

/-- ITS FALSE NEIGHBOUR: 'it returns false'. Refute it at one input. -/
def senderNoneWrong : ChangeSpec := { name := "senderNone", fn := fun _ => fun
  | [d] => { results := [.lit (.bool false)], args := [d] }
  | _ => none }
def SenderNoneWrongFalsely : Prop := senderNoneRow.holds Tryz.pinned (OpenSpec.ofChange senderNoneWrong)

/- THE SECOND FORM. 'bulk': how many values and letters a reading holds, each counted each time it is reached (what is shared counts as often as it is met; a slice's spare places count too). A statement '..UptoSaid' is the law's where the arguments, and the package variables that the reading takes, are together of bulk at most 1048576: NARROWER than '..Said'. Prove '..Said' where nothing that the law and all that it calls make is longer than what came in: it says more and counts as full. Else prove '..UptoSaid'. A law counts once. -/
mutual
def uptoBulk {H : Type} : DataW H → Nat
  | .lit (.string bytes) => bytes.length + 1
  | .lit _ => 1
  | .nil => 1
  | .ptr d => uptoBulk d + 1
  | .slice elems spare => uptoBulkAll elems + uptoBulkAll spare + 1
  | .agg parts => uptoBulkAll parts + 1
  | .iface _ d => uptoBulk d + 1
  | .map entries => uptoBulkEntries entries + 1
  | .held _ => 1
def uptoBulkAll {H : Type} : List (DataW H) → Nat
  | [] => 0
  | d :: r => uptoBulk d + uptoBulkAll r
def uptoBulkEntries {H : Type} : List (Lit × DataW H) → Nat
  | [] => 0
  | x :: r => uptoBulkEntry x + uptoBulkEntries r
def uptoBulkEntry {H : Type} : Lit × DataW H → Nat
  | (.string bytes, d) => bytes.length + uptoBulk d + 1
  | (_, d) => uptoBulk d + 1
 end
def uptoSmall : (H : Type) → List (DataW H) → Bool := fun _ ds => decide (uptoBulkAll ds ≤ 1048576)
def OpenSpec.upto (s : _root_.Go.ChangeSpec) : _root_.Go.OpenSpec := { _root_.Go.OpenSpec.ofChange s with cond := some uptoSmall }

/-- 'perigeelaw38.SenderBytes', WHERE WHAT IT READS IS OF BULK AT MOST 1048576: true; the input reads as it did. -/
def senderBytesUptoRow : OpenClaim := { program := "ytfmbmiiioojbeaagreat", sum := "3f8a46e4801c1ad145ea46f21048b7a13bc6951215592df78729b702aff4d279", func := "perigee/perigeelaw38.SenderBytes", spec := "senderBytes", unfollowed := true, recurses := true, apart := false, narrowed := true }
def SenderBytesUptoSaid : Prop := senderBytesUptoRow.holds Tryz.pinned (OpenSpec.upto senderBytesSpec)

/-- 'perigeelaw38.SenderRuns', WHERE WHAT IT READS IS OF BULK AT MOST 1048576: true; the input reads as it did. -/
def senderRunsUptoRow : OpenClaim := { program := "ytfmbmiiioojbeaagreat", sum := "3f8a46e4801c1ad145ea46f21048b7a13bc6951215592df78729b702aff4d279", func := "perigee/perigeelaw38.SenderRuns", spec := "senderRuns", unfollowed := true, recurses := true, apart := false, narrowed := true }
def SenderRunsUptoSaid : Prop := senderRunsUptoRow.holds Tryz.pinned (OpenSpec.upto senderRunsSpec)

/-- 'perigeelaw38.SenderNone', WHERE WHAT IT READS IS OF BULK AT MOST 1048576: true; the input reads as it did. -/
def senderNoneUptoRow : OpenClaim := { program := "ytfmbmiiioojbeaagreat", sum := "3f8a46e4801c1ad145ea46f21048b7a13bc6951215592df78729b702aff4d279", func := "perigee/perigeelaw38.SenderNone", spec := "senderNone", unfollowed := true, recurses := true, apart := false, narrowed := true }
def SenderNoneUptoSaid : Prop := senderNoneUptoRow.holds Tryz.pinned (OpenSpec.upto senderNoneSpec)

end Rows
end Go.Proofs.YtfmbmiiioojbeaaGreat
