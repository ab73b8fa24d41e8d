/-
  No cell of these rows narrows 'for every input' (looked for: loops, veiled, ifaces, maps, wideKeys, modest, calm, conditions, laid).
  DERIVED. THE GIVEN ROWS OF THIS SEAT. 3 by the template 'for every input the law returns true; each argument reads behind the call as it read before'; 0 by the template 'total and deterministic' (their statements: YtjhcndahjhkahaaGreatTotals.lean).
  GIVEN WITH THE SEED: the statements are not yours to turn. If you find one false, say at which input.
  Laid BY PROGRAM, IN A SANDBOX (cutbox-rows.mjs): the forced cells as the released guide's own fill.sh prints them over the translation 30bb7cf521a952f6… (all of the seat's roots in one cut). By AI agents, Wed Nov 11 2026. No macro, syntax, notation, axiom, sorry.
-/
import Derived.Test.YtjhcndahjhkahaaGreatChecked
import GoSem.Claim
import GoSem.ClaimJoined
import GoSem.ClaimMapViews
import Derived.JoinedTies
import Derived.KernelRfl
namespace Go.Proofs.YtjhcndahjhkahaaGreat
/- THE CELL 'sum', in the pinned program and in every row, IS THE sha256 OF THE DUMP (.gsa) THAT YtjhcndahjhkahaaGreatProg.lean LOADS. Nothing in Lean hashes anything: it is a label: what it is worth is what the hold of that sum in a sandbox is worth. -/
noncomputable def Tryz.pinned : Pinned := { name := "ytjhcndahjhkahaagreat", sum := "30bb7cf521a952f6c2306477135187f2a701e9b47d49e185e9ba0c67d8be4f12", checked := Tryz.checked }
namespace Rows
def none {H : Type} : Left H := { results := [], args := [] }

/-- 'perigeelaw39.ReceiverFile': WHATEVER THE INPUT: true; the input reads as it did. -/
def receiverFileSpec : ChangeSpec := { name := "receiverFile", fn := fun _ => fun
  | [d1, d2, d3] => { results := [.lit (.bool true)], args := [d1, d2, d3] }
  | _ => none }
def receiverFileRow : OpenClaim := { program := "ytjhcndahjhkahaagreat", sum := "30bb7cf521a952f6c2306477135187f2a701e9b47d49e185e9ba0c67d8be4f12", func := "perigee/perigeelaw39.ReceiverFile", spec := "receiverFile", unfollowed := true, recurses := true, apart := false }
def ReceiverFileSaid : Prop := receiverFileRow.holds Tryz.pinned (OpenSpec.ofChange receiverFileSpec)

/-- ITS FALSE NEIGHBOUR: 'it returns false'. Refute it at one input. -/
def receiverFileWrong : ChangeSpec := { name := "receiverFile", fn := fun _ => fun
  | [d1, d2, d3] => { results := [.lit (.bool false)], args := [d1, d2, d3] }
  | _ => none }
def ReceiverFileWrongFalsely : Prop := receiverFileRow.holds Tryz.pinned (OpenSpec.ofChange receiverFileWrong)

/-- 'perigeelaw39.ReceiverEnds': WHATEVER THE INPUT: true; the input reads as it did. -/
def receiverEndsSpec : ChangeSpec := { name := "receiverEnds", fn := fun _ => fun
  | [d1, d2] => { results := [.lit (.bool true)], args := [d1, d2] }
  | _ => none }
def receiverEndsRow : OpenClaim := { program := "ytjhcndahjhkahaagreat", sum := "30bb7cf521a952f6c2306477135187f2a701e9b47d49e185e9ba0c67d8be4f12", func := "perigee/perigeelaw39.ReceiverEnds", spec := "receiverEnds", unfollowed := true, recurses := true, apart := false }
def ReceiverEndsSaid : Prop := receiverEndsRow.holds Tryz.pinned (OpenSpec.ofChange receiverEndsSpec)

/-- ITS FALSE NEIGHBOUR: 'it returns false'. Refute it at one input. -/
def receiverEndsWrong : ChangeSpec := { name := "receiverEnds", fn := fun _ => fun
  | [d1, d2] => { results := [.lit (.bool false)], args := [d1, d2] }
  | _ => none }
def ReceiverEndsWrongFalsely : Prop := receiverEndsRow.holds Tryz.pinned (OpenSpec.ofChange receiverEndsWrong)

/-- 'perigeelaw39.ReceiverNone': WHATEVER THE INPUT: true; the input reads as it did. -/
def receiverNoneSpec : ChangeSpec := { name := "receiverNone", fn := fun _ => fun
  | [d] => { results := [.lit (.bool true)], args := [d] }
  | _ => none }
def receiverNoneRow : OpenClaim := { program := "ytjhcndahjhkahaagreat", sum := "30bb7cf521a952f6c2306477135187f2a701e9b47d49e185e9ba0c67d8be4f12", func := "perigee/perigeelaw39.ReceiverNone", spec := "receiverNone", unfollowed := true, recurses := true, apart := false }
def ReceiverNoneSaid : Prop := receiverNoneRow.holds Tryz.pinned (OpenSpec.ofChange receiverNoneSpec)

/-- ITS FALSE NEIGHBOUR: 'it returns false'. Refute it at one input. -/
def receiverNoneWrong : ChangeSpec := { name := "receiverNone", fn := fun _ => fun
  | [d] => { results := [.lit (.bool false)], args := [d] }
  | _ => none }
def ReceiverNoneWrongFalsely : Prop := receiverNoneRow.holds Tryz.pinned (OpenSpec.ofChange receiverNoneWrong)

/- THE SECOND FORM. 'bulk': how many values and letters a reading holds, each counted each time it is reached (what is shared counts as often as it is met; a slice's spare places count too). A statement '..UptoSaid' is the law's where the arguments, and the package variables that the reading takes, are together of bulk at most 1048576: NARROWER than '..Said'. Prove '..Said' where nothing that the law and all that it calls make is longer than what came in: it says more and counts as full. Else prove '..UptoSaid'. A law counts once. -/
mutual
def uptoBulk {H : Type} : DataW H → Nat
  | .lit (.string bytes) => bytes.length + 1
  | .lit _ => 1
  | .nil => 1
  | .ptr d => uptoBulk d + 1
  | .slice elems spare => uptoBulkAll elems + uptoBulkAll spare + 1
  | .agg parts => uptoBulkAll parts + 1
  | .iface _ d => uptoBulk d + 1
  | .map entries => uptoBulkEntries entries + 1
  | .held _ => 1
def uptoBulkAll {H : Type} : List (DataW H) → Nat
  | [] => 0
  | d :: r => uptoBulk d + uptoBulkAll r
def uptoBulkEntries {H : Type} : List (Lit × DataW H) → Nat
  | [] => 0
  | x :: r => uptoBulkEntry x + uptoBulkEntries r
def uptoBulkEntry {H : Type} : Lit × DataW H → Nat
  | (.string bytes, d) => bytes.length + uptoBulk d + 1
  | (_, d) => uptoBulk d + 1
 end
def uptoSmall : (H : Type) → List (DataW H) → Bool := fun _ ds => decide (uptoBulkAll ds ≤ 1048576)
def OpenSpec.upto (s : _root_.Go.ChangeSpec) : _root_.Go.OpenSpec := { _root_.Go.OpenSpec.ofChange s with cond := some uptoSmall }

/-- 'perigeelaw39.ReceiverFile', WHERE WHAT IT READS IS OF BULK AT MOST 1048576: true; the input reads as it did. -/
def receiverFileUptoRow : OpenClaim := { program := "ytjhcndahjhkahaagreat", sum := "30bb7cf521a952f6c2306477135187f2a701e9b47d49e185e9ba0c67d8be4f12", func := "perigee/perigeelaw39.ReceiverFile", spec := "receiverFile", unfollowed := true, recurses := true, apart := false, narrowed := true }
def ReceiverFileUptoSaid : Prop := receiverFileUptoRow.holds Tryz.pinned (OpenSpec.upto receiverFileSpec)

/-- 'perigeelaw39.ReceiverEnds', WHERE WHAT IT READS IS OF BULK AT MOST 1048576: true; the input reads as it did. -/
def receiverEndsUptoRow : OpenClaim := { program := "ytjhcndahjhkahaagreat", sum := "30bb7cf521a952f6c2306477135187f2a701e9b47d49e185e9ba0c67d8be4f12", func := "perigee/perigeelaw39.ReceiverEnds", spec := "receiverEnds", unfollowed := true, recurses := true, apart := false, narrowed := true }
def ReceiverEndsUptoSaid : Prop := receiverEndsUptoRow.holds Tryz.pinned (OpenSpec.upto receiverEndsSpec)

/-- 'perigeelaw39.ReceiverNone', WHERE WHAT IT READS IS OF BULK AT MOST 1048576: true; the input reads as it did. -/
def receiverNoneUptoRow : OpenClaim := { program := "ytjhcndahjhkahaagreat", sum := "30bb7cf521a952f6c2306477135187f2a701e9b47d49e185e9ba0c67d8be4f12", func := "perigee/perigeelaw39.ReceiverNone", spec := "receiverNone", unfollowed := true, recurses := true, apart := false, narrowed := true }
def ReceiverNoneUptoSaid : Prop := receiverNoneUptoRow.holds Tryz.pinned (OpenSpec.upto receiverNoneSpec)

end Rows
end Go.Proofs.YtjhcndahjhkahaaGreat
