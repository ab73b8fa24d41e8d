/-
  No cell of these rows narrows 'for every input' (looked for: loops, veiled, ifaces, maps, wideKeys, modest, calm, conditions, laid).
  DERIVED. THE GIVEN ROWS OF THIS SEAT. 5 by the template 'for every input the law returns true; each argument reads behind the call as it read before'; 0 by the template 'total and deterministic' (their statements: YtmcpacfpnljijaaTotals.lean).
  GIVEN WITH THE SEED: the statements are not yours to turn. If you find one false, say at which input.
  Laid BY PROGRAM, IN A SANDBOX (cutbox-rows.mjs): the forced cells as the released guide's own fill.sh prints them over the translation 1b47e7f66cb60f72… (all of the seat's roots in one cut). By AI agents, Wed Nov 11 2026. No macro, syntax, notation, axiom, sorry.
-/
import Derived.Test.YtmcpacfpnljijaaChecked
import GoSem.Claim
import GoSem.ClaimJoined
import GoSem.ClaimMapViews
import Derived.JoinedTies
import Derived.KernelRfl
namespace Go.Proofs.Ytmcpacfpnljijaa
/- THE CELL 'sum', in the pinned program and in every row, IS THE sha256 OF THE DUMP (.gsa) THAT YtmcpacfpnljijaaProg.lean LOADS. Nothing in Lean hashes anything: it is a label: what it is worth is what the hold of that sum in a sandbox is worth. -/
noncomputable def Try.pinned : Pinned := { name := "ytmcpacfpnljijaa", sum := "1b47e7f66cb60f72933bca881951ade9350c97f08b1eb62f2a5b5948e6bfb493", checked := Try.checked }
namespace Rows
def none {H : Type} : Left H := { results := [], args := [] }

/-- 'perigeelaw28.HeatChecks': WHATEVER THE INPUT: true; the input reads as it did. -/
def heatChecksSpec : ChangeSpec := { name := "heatChecks", fn := fun _ => fun
  | [d1, d2] => { results := [.lit (.bool true)], args := [d1, d2] }
  | _ => none }
def heatChecksRow : OpenClaim := { program := "ytmcpacfpnljijaa", sum := "1b47e7f66cb60f72933bca881951ade9350c97f08b1eb62f2a5b5948e6bfb493", func := "perigee/perigeelaw28.HeatChecks", spec := "heatChecks", unfollowed := true, recurses := true, apart := false }
def HeatChecksSaid : Prop := heatChecksRow.holds Try.pinned (OpenSpec.ofChange heatChecksSpec)

/-- ITS FALSE NEIGHBOUR: 'it returns false'. Refute it at one input. -/
def heatChecksWrong : ChangeSpec := { name := "heatChecks", fn := fun _ => fun
  | [d1, d2] => { results := [.lit (.bool false)], args := [d1, d2] }
  | _ => none }
def HeatChecksWrongFalsely : Prop := heatChecksRow.holds Try.pinned (OpenSpec.ofChange heatChecksWrong)

/-- 'perigeelaw28.HeatBalance': WHATEVER THE INPUT: true; the input reads as it did. -/
def heatBalanceSpec : ChangeSpec := { name := "heatBalance", fn := fun _ => fun
  | [d1, d2, d3] => { results := [.lit (.bool true)], args := [d1, d2, d3] }
  | _ => none }
def heatBalanceRow : OpenClaim := { program := "ytmcpacfpnljijaa", sum := "1b47e7f66cb60f72933bca881951ade9350c97f08b1eb62f2a5b5948e6bfb493", func := "perigee/perigeelaw28.HeatBalance", spec := "heatBalance", unfollowed := true, recurses := true, apart := false }
def HeatBalanceSaid : Prop := heatBalanceRow.holds Try.pinned (OpenSpec.ofChange heatBalanceSpec)

/-- ITS FALSE NEIGHBOUR: 'it returns false'. Refute it at one input. -/
def heatBalanceWrong : ChangeSpec := { name := "heatBalance", fn := fun _ => fun
  | [d1, d2, d3] => { results := [.lit (.bool false)], args := [d1, d2, d3] }
  | _ => none }
def HeatBalanceWrongFalsely : Prop := heatBalanceRow.holds Try.pinned (OpenSpec.ofChange heatBalanceWrong)

/-- 'perigeelaw28.HeatPairs': WHATEVER THE INPUT: true; the input reads as it did. -/
def heatPairsSpec : ChangeSpec := { name := "heatPairs", fn := fun _ => fun
  | [d1, d2, d3] => { results := [.lit (.bool true)], args := [d1, d2, d3] }
  | _ => none }
def heatPairsRow : OpenClaim := { program := "ytmcpacfpnljijaa", sum := "1b47e7f66cb60f72933bca881951ade9350c97f08b1eb62f2a5b5948e6bfb493", func := "perigee/perigeelaw28.HeatPairs", spec := "heatPairs", unfollowed := true, recurses := true, apart := false }
def HeatPairsSaid : Prop := heatPairsRow.holds Try.pinned (OpenSpec.ofChange heatPairsSpec)

/-- ITS FALSE NEIGHBOUR: 'it returns false'. Refute it at one input. -/
def heatPairsWrong : ChangeSpec := { name := "heatPairs", fn := fun _ => fun
  | [d1, d2, d3] => { results := [.lit (.bool false)], args := [d1, d2, d3] }
  | _ => none }
def HeatPairsWrongFalsely : Prop := heatPairsRow.holds Try.pinned (OpenSpec.ofChange heatPairsWrong)

/-- 'perigeelaw28.HeatHeaters': WHATEVER THE INPUT: true; the input reads as it did. -/
def heatHeatersSpec : ChangeSpec := { name := "heatHeaters", fn := fun _ => fun
  | [d1, d2, d3] => { results := [.lit (.bool true)], args := [d1, d2, d3] }
  | _ => none }
def heatHeatersRow : OpenClaim := { program := "ytmcpacfpnljijaa", sum := "1b47e7f66cb60f72933bca881951ade9350c97f08b1eb62f2a5b5948e6bfb493", func := "perigee/perigeelaw28.HeatHeaters", spec := "heatHeaters", unfollowed := true, recurses := true, apart := false }
def HeatHeatersSaid : Prop := heatHeatersRow.holds Try.pinned (OpenSpec.ofChange heatHeatersSpec)

/-- ITS FALSE NEIGHBOUR: 'it returns false'. Refute it at one input. -/
def heatHeatersWrong : ChangeSpec := { name := "heatHeaters", fn := fun _ => fun
  | [d1, d2, d3] => { results := [.lit (.bool false)], args := [d1, d2, d3] }
  | _ => none }
def HeatHeatersWrongFalsely : Prop := heatHeatersRow.holds Try.pinned (OpenSpec.ofChange heatHeatersWrong)

/-- 'perigeelaw28.HeatIdle': WHATEVER THE INPUT: true; the input reads as it did. -/
def heatIdleSpec : ChangeSpec := { name := "heatIdle", fn := fun _ => fun
  | [d] => { results := [.lit (.bool true)], args := [d] }
  | _ => none }
def heatIdleRow : OpenClaim := { program := "ytmcpacfpnljijaa", sum := "1b47e7f66cb60f72933bca881951ade9350c97f08b1eb62f2a5b5948e6bfb493", func := "perigee/perigeelaw28.HeatIdle", spec := "heatIdle", unfollowed := true, recurses := true, apart := false }
def HeatIdleSaid : Prop := heatIdleRow.holds Try.pinned (OpenSpec.ofChange heatIdleSpec)

/-- ITS FALSE NEIGHBOUR: 'it returns false'. Refute it at one input. -/
def heatIdleWrong : ChangeSpec := { name := "heatIdle", fn := fun _ => fun
  | [d] => { results := [.lit (.bool false)], args := [d] }
  | _ => none }
def HeatIdleWrongFalsely : Prop := heatIdleRow.holds Try.pinned (OpenSpec.ofChange heatIdleWrong)

/- THE SECOND FORM. 'bulk': how many values and letters a reading holds, each counted each time it is reached (what is shared counts as often as it is met; a slice's spare places count too). A statement '..UptoSaid' is the law's where the arguments, and the package variables that the reading takes, are together of bulk at most 1048576: NARROWER than '..Said'. Prove '..Said' where nothing that the law and all that it calls make is longer than what came in: it says more and counts as full. Else prove '..UptoSaid'. A law counts once. -/
mutual
def uptoBulk {H : Type} : DataW H → Nat
  | .lit (.string bytes) => bytes.length + 1
  | .lit _ => 1
  | .nil => 1
  | .ptr d => uptoBulk d + 1
  | .slice elems spare => uptoBulkAll elems + uptoBulkAll spare + 1
  | .agg parts => uptoBulkAll parts + 1
  | .iface _ d => uptoBulk d + 1
  | .map entries => uptoBulkEntries entries + 1
  | .held _ => 1
def uptoBulkAll {H : Type} : List (DataW H) → Nat
  | [] => 0
  | d :: r => uptoBulk d + uptoBulkAll r
def uptoBulkEntries {H : Type} : List (Lit × DataW H) → Nat
  | [] => 0
  | x :: r => uptoBulkEntry x + uptoBulkEntries r
def uptoBulkEntry {H : Type} : Lit × DataW H → Nat
  | (.string bytes, d) => bytes.length + uptoBulk d + 1
  | (_, d) => uptoBulk d + 1
 end
def uptoSmall : (H : Type) → List (DataW H) → Bool := fun _ ds => decide (uptoBulkAll ds ≤ 1048576)
def OpenSpec.upto (s : _root_.Go.ChangeSpec) : _root_.Go.OpenSpec := { _root_.Go.OpenSpec.ofChange s with cond := some uptoSmall }

/-- 'perigeelaw28.HeatChecks', WHERE WHAT IT READS IS OF BULK AT MOST 1048576: true; the input reads as it did. -/
def heatChecksUptoRow : OpenClaim := { program := "ytmcpacfpnljijaa", sum := "1b47e7f66cb60f72933bca881951ade9350c97f08b1eb62f2a5b5948e6bfb493", func := "perigee/perigeelaw28.HeatChecks", spec := "heatChecks", unfollowed := true, recurses := true, apart := false, narrowed := true }
def HeatChecksUptoSaid : Prop := heatChecksUptoRow.holds Try.pinned (OpenSpec.upto heatChecksSpec)

/-- 'perigeelaw28.HeatBalance', WHERE WHAT IT READS IS OF BULK AT MOST 1048576: true; the input reads as it did. -/
def heatBalanceUptoRow : OpenClaim := { program := "ytmcpacfpnljijaa", sum := "1b47e7f66cb60f72933bca881951ade9350c97f08b1eb62f2a5b5948e6bfb493", func := "perigee/perigeelaw28.HeatBalance", spec := "heatBalance", unfollowed := true, recurses := true, apart := false, narrowed := true }
def HeatBalanceUptoSaid : Prop := heatBalanceUptoRow.holds Try.pinned (OpenSpec.upto heatBalanceSpec)

/-- 'perigeelaw28.HeatPairs', WHERE WHAT IT READS IS OF BULK AT MOST 1048576: true; the input reads as it did. -/
def heatPairsUptoRow : OpenClaim := { program := "ytmcpacfpnljijaa", sum := "1b47e7f66cb60f72933bca881951ade9350c97f08b1eb62f2a5b5948e6bfb493", func := "perigee/perigeelaw28.HeatPairs", spec := "heatPairs", unfollowed := true, recurses := true, apart := false, narrowed := true }
def HeatPairsUptoSaid : Prop := heatPairsUptoRow.holds Try.pinned (OpenSpec.upto heatPairsSpec)

/-- 'perigeelaw28.HeatHeaters', WHERE WHAT IT READS IS OF BULK AT MOST 1048576: true; the input reads as it did. -/
def heatHeatersUptoRow : OpenClaim := { program := "ytmcpacfpnljijaa", sum := "1b47e7f66cb60f72933bca881951ade9350c97f08b1eb62f2a5b5948e6bfb493", func := "perigee/perigeelaw28.HeatHeaters", spec := "heatHeaters", unfollowed := true, recurses := true, apart := false, narrowed := true }
def HeatHeatersUptoSaid : Prop := heatHeatersUptoRow.holds Try.pinned (OpenSpec.upto heatHeatersSpec)

/-- 'perigeelaw28.HeatIdle', WHERE WHAT IT READS IS OF BULK AT MOST 1048576: true; the input reads as it did. -/
def heatIdleUptoRow : OpenClaim := { program := "ytmcpacfpnljijaa", sum := "1b47e7f66cb60f72933bca881951ade9350c97f08b1eb62f2a5b5948e6bfb493", func := "perigee/perigeelaw28.HeatIdle", spec := "heatIdle", unfollowed := true, recurses := true, apart := false, narrowed := true }
def HeatIdleUptoSaid : Prop := heatIdleUptoRow.holds Try.pinned (OpenSpec.upto heatIdleSpec)

end Rows
end Go.Proofs.Ytmcpacfpnljijaa
