/-
  Proved: whatever the two nodes and the conductance, perigeelaw28.HeatPairs returns true, and its input reads as it did (the given statement HeatPairsSaid).
  Conditions: none beyond the statement's own.
-/
import Derived.Test.YtmcpacfpnljijaaHD
import Derived.Test.YtmcpacfpnljijaaRows
import Derived.WalkKit
import Derived.ProofKit
import Derived.OpenShut
import Derived.JoinedCond
import Derived.SizedLaws
namespace Go.Proofs.Ytmcpacfpnljijaa
open Eng
set_option linter.unusedVariables false
theorem heatPairsOwn : ownKnob Try.prog.godebug = none := by kernel_rfl
theorem heatPairsLaid : laidOutB Try.prog = true := by kernel_rfl
theorem heatPairsContract (H : Type) (enc : TypeId × Value → H) (W : World) (base : Nat) (args : Array Value) (ds gs : List (DataW H)) (before : List MemPlace)
    (hval : ∀ (j : Nat) t v, Try.f5.params[j]? = some t → args[j]? = some v → Value.okWide Try.prog W .any base t v)
    (hW : DataW.Whole enc Try.prog Try.f5.params.toList Rows.heatPairsSpec.vars false W args.toList ds gs before)
    (hlt : (DataW.weightsEach Try.prog (Try.f5.params.toList ++ Rows.heatPairsSpec.plain.varTypes Try.prog) (ds ++ gs)).all (· ≤ reachBytes) = true) :
    Calls Try.prog 5 args W fun e W' => ∃ v, e = .returned v ∧ Rows.heatPairsSpec.post enc Try.prog Try.f5 false true false false W args v W' :=
  law_contract (tb := 4) Heat.pairsTop rfl (fun x hx => by match x, hx with | [_, _, _], _ => rfl) (fun _ => Heat.EZ_ok) Try.func5 rfl _ (fun _ => Nat.le_of_ble_eq_true rfl) (by kernel_rfl) (by kernel_rfl) heatPairsLaid
    (fun t ht => by
      have : ∀ t ∈ Try.f5.params.toList, (Try.prog.readableRec t && decide (t < Try.prog.types.size)) = true := List.all_eq_true.1 (by kernel_rfl)
      have := this t ht
      simpa using this)
    Heat.pairs_walk base args ds gs before hval hW hlt
set_option maxRecDepth 100000 in
theorem heatPairsLifted (os : Os) (started : os.Started) (H : Type) (enc : TypeId × Value → H) :
    ReturnsInHanded {} Try.checked os 5 .any (Rows.heatPairsSpec.pre6 enc Try.prog Try.f5 Rows.heatPairsRow.domain false) (Rows.heatPairsSpec.post enc Try.prog Try.f5 false true false false) := by
  refine returnsInHanded_of_change_sized (C := Try.checked) heatPairsOwn started (by kernel_rfl) Try.func5
    (ChangeSpec.witness6 (enc := enc) (C := Try.checked) false ⟨#[], #[.agg #[.int .i64 0, .int .i64 0], .agg #[.int .i64 0, .int .i64 0], .int .i64 0], []⟩ 8 (by kernel_rfl) (by kernel_rfl) (by kernel_rfl) (by kernel_rfl)) ?_
  intro W base args ds gs before hval hW _ hlt _
  exact heatPairsContract H enc W base args ds gs before hval hW hlt
theorem heatPairsProved : Rows.HeatPairsSaid :=
  OpenClaim.holds_of_wide 5 Try.f5 rfl rfl rfl rfl rfl rfl rfl ⟨rfl, rfl, rfl, rfl, rfl⟩ rfl rfl rfl rfl rfl (by kernel_rfl) Try.func5 (by kernel_rfl)
    (of_decide_eq_true (by kernel_rfl)) (by unfold Func.isWrapper; first | (rw [if_pos (by decide +kernel)]; kernel_rfl) | (rw [if_neg (by decide +kernel)]; exact ⟨rfl, rfl⟩))
    (fun os started H enc _ => heatPairsLifted os started H enc)
end Go.Proofs.Ytmcpacfpnljijaa
