/-
  Proved: whatever the node, the power and the bound, perigeelaw28.HeatHeaters returns true, and its input reads as it did (the given statement HeatHeatersSaid).
  Conditions: none beyond the statement's own.
-/
import Derived.Test.YtmcpacfpnljijaaHF
import Derived.Test.YtmcpacfpnljijaaRows
import Derived.WalkKit
import Derived.ProofKit
import Derived.OpenShut
import Derived.JoinedCond
import Derived.SizedLaws
namespace Go.Proofs.Ytmcpacfpnljijaa
open Eng
set_option linter.unusedVariables false
theorem heatHeatersOwn : ownKnob Try.prog.godebug = none := by kernel_rfl
theorem heatHeatersLaid : laidOutB Try.prog = true := by kernel_rfl
theorem heatHeatersContract (H : Type) (enc : TypeId × Value → H) (W : World) (base : Nat) (args : Array Value) (ds gs : List (DataW H)) (before : List MemPlace)
    (hval : ∀ (j : Nat) t v, Try.f6.params[j]? = some t → args[j]? = some v → Value.okWide Try.prog W .any base t v)
    (hW : DataW.Whole enc Try.prog Try.f6.params.toList Rows.heatHeatersSpec.vars false W args.toList ds gs before)
    (hlt : (DataW.weightsEach Try.prog (Try.f6.params.toList ++ Rows.heatHeatersSpec.plain.varTypes Try.prog) (ds ++ gs)).all (· ≤ reachBytes) = true) :
    Calls Try.prog 6 args W fun e W' => ∃ v, e = .returned v ∧ Rows.heatHeatersSpec.post enc Try.prog Try.f6 false true false false W args v W' :=
  law_contract (tb := 4) Heat.heatersTop rfl (fun x hx => by match x, hx with | [_, _, _], _ => rfl) (fun _ => Heat.EZ_ok) Try.func6 rfl _ (fun _ => Nat.le_of_ble_eq_true rfl) (by kernel_rfl) (by kernel_rfl) heatHeatersLaid
    (fun t ht => by
      have : ∀ t ∈ Try.f6.params.toList, (Try.prog.readableRec t && decide (t < Try.prog.types.size)) = true := List.all_eq_true.1 (by kernel_rfl)
      have := this t ht
      simpa using this)
    Heat.heaters_walk base args ds gs before hval hW hlt
set_option maxRecDepth 100000 in
theorem heatHeatersLifted (os : Os) (started : os.Started) (H : Type) (enc : TypeId × Value → H) :
    ReturnsInHanded {} Try.checked os 6 .any (Rows.heatHeatersSpec.pre6 enc Try.prog Try.f6 Rows.heatHeatersRow.domain false) (Rows.heatHeatersSpec.post enc Try.prog Try.f6 false true false false) := by
  refine returnsInHanded_of_change_sized (C := Try.checked) heatHeatersOwn started (by kernel_rfl) Try.func6
    (ChangeSpec.witness6 (enc := enc) (C := Try.checked) false ⟨#[], #[.agg #[.int .i64 0, .int .i64 0], .int .i64 0, .int .i64 0], []⟩ 8 (by kernel_rfl) (by kernel_rfl) (by kernel_rfl) (by kernel_rfl)) ?_
  intro W base args ds gs before hval hW _ hlt _
  exact heatHeatersContract H enc W base args ds gs before hval hW hlt
theorem heatHeatersProved : Rows.HeatHeatersSaid :=
  OpenClaim.holds_of_wide 6 Try.f6 rfl rfl rfl rfl rfl rfl rfl ⟨rfl, rfl, rfl, rfl, rfl⟩ rfl rfl rfl rfl rfl (by kernel_rfl) Try.func6 (by kernel_rfl)
    (of_decide_eq_true (by kernel_rfl)) (by unfold Func.isWrapper; first | (rw [if_pos (by decide +kernel)]; kernel_rfl) | (rw [if_neg (by decide +kernel)]; exact ⟨rfl, rfl⟩))
    (fun os started H enc _ => heatHeatersLifted os started H enc)
end Go.Proofs.Ytmcpacfpnljijaa
