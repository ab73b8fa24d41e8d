/-
  Proved: whatever the model, perigeelaw28.HeatIdle returns true, and its input reads as it did (the given statement HeatIdleSaid).
  Conditions: none beyond the statement's own.
-/
import Derived.Test.YtmcpacfpnljijaaHS
import Derived.Test.YtmcpacfpnljijaaRows
import Derived.WalkKit
import Derived.ProofKit
import Derived.OpenShut
import Derived.JoinedCond
import Derived.SizedLaws
namespace Go.Proofs.Ytmcpacfpnljijaa
open Eng
set_option linter.unusedVariables false
theorem heatIdleOwn : ownKnob Try.prog.godebug = none := by kernel_rfl
theorem heatIdleLaid : laidOutB Try.prog = true := by kernel_rfl
theorem heatIdleContract (H : Type) (enc : TypeId × Value → H) (W : World) (base : Nat) (args : Array Value) (ds gs : List (DataW H)) (before : List MemPlace)
    (hval : ∀ (j : Nat) t v, Try.f7.params[j]? = some t → args[j]? = some v → Value.okWide Try.prog W .any base t v)
    (hW : DataW.Whole enc Try.prog Try.f7.params.toList Rows.heatIdleSpec.vars false W args.toList ds gs before)
    (hlt : (DataW.weightsEach Try.prog (Try.f7.params.toList ++ Rows.heatIdleSpec.plain.varTypes Try.prog) (ds ++ gs)).all (· ≤ reachBytes) = true) :
    Calls Try.prog 7 args W fun e W' => ∃ v, e = .returned v ∧ Rows.heatIdleSpec.post enc Try.prog Try.f7 false true false false W args v W' :=
  law_contract (tb := 4) Heat.idleTop rfl (fun x hx => by match x, hx with | [_], _ => rfl) (fun _ => Heat.EI_ok) Try.func7 rfl _ (fun _ => Nat.le_of_ble_eq_true rfl) (by kernel_rfl) (by kernel_rfl) heatIdleLaid
    (fun t ht => by
      have : ∀ t ∈ Try.f7.params.toList, (Try.prog.readableRec t && decide (t < Try.prog.types.size)) = true := List.all_eq_true.1 (by kernel_rfl)
      have := this t ht
      simpa using this)
    Heat.idle_walk base args ds gs before hval hW hlt
set_option maxRecDepth 100000 in
theorem heatIdleLifted (os : Os) (started : os.Started) (H : Type) (enc : TypeId × Value → H) :
    ReturnsInHanded {} Try.checked os 7 .any (Rows.heatIdleSpec.pre6 enc Try.prog Try.f7 Rows.heatIdleRow.domain false) (Rows.heatIdleSpec.post enc Try.prog Try.f7 false true false false) := by
  refine returnsInHanded_of_change_sized (C := Try.checked) heatIdleOwn started (by kernel_rfl) Try.func7
    (ChangeSpec.witness6 (enc := enc) (C := Try.checked) false ⟨#[], #[.agg #[.slice none 0 0, .slice none 0 0, .slice none 0 0, .slice none 0 0]], []⟩ 8 (by kernel_rfl) (by kernel_rfl) (by kernel_rfl) (by kernel_rfl)) ?_
  intro W base args ds gs before hval hW _ hlt _
  exact heatIdleContract H enc W base args ds gs before hval hW hlt
theorem heatIdleProved : Rows.HeatIdleSaid :=
  OpenClaim.holds_of_wide 7 Try.f7 rfl rfl rfl rfl rfl rfl rfl ⟨rfl, rfl, rfl, rfl, rfl⟩ rfl rfl rfl rfl rfl (by kernel_rfl) Try.func7 (by kernel_rfl)
    (of_decide_eq_true (by kernel_rfl)) (by unfold Func.isWrapper; first | (rw [if_pos (by decide +kernel)]; kernel_rfl) | (rw [if_neg (by decide +kernel)]; exact ⟨rfl, rfl⟩))
    (fun os started H enc _ => heatIdleLifted os started H enc)
end Go.Proofs.Ytmcpacfpnljijaa
