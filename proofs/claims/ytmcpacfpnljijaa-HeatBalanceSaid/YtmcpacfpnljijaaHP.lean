/-
  Proved: whatever the model, what comes in and the ticks, perigeelaw28.HeatBalance returns true, and its input reads as it did (the given statement HeatBalanceSaid).
  Conditions: none beyond the statement's own.
-/
import Derived.Test.YtmcpacfpnljijaaHO
import Derived.Test.YtmcpacfpnljijaaRows
import Derived.WalkKit
import Derived.ProofKit
import Derived.OpenShut
import Derived.JoinedCond
import Derived.SizedLaws
namespace Go.Proofs.Ytmcpacfpnljijaa
open Eng
set_option linter.unusedVariables false
theorem heatBalanceOwn : ownKnob Try.prog.godebug = none := by kernel_rfl
theorem heatBalanceLaid : laidOutB Try.prog = true := by kernel_rfl
theorem heatBalanceContract (H : Type) (enc : TypeId × Value → H) (W : World) (base : Nat) (args : Array Value) (ds gs : List (DataW H)) (before : List MemPlace)
    (hval : ∀ (j : Nat) t v, Try.f4.params[j]? = some t → args[j]? = some v → Value.okWide Try.prog W .any base t v)
    (hW : DataW.Whole enc Try.prog Try.f4.params.toList Rows.heatBalanceSpec.vars false W args.toList ds gs before)
    (hlt : (DataW.weightsEach Try.prog (Try.f4.params.toList ++ Rows.heatBalanceSpec.plain.varTypes Try.prog) (ds ++ gs)).all (· ≤ reachBytes) = true) :
    Calls Try.prog 4 args W fun e W' => ∃ v, e = .returned v ∧ Rows.heatBalanceSpec.post enc Try.prog Try.f4 false true false false W args v W' :=
  law_contract (tb := 4) Heat.balanceTop rfl (fun x hx => by match x, hx with | [_, _, _], _ => rfl) (fun _ => Heat.EP_ok) Try.func4 rfl _ (fun _ => Nat.le_of_ble_eq_true rfl) (by kernel_rfl) (by kernel_rfl) heatBalanceLaid
    (fun t ht => by
      have : ∀ t ∈ Try.f4.params.toList, (Try.prog.readableRec t && decide (t < Try.prog.types.size)) = true := List.all_eq_true.1 (by kernel_rfl)
      have := this t ht
      simpa using this)
    Heat.balance_walk base args ds gs before hval hW hlt
set_option maxRecDepth 100000 in
theorem heatBalanceLifted (os : Os) (started : os.Started) (H : Type) (enc : TypeId × Value → H) :
    ReturnsInHanded {} Try.checked os 4 .any (Rows.heatBalanceSpec.pre6 enc Try.prog Try.f4 Rows.heatBalanceRow.domain false) (Rows.heatBalanceSpec.post enc Try.prog Try.f4 false true false false) := by
  refine returnsInHanded_of_change_sized (C := Try.checked) heatBalanceOwn started (by kernel_rfl) Try.func4
    (ChangeSpec.witness6 (enc := enc) (C := Try.checked) false ⟨#[], #[.agg #[.slice none 0 0, .slice none 0 0, .slice none 0 0, .slice none 0 0], .slice none 0 0, .int .i64 0], []⟩ 8 (by kernel_rfl) (by kernel_rfl) (by kernel_rfl) (by kernel_rfl)) ?_
  intro W base args ds gs before hval hW _ hlt _
  exact heatBalanceContract H enc W base args ds gs before hval hW hlt
theorem heatBalanceProved : Rows.HeatBalanceSaid :=
  OpenClaim.holds_of_wide 4 Try.f4 rfl rfl rfl rfl rfl rfl rfl ⟨rfl, rfl, rfl, rfl, rfl⟩ rfl rfl rfl rfl rfl (by kernel_rfl) Try.func4 (by kernel_rfl)
    (of_decide_eq_true (by kernel_rfl)) (by unfold Func.isWrapper; first | (rw [if_pos (by decide +kernel)]; kernel_rfl) | (rw [if_neg (by decide +kernel)]; exact ⟨rfl, rfl⟩))
    (fun os started H enc _ => heatBalanceLifted os started H enc)
end Go.Proofs.Ytmcpacfpnljijaa
