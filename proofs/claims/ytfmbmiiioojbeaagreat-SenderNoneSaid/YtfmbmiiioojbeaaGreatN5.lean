/-
  Proved: whatever the operation, perigeelaw38.SenderNone returns true: a sender that is nil, or was not returned by New, does nothing; and its input reads as it did (the given statement SenderNoneSaid).
  Conditions: none beyond the statement's own.
-/
import Derived.Test.YtfmbmiiioojbeaaGreatN4
import Derived.Test.YtfmbmiiioojbeaaGreatRows
import Derived.WalkKit
import Derived.ProofKit
import Derived.OpenShut
import Derived.JoinedCond
import Derived.SizedLaws
namespace Go.Proofs.YtfmbmiiioojbeaaGreat
open Eng
set_option linter.unusedVariables false
theorem senderNoneOwn : ownKnob Tryz.prog.godebug = none := by kernel_rfl
theorem senderNoneLaid : laidOutB Tryz.prog = true := by kernel_rfl
set_option maxRecDepth 100000 in
theorem senderNoneContract (H : Type) (enc : TypeId × Value → H) (W : World) (base : Nat) (args : Array Value) (ds gs : List (DataW H)) (before : List MemPlace)
    (hval : ∀ (j : Nat) t v, Tryz.f5.params[j]? = some t → args[j]? = some v → Value.okWide Tryz.prog W .any base t v)
    (hW : DataW.Whole enc Tryz.prog Tryz.f5.params.toList Rows.senderNoneSpec.vars false W args.toList ds gs before)
    (hlt : (DataW.weightsEach Tryz.prog (Tryz.f5.params.toList ++ Rows.senderNoneSpec.plain.varTypes Tryz.prog) (ds ++ gs)).all (· ≤ reachBytes) = true) :
    Calls Tryz.prog 5 args W fun e W' => ∃ v, e = .returned v ∧ Rows.senderNoneSpec.post enc Tryz.prog Tryz.f5 false true false false W args v W' :=
  law_contract (tb := 4) Rc.noneTop rfl (fun x hx => by match x, hx with | [_], _ => rfl) (fun _ => Rc.ENN_ok) Tryz.func5 rfl _ (fun _ => Nat.le_of_ble_eq_true rfl) (by kernel_rfl) (by kernel_rfl) senderNoneLaid
    (fun t ht => by
      have : ∀ t ∈ Tryz.f5.params.toList, (Tryz.prog.readableRec t && decide (t < Tryz.prog.types.size)) = true := List.all_eq_true.1 (by kernel_rfl)
      have := this t ht
      simpa using this)
    Rc.none_walk base args ds gs before hval hW hlt
set_option maxRecDepth 100000 in
theorem senderNoneLifted (os : Os) (started : os.Started) (H : Type) (enc : TypeId × Value → H) :
    ReturnsInHanded {} Tryz.checked os 5 .any (Rows.senderNoneSpec.pre6 enc Tryz.prog Tryz.f5 Rows.senderNoneRow.domain false) (Rows.senderNoneSpec.post enc Tryz.prog Tryz.f5 false true false false) := by
  refine returnsInHanded_of_change_sized (C := Tryz.checked) senderNoneOwn started (by kernel_rfl) Tryz.func5
    (ChangeSpec.witness6 (enc := enc) (C := Tryz.checked) false ⟨#[], #[.agg #[.int .i64 0, .int .i64 0, .string ⟨#[]⟩, .string ⟨#[]⟩, .string ⟨#[]⟩, .int .i64 0, .int .i64 0, .string ⟨#[]⟩, .int .i64 0, .int .u32 0, .int .i64 0, .string ⟨#[]⟩, .int .i64 0, .int .i64 0, .bool false, .slice none 0 0]], []⟩ 8 (by kernel_rfl) (by kernel_rfl) (by kernel_rfl) (by kernel_rfl)) ?_
  intro W base args ds gs before hval hW _ hlt _
  exact senderNoneContract H enc W base args ds gs before hval hW hlt
theorem senderNoneProved : Rows.SenderNoneSaid :=
  OpenClaim.holds_of_wide 5 Tryz.f5 rfl rfl rfl rfl rfl rfl rfl ⟨rfl, rfl, rfl, rfl, rfl⟩ rfl rfl rfl rfl rfl (by kernel_rfl) Tryz.func5 (by kernel_rfl)
    (of_decide_eq_true (by kernel_rfl)) (by unfold Func.isWrapper; first | (rw [if_pos (by decide +kernel)]; kernel_rfl) | (rw [if_neg (by decide +kernel)]; exact ⟨rfl, rfl⟩))
    (fun os started H enc _ => senderNoneLifted os started H enc)
end Go.Proofs.YtfmbmiiioojbeaaGreat
