/-
  Proved: whatever the name, the file and the lists of gaps, perigeelaw38.SenderBytes returns true (the given statement SenderBytesSaid).
  Conditions: none beyond the statement's own.
-/
import Derived.Test.YtfmbmiiioojbeaaGreatNF
import Derived.Test.YtfmbmiiioojbeaaGreatRows
import Derived.WalkKit
import Derived.ProofKit
import Derived.OpenShut
import Derived.JoinedCond
import Derived.SizedLaws
namespace Go.Proofs.YtfmbmiiioojbeaaGreat
open Eng
set_option linter.unusedVariables false
theorem senderBytesOwn : ownKnob Tryz.prog.godebug = none := by kernel_rfl
theorem senderBytesLaid : laidOutB Tryz.prog = true := by kernel_rfl
set_option maxRecDepth 100000 in
theorem senderBytesContract (H : Type) (enc : TypeId × Value → H) (W : World) (base : Nat) (args : Array Value) (ds gs : List (DataW H)) (before : List MemPlace)
    (hval : ∀ (j : Nat) t v, Tryz.f3.params[j]? = some t → args[j]? = some v → Value.okWide Tryz.prog W .any base t v)
    (hW : DataW.Whole enc Tryz.prog Tryz.f3.params.toList Rows.senderBytesSpec.vars false W args.toList ds gs before)
    (hlt : (DataW.weightsEach Tryz.prog (Tryz.f3.params.toList ++ Rows.senderBytesSpec.plain.varTypes Tryz.prog) (ds ++ gs)).all (· ≤ reachBytes) = true) :
    Calls Tryz.prog 3 args W fun e W' => ∃ v, e = .returned v ∧ Rows.senderBytesSpec.post enc Tryz.prog Tryz.f3 false true false false W args v W' :=
  law_contract (tb := 4) Rc.bytesTop rfl (fun x hx => by match x, hx with | [_, _, _], _ => rfl) (fun _ => Rc.EBY_ok) Tryz.func3 rfl _ (fun _ => Nat.le_of_ble_eq_true rfl) (by kernel_rfl) (by kernel_rfl) senderBytesLaid
    (fun t ht => by
      have : ∀ t ∈ Tryz.f3.params.toList, (Tryz.prog.readableRec t && decide (t < Tryz.prog.types.size)) = true := List.all_eq_true.1 (by kernel_rfl)
      have := this t ht
      simpa using this)
    Rc.bytes_walk base args ds gs before hval hW hlt
set_option maxRecDepth 100000 in
set_option maxRecDepth 100000 in
theorem senderBytesLifted (os : Os) (started : os.Started) (H : Type) (enc : TypeId × Value → H) :
    ReturnsInHanded {} Tryz.checked os 3 .any (Rows.senderBytesSpec.pre6 enc Tryz.prog Tryz.f3 Rows.senderBytesRow.domain false) (Rows.senderBytesSpec.post enc Tryz.prog Tryz.f3 false true false false) := by
  refine returnsInHanded_of_change_sized (C := Tryz.checked) senderBytesOwn started (by kernel_rfl) Tryz.func3
    (ChangeSpec.witness6 (enc := enc) (C := Tryz.checked) false ⟨#[], #[.string ⟨#[]⟩, .string ⟨#[]⟩, .slice none 0 0], []⟩ 8 (by kernel_rfl) (by kernel_rfl) (by kernel_rfl) (by kernel_rfl)) ?_
  intro W base args ds gs before hval hW _ hlt _
  exact senderBytesContract H enc W base args ds gs before hval hW hlt
theorem senderBytesProved : Rows.SenderBytesSaid :=
  OpenClaim.holds_of_wide 3 Tryz.f3 rfl rfl rfl rfl rfl rfl rfl ⟨rfl, rfl, rfl, rfl, rfl⟩ rfl rfl rfl rfl rfl (by kernel_rfl) Tryz.func3 (by kernel_rfl)
    (of_decide_eq_true (by kernel_rfl)) (by unfold Func.isWrapper; first | (rw [if_pos (by decide +kernel)]; kernel_rfl) | (rw [if_neg (by decide +kernel)]; exact ⟨rfl, rfl⟩))
    (fun os started H enc _ => senderBytesLifted os started H enc)
end Go.Proofs.YtfmbmiiioojbeaaGreat
