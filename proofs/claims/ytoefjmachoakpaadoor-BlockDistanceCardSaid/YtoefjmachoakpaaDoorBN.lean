/-
  Proved: whatever the two strings, perigeelaw05.BlockDistance returns true, and its input reads as it did (the given statement BlockDistanceCardSaid: the row, and the tied card).
  Conditions: none beyond the statement's own (the listed variables start as the program's text lays them: the card ties them).
-/
import Derived.Test.YtoefjmachoakpaaDoorBL
import Derived.Test.YtoefjmachoakpaaDoorCards
import Derived.Test.YtoefjmachoakpaaDoorTie
import Derived.WalkKit
import Derived.ProofKit
import Derived.OpenShut
import Derived.LaidMore
import Derived.Lay
import Derived.SevenTiedAt
import Derived.JoinedCond
import Derived.SizedLaws
namespace Go.Proofs.YtoefjmachoakpaaDoor
open Eng
set_option linter.unusedVariables false
set_option maxRecDepth 100000
theorem blockDistanceOwn : ownKnob Tryd.prog.godebug = none := by kernel_rfl
theorem blockDistanceLaid : laidOutB Tryd.prog = true := by kernel_rfl
theorem blockDistanceContract (H : Type) (enc : TypeId × Value → H) (W : World) (base : Nat) (args : Array Value) (ds gs : List (DataW H)) (before : List MemPlace)
    (hval : ∀ (j : Nat) t v, Tryd.f5.params[j]? = some t → args[j]? = some v → Value.okWide Tryd.prog W .any base t v)
    (hW : DataW.Whole enc Tryd.prog Tryd.f5.params.toList Rows.blockDistanceSpec.vars false W args.toList ds gs before)
    (hlt : (DataW.weightsEach Tryd.prog (Tryd.f5.params.toList ++ Rows.blockDistanceSpec.plain.varTypes Tryd.prog) (ds ++ gs)).all (· ≤ reachBytes) = true) :
    Calls Tryd.prog 5 args W fun e W' => ∃ v, e = .returned v ∧ Rows.blockDistanceSpec.post enc Tryd.prog Tryd.f5 false true false false W args v W' :=
  law_contract (tb := 4) Galois.distTop rfl (fun x hx => by match x, hx with | [_, _], _ => rfl) (fun _ => Galois.EL2_ok) Tryd.func5 rfl _ (fun _ => Nat.le_of_ble_eq_true rfl) (by kernel_rfl) (by kernel_rfl) blockDistanceLaid
    (fun t ht => by
      have : ∀ t ∈ Tryd.f5.params.toList, (Tryd.prog.readableRec t && decide (t < Tryd.prog.types.size)) = true := List.all_eq_true.1 (by kernel_rfl)
      have := this t ht
      simpa using this)
    Galois.dist_walk base args ds gs before hval hW hlt
theorem blockDistanceLifted (os : Os) (started : os.Started) (H : Type) (enc : TypeId × Value → H) :
    ReturnsInHanded {} Tryd.checked os 5 .any (fun w args => (Rows.blockDistanceSpec.pre enc Tryd.prog Tryd.f5 Rows.blockDistanceRow.domain false w args ∧ laidMetH Tryd.prog Rows.blockDistanceRow.laid w) ∧ sizedMet enc Tryd.prog Tryd.f5 (OpenSpec.ofChange Rows.blockDistanceSpec) false w args)
      (Rows.blockDistanceSpec.post enc Tryd.prog Tryd.f5 false true false false) := by
  refine returnsInHanded_of_change_and (C := Tryd.checked) (X := fun w _ => laidMetH Tryd.prog Rows.blockDistanceRow.laid w) (fun _ _ _ hh h => h.of_heap hh) blockDistanceOwn started (by kernel_rfl) Tryd.func5
    (ChangeSpec.witness_shaped (enc := enc) (C := Tryd.checked) (os := os) (X := fun w _ => laidMetH Tryd.prog Rows.blockDistanceRow.laid w) false (World.laidAll Tryd.prog os Rows.blockDistanceRow.laid) #[.string ⟨#[]⟩, .string ⟨#[]⟩] 8 (World.laidAll_os _ _ _)
      (World.shaped_of_ZipB (by kernel_rfl) (by kernel_rfl)) (by kernel_rfl) (by kernel_rfl) (by kernel_rfl)
      (by rw [MakeChecks.laidMetH_plain _ _ _ (by kernel_rfl)]; exact laidMet_laidAll _ (by kernel_rfl) (by kernel_rfl))) ?_
  intro W base args ds gs before hval hW _ hlt _ _
  exact blockDistanceContract H enc W base args ds gs before hval hW hlt
theorem blockDistanceProved : Rows.BlockDistanceSaid :=
  OpenClaim.holds_of_wide 5 Tryd.f5 rfl rfl rfl rfl rfl rfl rfl ⟨rfl, rfl, rfl, rfl, rfl⟩ rfl rfl rfl rfl rfl (by kernel_rfl) Tryd.func5 (by kernel_rfl)
    (of_decide_eq_true (by kernel_rfl)) (by unfold Func.isWrapper; first | (rw [if_pos (by decide +kernel)]; kernel_rfl) | (rw [if_neg (by decide +kernel)]; exact ⟨rfl, rfl⟩))
    (fun os started H enc _ => blockDistanceLifted os started H enc)
theorem blockDistanceCardProved : Rows.BlockDistanceCardSaid :=
  Claim7.holds_tied_plain_at .later [] [.data, .pinned] true (true, "5761ea3482c9a274546ce36c8243fa0a3816b90cfc18ab197e4a9c54879278f3") true blockDistanceProved (fun _ h => by cases h) (by kernel_rfl) (fun _ h => by cases h) blockDistance_row_tie rfl ⟨rfl, rfl⟩ (by kernel_rfl) rfl
    (fun f fn hf hfn => by
      obtain rfl : f = 5 := Option.some.inj ((show Tryd.prog.funcNamed "perigee/perigeelaw05.BlockDistance" = some 5 by kernel_rfl).symm.trans hf) |>.symm
      obtain rfl : fn = Tryd.f5 := (Option.some.inj (Tryd.func5.symm.trans hfn)).symm
      exact ⟨by kernel_rfl, fun j t ht => by
        have hall : ∀ u ∈ Tryd.f5.params.toList, (!Tryd.prog.wantsStandIn u) = true := List.all_eq_true.1 (by kernel_rfl)
        have := hall t (by have := Array.mem_of_getElem? ht; simpa using this)
        exact (show Tryd.prog.wantsStandIn t = false by simpa using this)⟩)
    (by kernel_rfl)
end Go.Proofs.YtoefjmachoakpaaDoor
