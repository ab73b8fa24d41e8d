/-
  Proved: whatever the data, the depth and the errors, perigeelaw05.BlockUnwraps returns true, and its input reads as it did (the given statement BlockUnwrapsCardSaid: the row, and the tied card).
  Conditions: none beyond the statement's own (the listed variables start as the program's text lays them: the card ties them).
-/
import Derived.Test.YtoefjmachoakpaaGreatDoorCN
import Derived.Test.YtoefjmachoakpaaGreatDoorCards
import Derived.Test.YtoefjmachoakpaaGreatDoorTie
import Derived.WalkKit
import Derived.ProofKit
import Derived.OpenShut
import Derived.LaidMore
import Derived.Lay
import Derived.SevenTiedAt
import Derived.JoinedCond
import Derived.SizedLaws
namespace Go.Proofs.YtoefjmachoakpaaGreatDoor
open Eng
set_option linter.unusedVariables false
set_option maxRecDepth 100000
theorem blockUnwrapsOwn : ownKnob Tryz.prog.godebug = none := by kernel_rfl
theorem blockUnwrapsLaid : laidOutB Tryz.prog = true := by kernel_rfl
theorem blockUnwrapsContract (H : Type) (enc : TypeId × Value → H) (W : World) (base : Nat) (args : Array Value) (ds gs : List (DataW H)) (before : List MemPlace)
    (hval : ∀ (j : Nat) t v, Tryz.f4.params[j]? = some t → args[j]? = some v → Value.okWide Tryz.prog W .any base t v)
    (hW : DataW.Whole enc Tryz.prog Tryz.f4.params.toList Rows.blockUnwrapsSpec.vars false W args.toList ds gs before)
    (hlt : (DataW.weightsEach Tryz.prog (Tryz.f4.params.toList ++ Rows.blockUnwrapsSpec.plain.varTypes Tryz.prog) (ds ++ gs)).all (· ≤ reachBytes) = true) :
    Calls Tryz.prog 4 args W fun e W' => ∃ v, e = .returned v ∧ Rows.blockUnwrapsSpec.post enc Tryz.prog Tryz.f4 false true false false W args v W' :=
  law_contract (tb := 4) Galois.unwrapsTop rfl (fun x hx => by match x, hx with | [_, _, _], _ => rfl) (fun _ => Galois.EL6_ok) Tryz.func4 rfl _ (fun _ => Nat.le_of_ble_eq_true rfl) (by kernel_rfl) (by kernel_rfl) blockUnwrapsLaid
    (fun t ht => by
      have : ∀ t ∈ Tryz.f4.params.toList, (Tryz.prog.readableRec t && decide (t < Tryz.prog.types.size)) = true := List.all_eq_true.1 (by kernel_rfl)
      have := this t ht
      simpa using this)
    Galois.unwraps_walk base args ds gs before hval hW hlt
theorem blockUnwrapsLifted (os : Os) (started : os.Started) (H : Type) (enc : TypeId × Value → H) :
    ReturnsInHanded {} Tryz.checked os 4 .any (fun w args => (Rows.blockUnwrapsSpec.pre enc Tryz.prog Tryz.f4 Rows.blockUnwrapsRow.domain false w args ∧ laidMetH Tryz.prog Rows.blockUnwrapsRow.laid w) ∧ sizedMet enc Tryz.prog Tryz.f4 (OpenSpec.ofChange Rows.blockUnwrapsSpec) false w args)
      (Rows.blockUnwrapsSpec.post enc Tryz.prog Tryz.f4 false true false false) := by
  refine returnsInHanded_of_change_and (C := Tryz.checked) (X := fun w _ => laidMetH Tryz.prog Rows.blockUnwrapsRow.laid w) (fun _ _ _ hh h => h.of_heap hh) blockUnwrapsOwn started (by kernel_rfl) Tryz.func4
    (ChangeSpec.witness_shaped (enc := enc) (C := Tryz.checked) (os := os) (X := fun w _ => laidMetH Tryz.prog Rows.blockUnwrapsRow.laid w) false (World.laidAll Tryz.prog os Rows.blockUnwrapsRow.laid) #[.string ⟨#[]⟩, .int .i64 0, .slice none 0 0] 8 (World.laidAll_os _ _ _)
      (World.shaped_of_ZipB (by kernel_rfl) (by kernel_rfl)) (by kernel_rfl) (by kernel_rfl) (by kernel_rfl)
      (by rw [MakeChecks.laidMetH_plain _ _ _ (by kernel_rfl)]; exact laidMet_laidAll _ (by kernel_rfl) (by kernel_rfl))) ?_
  intro W base args ds gs before hval hW _ hlt _ _
  exact blockUnwrapsContract H enc W base args ds gs before hval hW hlt
theorem blockUnwrapsProved : Rows.BlockUnwrapsSaid :=
  OpenClaim.holds_of_wide 4 Tryz.f4 rfl rfl rfl rfl rfl rfl rfl ⟨rfl, rfl, rfl, rfl, rfl⟩ rfl rfl rfl rfl rfl (by kernel_rfl) Tryz.func4 (by kernel_rfl)
    (of_decide_eq_true (by kernel_rfl)) (by unfold Func.isWrapper; first | (rw [if_pos (by decide +kernel)]; kernel_rfl) | (rw [if_neg (by decide +kernel)]; exact ⟨rfl, rfl⟩))
    (fun os started H enc _ => blockUnwrapsLifted os started H enc)
theorem blockUnwrapsCardProved : Rows.BlockUnwrapsCardSaid :=
  Claim7.holds_tied_plain_at .later [] [.data, .pinned] true (true, "1d32fce29afc1c7d25544fc6e23eb00042b482efd4f4ddbbe73ceb95fe93d3a9") true blockUnwrapsProved (fun _ h => by cases h) (by kernel_rfl) (fun _ h => by cases h) blockUnwraps_row_tie rfl ⟨rfl, rfl⟩ (by kernel_rfl) rfl
    (fun f fn hf hfn => by
      obtain rfl : f = 4 := Option.some.inj ((show Tryz.prog.funcNamed "perigee/perigeelaw05.BlockUnwraps" = some 4 by kernel_rfl).symm.trans hf) |>.symm
      obtain rfl : fn = Tryz.f4 := (Option.some.inj (Tryz.func4.symm.trans hfn)).symm
      exact ⟨by kernel_rfl, fun j t ht => by
        have hall : ∀ u ∈ Tryz.f4.params.toList, (!Tryz.prog.wantsStandIn u) = true := List.all_eq_true.1 (by kernel_rfl)
        have := hall t (by have := Array.mem_of_getElem? ht; simpa using this)
        exact (show Tryz.prog.wantsStandIn t = false by simpa using this)⟩)
    (by kernel_rfl)
end Go.Proofs.YtoefjmachoakpaaGreatDoor
