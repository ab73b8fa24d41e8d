/-
  Proved: whatever the string, the depth and the burst, perigeelaw05.BlockBursts returns true, and its input reads as it did (the given statement BlockBurstsCardSaid: the row, and the tied card).
  Conditions: none beyond the statement's own (the listed variables start as the program's text lays them: the card ties them).
-/
import Derived.Test.YtoefjmachoakpaaDoorCA
import Derived.Test.YtoefjmachoakpaaDoorCards
import Derived.Test.YtoefjmachoakpaaDoorTie
import Derived.WalkKit
import Derived.ProofKit
import Derived.OpenShut
import Derived.LaidMore
import Derived.Lay
import Derived.SevenTiedAt
import Derived.JoinedCond
import Derived.SizedLaws
namespace Go.Proofs.YtoefjmachoakpaaDoor
open Eng
set_option linter.unusedVariables false
set_option maxRecDepth 100000
theorem blockBurstsOwn : ownKnob Tryd.prog.godebug = none := by kernel_rfl
theorem blockBurstsLaid : laidOutB Tryd.prog = true := by kernel_rfl
theorem blockBurstsContract (H : Type) (enc : TypeId × Value → H) (W : World) (base : Nat) (args : Array Value) (ds gs : List (DataW H)) (before : List MemPlace)
    (hval : ∀ (j : Nat) t v, Tryd.f6.params[j]? = some t → args[j]? = some v → Value.okWide Tryd.prog W .any base t v)
    (hW : DataW.Whole enc Tryd.prog Tryd.f6.params.toList Rows.blockBurstsSpec.vars false W args.toList ds gs before)
    (hlt : (DataW.weightsEach Tryd.prog (Tryd.f6.params.toList ++ Rows.blockBurstsSpec.plain.varTypes Tryd.prog) (ds ++ gs)).all (· ≤ reachBytes) = true) :
    Calls Tryd.prog 6 args W fun e W' => ∃ v, e = .returned v ∧ Rows.blockBurstsSpec.post enc Tryd.prog Tryd.f6 false true false false W args v W' :=
  law_contract (tb := 4) Galois.burTop rfl (fun x hx => by match x, hx with | [_, _, _], _ => rfl) (fun _ => Galois.EL4_ok) Tryd.func6 rfl _ (fun _ => Nat.le_of_ble_eq_true rfl) (by kernel_rfl) (by kernel_rfl) blockBurstsLaid
    (fun t ht => by
      have : ∀ t ∈ Tryd.f6.params.toList, (Tryd.prog.readableRec t && decide (t < Tryd.prog.types.size)) = true := List.all_eq_true.1 (by kernel_rfl)
      have := this t ht
      simpa using this)
    Galois.bur_walk base args ds gs before hval hW hlt
theorem blockBurstsLifted (os : Os) (started : os.Started) (H : Type) (enc : TypeId × Value → H) :
    ReturnsInHanded {} Tryd.checked os 6 .any (fun w args => (Rows.blockBurstsSpec.pre enc Tryd.prog Tryd.f6 Rows.blockBurstsRow.domain false w args ∧ laidMetH Tryd.prog Rows.blockBurstsRow.laid w) ∧ sizedMet enc Tryd.prog Tryd.f6 (OpenSpec.ofChange Rows.blockBurstsSpec) false w args)
      (Rows.blockBurstsSpec.post enc Tryd.prog Tryd.f6 false true false false) := by
  refine returnsInHanded_of_change_and (C := Tryd.checked) (X := fun w _ => laidMetH Tryd.prog Rows.blockBurstsRow.laid w) (fun _ _ _ hh h => h.of_heap hh) blockBurstsOwn started (by kernel_rfl) Tryd.func6
    (ChangeSpec.witness_shaped (enc := enc) (C := Tryd.checked) (os := os) (X := fun w _ => laidMetH Tryd.prog Rows.blockBurstsRow.laid w) false (World.laidAll Tryd.prog os Rows.blockBurstsRow.laid) #[.string ⟨#[]⟩, .int .i64 0, .agg #[.int .i64 0, .string ⟨#[]⟩]] 8 (World.laidAll_os _ _ _)
      (World.shaped_of_ZipB (by kernel_rfl) (by kernel_rfl)) (by kernel_rfl) (by kernel_rfl) (by kernel_rfl)
      (by rw [MakeChecks.laidMetH_plain _ _ _ (by kernel_rfl)]; exact laidMet_laidAll _ (by kernel_rfl) (by kernel_rfl))) ?_
  intro W base args ds gs before hval hW _ hlt _ _
  exact blockBurstsContract H enc W base args ds gs before hval hW hlt
theorem blockBurstsProved : Rows.BlockBurstsSaid :=
  OpenClaim.holds_of_wide 6 Tryd.f6 rfl rfl rfl rfl rfl rfl rfl ⟨rfl, rfl, rfl, rfl, rfl⟩ rfl rfl rfl rfl rfl (by kernel_rfl) Tryd.func6 (by kernel_rfl)
    (of_decide_eq_true (by kernel_rfl)) (by unfold Func.isWrapper; first | (rw [if_pos (by decide +kernel)]; kernel_rfl) | (rw [if_neg (by decide +kernel)]; exact ⟨rfl, rfl⟩))
    (fun os started H enc _ => blockBurstsLifted os started H enc)
theorem blockBurstsCardProved : Rows.BlockBurstsCardSaid :=
  Claim7.holds_tied_plain_at .later [] [.data, .pinned] true (true, "5761ea3482c9a274546ce36c8243fa0a3816b90cfc18ab197e4a9c54879278f3") true blockBurstsProved (fun _ h => by cases h) (by kernel_rfl) (fun _ h => by cases h) blockBursts_row_tie rfl ⟨rfl, rfl⟩ (by kernel_rfl) rfl
    (fun f fn hf hfn => by
      obtain rfl : f = 6 := Option.some.inj ((show Tryd.prog.funcNamed "perigee/perigeelaw05.BlockBursts" = some 6 by kernel_rfl).symm.trans hf) |>.symm
      obtain rfl : fn = Tryd.f6 := (Option.some.inj (Tryd.func6.symm.trans hfn)).symm
      exact ⟨by kernel_rfl, fun j t ht => by
        have hall : ∀ u ∈ Tryd.f6.params.toList, (!Tryd.prog.wantsStandIn u) = true := List.all_eq_true.1 (by kernel_rfl)
        have := hall t (by have := Array.mem_of_getElem? ht; simpa using this)
        exact (show Tryd.prog.wantsStandIn t = false by simpa using this)⟩)
    (by kernel_rfl)
end Go.Proofs.YtoefjmachoakpaaDoor
