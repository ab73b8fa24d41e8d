/-
  Proved: whatever the byte and the two exponents, perigeelaw04.GaloisPowers returns true, and its input reads as it did (the given statement GaloisPowersCardSaid: the row, and the tied card).
  Conditions: none beyond the statement's own (the listed variables start as the program's text lays them: the card ties them).
-/
import Derived.Test.YtpmahmcjejobpaaDoorG8
import Derived.Test.YtpmahmcjejobpaaDoorCards
import Derived.Test.YtpmahmcjejobpaaDoorTie
import Derived.WalkKit
import Derived.ProofKit
import Derived.OpenShut
import Derived.LaidMore
import Derived.Lay
import Derived.SevenTiedAt
import Derived.JoinedCond
import Derived.SizedLaws
namespace Go.Proofs.YtpmahmcjejobpaaDoor
open Eng
set_option linter.unusedVariables false
set_option maxRecDepth 100000
theorem galoisPowersOwn : ownKnob Tryd.prog.godebug = none := by kernel_rfl
theorem galoisPowersLaid : laidOutB Tryd.prog = true := by kernel_rfl
theorem galoisPowersContract (H : Type) (enc : TypeId × Value → H) (W : World) (base : Nat) (args : Array Value) (ds gs : List (DataW H)) (before : List MemPlace)
    (hval : ∀ (j : Nat) t v, Tryd.f6.params[j]? = some t → args[j]? = some v → Value.okWide Tryd.prog W .any base t v)
    (hW : DataW.Whole enc Tryd.prog Tryd.f6.params.toList Rows.galoisPowersSpec.vars false W args.toList ds gs before)
    (hlt : (DataW.weightsEach Tryd.prog (Tryd.f6.params.toList ++ Rows.galoisPowersSpec.plain.varTypes Tryd.prog) (ds ++ gs)).all (· ≤ reachBytes) = true) :
    Calls Tryd.prog 6 args W fun e W' => ∃ v, e = .returned v ∧ Rows.galoisPowersSpec.post enc Tryd.prog Tryd.f6 false true false false W args v W' :=
  law_contract (tb := 4) Galois.powsTop rfl (fun x hx => by match x, hx with | [_, _, _], _ => rfl) (fun _ => Galois.EL_ok) Tryd.func6 rfl _ (fun _ => Nat.le_of_ble_eq_true rfl) (by kernel_rfl) (by kernel_rfl) galoisPowersLaid
    (fun t ht => by
      have : ∀ t ∈ Tryd.f6.params.toList, (Tryd.prog.readableRec t && decide (t < Tryd.prog.types.size)) = true := List.all_eq_true.1 (by kernel_rfl)
      have := this t ht
      simpa using this)
    Galois.pows_walk base args ds gs before hval hW hlt
theorem galoisPowersLifted (os : Os) (started : os.Started) (H : Type) (enc : TypeId × Value → H) :
    ReturnsInHanded {} Tryd.checked os 6 .any (fun w args => (Rows.galoisPowersSpec.pre enc Tryd.prog Tryd.f6 Rows.galoisPowersRow.domain false w args ∧ laidMetH Tryd.prog Rows.galoisPowersRow.laid w) ∧ sizedMet enc Tryd.prog Tryd.f6 (OpenSpec.ofChange Rows.galoisPowersSpec) false w args)
      (Rows.galoisPowersSpec.post enc Tryd.prog Tryd.f6 false true false false) := by
  refine returnsInHanded_of_change_and (C := Tryd.checked) (X := fun w _ => laidMetH Tryd.prog Rows.galoisPowersRow.laid w) (fun _ _ _ hh h => h.of_heap hh) galoisPowersOwn started (by kernel_rfl) Tryd.func6
    (ChangeSpec.witness_shaped (enc := enc) (C := Tryd.checked) (os := os) (X := fun w _ => laidMetH Tryd.prog Rows.galoisPowersRow.laid w) false (World.laidAll Tryd.prog os Rows.galoisPowersRow.laid) #[.int .u8 0, .int .i64 0, .int .i64 0] 8 (World.laidAll_os _ _ _)
      (World.shaped_of_ZipB (by kernel_rfl) (by kernel_rfl)) (by kernel_rfl) (by kernel_rfl) (by kernel_rfl)
      (by rw [MakeChecks.laidMetH_plain _ _ _ (by kernel_rfl)]; exact laidMet_laidAll _ (by kernel_rfl) (by kernel_rfl))) ?_
  intro W base args ds gs before hval hW _ hlt _ _
  exact galoisPowersContract H enc W base args ds gs before hval hW hlt
theorem galoisPowersProved : Rows.GaloisPowersSaid :=
  OpenClaim.holds_of_wide 6 Tryd.f6 rfl rfl rfl rfl rfl rfl rfl ⟨rfl, rfl, rfl, rfl, rfl⟩ rfl rfl rfl rfl rfl (by kernel_rfl) Tryd.func6 (by kernel_rfl)
    (of_decide_eq_true (by kernel_rfl)) (by unfold Func.isWrapper; first | (rw [if_pos (by decide +kernel)]; kernel_rfl) | (rw [if_neg (by decide +kernel)]; exact ⟨rfl, rfl⟩))
    (fun os started H enc _ => galoisPowersLifted os started H enc)
theorem galoisPowersCardProved : Rows.GaloisPowersCardSaid :=
  Claim7.holds_tied_plain_at .later [] [.data, .pinned] true (true, "9c71c64ce76dcc11869bc031a18081063e663724468c8d6c5e75661b77eea64c") false galoisPowersProved (fun _ h => by cases h) (by kernel_rfl) (fun _ h => by cases h) galoisPowers_row_tie rfl ⟨rfl, rfl⟩ (by kernel_rfl) rfl
    (fun f fn hf hfn => by
      obtain rfl : f = 6 := Option.some.inj ((show Tryd.prog.funcNamed "perigee/perigeelaw04.GaloisPowers" = some 6 by kernel_rfl).symm.trans hf) |>.symm
      obtain rfl : fn = Tryd.f6 := (Option.some.inj (Tryd.func6.symm.trans hfn)).symm
      exact ⟨by kernel_rfl, fun j t ht => by
        have hall : ∀ u ∈ Tryd.f6.params.toList, (!Tryd.prog.wantsStandIn u) = true := List.all_eq_true.1 (by kernel_rfl)
        have := hall t (by have := Array.mem_of_getElem? ht; simpa using this)
        exact (show Tryd.prog.wantsStandIn t = false by simpa using this)⟩)
    (by kernel_rfl)
end Go.Proofs.YtpmahmcjejobpaaDoor
