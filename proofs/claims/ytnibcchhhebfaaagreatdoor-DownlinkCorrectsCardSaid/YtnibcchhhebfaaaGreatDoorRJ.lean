/-
  Proved: whatever the frames, the depth and the places, perigeelaw40.DownlinkCorrects returns true, and its input reads as it did (the given statement DownlinkCorrectsCardSaid: the row, and the tied card).
  Conditions: none beyond the statement's own (the listed variables start as the program's text lays them: the card ties them).
-/
import Derived.Test.YtnibcchhhebfaaaGreatDoorRI
import Derived.Test.YtnibcchhhebfaaaGreatDoorCards
import Derived.Test.YtnibcchhhebfaaaGreatDoorTie
import Derived.WalkKit
import Derived.ProofKit
import Derived.OpenShut
import Derived.LaidMore
import Derived.Lay
import Derived.SevenTiedAt
import Derived.JoinedCond
import Derived.SizedLaws
namespace Go.Proofs.YtnibcchhhebfaaaGreatDoor
open Eng
set_option linter.unusedVariables false
set_option maxRecDepth 100000
theorem downlinkCorrectsOwn : ownKnob Tryz.prog.godebug = none := by kernel_rfl
theorem downlinkCorrectsLaid : laidOutB Tryz.prog = true := by kernel_rfl
theorem downlinkCorrectsContract (H : Type) (enc : TypeId × Value → H) (W : World) (base : Nat) (args : Array Value) (ds gs : List (DataW H)) (before : List MemPlace)
    (hval : ∀ (j : Nat) t v, Tryz.f5.params[j]? = some t → args[j]? = some v → Value.okWide Tryz.prog W .any base t v)
    (hW : DataW.Whole enc Tryz.prog Tryz.f5.params.toList Rows.downlinkCorrectsSpec.vars false W args.toList ds gs before)
    (hlt : (DataW.weightsEach Tryz.prog (Tryz.f5.params.toList ++ Rows.downlinkCorrectsSpec.plain.varTypes Tryz.prog) (ds ++ gs)).all (· ≤ reachBytes) = true) :
    Calls Tryz.prog 5 args W fun e W' => ∃ v, e = .returned v ∧ Rows.downlinkCorrectsSpec.post enc Tryz.prog Tryz.f5 false true false false W args v W' :=
  law_contract (tb := 4) Vt.corTop rfl (fun x hx => by match x, hx with | [_, _, _], _ => rfl) (fun _ => Vt.ECO_ok) Tryz.func5 rfl _ (fun _ => Nat.le_of_ble_eq_true rfl) (by kernel_rfl) (by kernel_rfl) downlinkCorrectsLaid
    (fun t ht => by
      have : ∀ t ∈ Tryz.f5.params.toList, (Tryz.prog.readableRec t && decide (t < Tryz.prog.types.size)) = true := List.all_eq_true.1 (by kernel_rfl)
      have := this t ht
      simpa using this)
    Vt.cor_walk base args ds gs before hval hW hlt
theorem downlinkCorrectsLifted (os : Os) (started : os.Started) (H : Type) (enc : TypeId × Value → H) :
    ReturnsInHanded {} Tryz.checked os 5 .any (fun w args => (Rows.downlinkCorrectsSpec.pre enc Tryz.prog Tryz.f5 Rows.downlinkCorrectsRow.domain false w args ∧ laidMetH Tryz.prog Rows.downlinkCorrectsRow.laid w) ∧ sizedMet enc Tryz.prog Tryz.f5 (OpenSpec.ofChange Rows.downlinkCorrectsSpec) false w args)
      (Rows.downlinkCorrectsSpec.post enc Tryz.prog Tryz.f5 false true false false) := by
  refine returnsInHanded_of_change_and (C := Tryz.checked) (X := fun w _ => laidMetH Tryz.prog Rows.downlinkCorrectsRow.laid w) (fun _ _ _ hh h => h.of_heap hh) downlinkCorrectsOwn started (by kernel_rfl) Tryz.func5
    (ChangeSpec.witness_shaped (enc := enc) (C := Tryz.checked) (os := os) (X := fun w _ => laidMetH Tryz.prog Rows.downlinkCorrectsRow.laid w) false (World.laidAll Tryz.prog os Rows.downlinkCorrectsRow.laid) #[.slice none 0 0, .int .i64 0, .slice none 0 0] 8 (World.laidAll_os _ _ _)
      (World.shaped_of_ZipB (by kernel_rfl) (by kernel_rfl)) (by kernel_rfl) (by kernel_rfl) (by kernel_rfl)
      (by rw [MakeChecks.laidMetH_plain _ _ _ (by kernel_rfl)]; exact laidMet_laidAll _ (by kernel_rfl) (by kernel_rfl))) ?_
  intro W base args ds gs before hval hW _ hlt _ _
  exact downlinkCorrectsContract H enc W base args ds gs before hval hW hlt
theorem downlinkCorrectsProved : Rows.DownlinkCorrectsSaid :=
  OpenClaim.holds_of_wide 5 Tryz.f5 rfl rfl rfl rfl rfl rfl rfl ⟨rfl, rfl, rfl, rfl, rfl⟩ rfl rfl rfl rfl rfl (by kernel_rfl) Tryz.func5 (by kernel_rfl)
    (of_decide_eq_true (by kernel_rfl)) (by unfold Func.isWrapper; first | (rw [if_pos (by decide +kernel)]; kernel_rfl) | (rw [if_neg (by decide +kernel)]; exact ⟨rfl, rfl⟩))
    (fun os started H enc _ => downlinkCorrectsLifted os started H enc)
theorem downlinkCorrectsCardProved : Rows.DownlinkCorrectsCardSaid :=
  Claim7.holds_tied_plain_at .later [] [.data, .pinned] true (true, "f2af5815af08dafb332928c062c12827d0e69416679508d2dfb24cd10f79245b") true downlinkCorrectsProved (fun _ h => by cases h) (by kernel_rfl) (fun _ h => by cases h) downlinkCorrects_row_tie rfl ⟨rfl, rfl⟩ (by kernel_rfl) rfl
    (fun f fn hf hfn => by
      obtain rfl : f = 5 := Option.some.inj ((show Tryz.prog.funcNamed "perigee/perigeelaw40.DownlinkCorrects" = some 5 by kernel_rfl).symm.trans hf) |>.symm
      obtain rfl : fn = Tryz.f5 := (Option.some.inj (Tryz.func5.symm.trans hfn)).symm
      exact ⟨by kernel_rfl, fun j t ht => by
        have hall : ∀ u ∈ Tryz.f5.params.toList, (!Tryz.prog.wantsStandIn u) = true := List.all_eq_true.1 (by kernel_rfl)
        have := hall t (by have := Array.mem_of_getElem? ht; simpa using this)
        exact (show Tryz.prog.wantsStandIn t = false by simpa using this)⟩)
    (by kernel_rfl)
end Go.Proofs.YtnibcchhhebfaaaGreatDoor
