/-
  Proved: whatever the frame, the size and the depth, perigeelaw40.DownlinkSends returns true, and its input reads as it did (the given statement DownlinkSendsCardSaid: the row, and the tied card).
  Conditions: none beyond the statement's own (the listed variables start as the program's text lays them: the card ties them).
-/
import Derived.Test.YtnibcchhhebfaaaGreatDoorQW
import Derived.Test.YtnibcchhhebfaaaGreatDoorCards
import Derived.Test.YtnibcchhhebfaaaGreatDoorTie
import Derived.WalkKit
import Derived.ProofKit
import Derived.OpenShut
import Derived.LaidMore
import Derived.Lay
import Derived.SevenTiedAt
import Derived.JoinedCond
import Derived.SizedLaws
namespace Go.Proofs.YtnibcchhhebfaaaGreatDoor
open Eng
set_option linter.unusedVariables false
set_option maxRecDepth 100000
theorem downlinkSendsOwn : ownKnob Tryz.prog.godebug = none := by kernel_rfl
theorem downlinkSendsLaid : laidOutB Tryz.prog = true := by kernel_rfl
theorem downlinkSendsContract (H : Type) (enc : TypeId × Value → H) (W : World) (base : Nat) (args : Array Value) (ds gs : List (DataW H)) (before : List MemPlace)
    (hval : ∀ (j : Nat) t v, Tryz.f3.params[j]? = some t → args[j]? = some v → Value.okWide Tryz.prog W .any base t v)
    (hW : DataW.Whole enc Tryz.prog Tryz.f3.params.toList Rows.downlinkSendsSpec.vars false W args.toList ds gs before)
    (hlt : (DataW.weightsEach Tryz.prog (Tryz.f3.params.toList ++ Rows.downlinkSendsSpec.plain.varTypes Tryz.prog) (ds ++ gs)).all (· ≤ reachBytes) = true) :
    Calls Tryz.prog 3 args W fun e W' => ∃ v, e = .returned v ∧ Rows.downlinkSendsSpec.post enc Tryz.prog Tryz.f3 false true false false W args v W' :=
  law_contract (tb := 4) Vt.sndTop rfl (fun x hx => by match x, hx with | [_, _, _], _ => rfl) (fun _ => Vt.ELS_ok) Tryz.func3 rfl _ (fun _ => Nat.le_of_ble_eq_true rfl) (by kernel_rfl) (by kernel_rfl) downlinkSendsLaid
    (fun t ht => by
      have : ∀ t ∈ Tryz.f3.params.toList, (Tryz.prog.readableRec t && decide (t < Tryz.prog.types.size)) = true := List.all_eq_true.1 (by kernel_rfl)
      have := this t ht
      simpa using this)
    Vt.snd_walk base args ds gs before hval hW hlt
theorem downlinkSendsLifted (os : Os) (started : os.Started) (H : Type) (enc : TypeId × Value → H) :
    ReturnsInHanded {} Tryz.checked os 3 .any (fun w args => (Rows.downlinkSendsSpec.pre enc Tryz.prog Tryz.f3 Rows.downlinkSendsRow.domain false w args ∧ laidMetH Tryz.prog Rows.downlinkSendsRow.laid w) ∧ sizedMet enc Tryz.prog Tryz.f3 (OpenSpec.ofChange Rows.downlinkSendsSpec) false w args)
      (Rows.downlinkSendsSpec.post enc Tryz.prog Tryz.f3 false true false false) := by
  refine returnsInHanded_of_change_and (C := Tryz.checked) (X := fun w _ => laidMetH Tryz.prog Rows.downlinkSendsRow.laid w) (fun _ _ _ hh h => h.of_heap hh) downlinkSendsOwn started (by kernel_rfl) Tryz.func3
    (ChangeSpec.witness_shaped (enc := enc) (C := Tryz.checked) (os := os) (X := fun w _ => laidMetH Tryz.prog Rows.downlinkSendsRow.laid w) false (World.laidAll Tryz.prog os Rows.downlinkSendsRow.laid) #[.string ⟨#[]⟩, .int .i64 0, .int .i64 0] 8 (World.laidAll_os _ _ _)
      (World.shaped_of_ZipB (by kernel_rfl) (by kernel_rfl)) (by kernel_rfl) (by kernel_rfl) (by kernel_rfl)
      (by rw [MakeChecks.laidMetH_plain _ _ _ (by kernel_rfl)]; exact laidMet_laidAll _ (by kernel_rfl) (by kernel_rfl))) ?_
  intro W base args ds gs before hval hW _ hlt _ _
  exact downlinkSendsContract H enc W base args ds gs before hval hW hlt
theorem downlinkSendsProved : Rows.DownlinkSendsSaid :=
  OpenClaim.holds_of_wide 3 Tryz.f3 rfl rfl rfl rfl rfl rfl rfl ⟨rfl, rfl, rfl, rfl, rfl⟩ rfl rfl rfl rfl rfl (by kernel_rfl) Tryz.func3 (by kernel_rfl)
    (of_decide_eq_true (by kernel_rfl)) (by unfold Func.isWrapper; first | (rw [if_pos (by decide +kernel)]; kernel_rfl) | (rw [if_neg (by decide +kernel)]; exact ⟨rfl, rfl⟩))
    (fun os started H enc _ => downlinkSendsLifted os started H enc)
theorem downlinkSendsCardProved : Rows.DownlinkSendsCardSaid :=
  Claim7.holds_tied_plain_at .later [] [.data, .pinned] true (true, "f2af5815af08dafb332928c062c12827d0e69416679508d2dfb24cd10f79245b") true downlinkSendsProved (fun _ h => by cases h) (by kernel_rfl) (fun _ h => by cases h) downlinkSends_row_tie rfl ⟨rfl, rfl⟩ (by kernel_rfl) rfl
    (fun f fn hf hfn => by
      obtain rfl : f = 3 := Option.some.inj ((show Tryz.prog.funcNamed "perigee/perigeelaw40.DownlinkSends" = some 3 by kernel_rfl).symm.trans hf) |>.symm
      obtain rfl : fn = Tryz.f3 := (Option.some.inj (Tryz.func3.symm.trans hfn)).symm
      exact ⟨by kernel_rfl, fun j t ht => by
        have hall : ∀ u ∈ Tryz.f3.params.toList, (!Tryz.prog.wantsStandIn u) = true := List.all_eq_true.1 (by kernel_rfl)
        have := hall t (by have := Array.mem_of_getElem? ht; simpa using this)
        exact (show Tryz.prog.wantsStandIn t = false by simpa using this)⟩)
    (by kernel_rfl)
end Go.Proofs.YtnibcchhhebfaaaGreatDoor
