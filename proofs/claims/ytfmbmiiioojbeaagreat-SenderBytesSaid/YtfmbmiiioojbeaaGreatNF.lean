/-
  OWN WORK. Sender: the law SenderBytes: its arguments.
-/
import Derived.Test.YtfmbmiiioojbeaaGreatNC
namespace Rc
open Go Go.Proofs Eng
set_option linter.unusedVariables false
def plainTy (P : Program) (t : TypeId) : Bool := match P.underlying t with
  | some (.struct _) => false
  | some (.array _ _) => false
  | _ => true
theorem notStruct {P : Program} {t : TypeId} (h : plainTy P t = true) : ∀ fs, P.underlying t ≠ some (.struct fs) := by
  intro fs hh; unfold plainTy at h; rw [hh] at h; cases h
theorem notArray {P : Program} {t : TypeId} (h : plainTy P t = true) : ∀ n e, P.underlying t ≠ some (.array n e) := by
  intro n e hh; unfold plainTy at h; rw [hh] at h; cases h
section
variable {H : Type} {enc : TypeId × Value → H} {W : World} {base : Nat}
theorem opGapB : OpE enc Tryz.prog W 45 eGap (fun g => inKind .i64 g.1 ∧ inKind .i64 g.2.1 ∧ True) :=
  .agg (tot := 2) (by kernel_rfl) (by kernel_rfl) rfl (.cons (off := 0) (.int (t := 3) (by kernel_rfl) (by kernel_rfl)) rfl (.cons (off := 1) (.int (t := 3) (by kernel_rfl) (by kernel_rfl)) rfl .nil))
end
theorem bytesTop {H : Type} {enc : TypeId × Value → H} (W : World) (base : Nat) : OpTop enc Tryz.prog W base Tryz.f3.params.toList aBy ByR :=
  .cons (.elt (ct := [9]) (.str (by kernel_rfl) (by kernel_rfl)) (by kernel_rfl)) (.inr ⟨notStruct (by kernel_rfl), notArray (by kernel_rfl), rfl, fun _ _ => rfl⟩)
    (.cons (.elt (ct := [9]) (.str (by kernel_rfl) (by kernel_rfl)) (by kernel_rfl)) (.inr ⟨notStruct (by kernel_rfl), notArray (by kernel_rfl), rfl, fun _ _ => rfl⟩)
    (.cons (.rowF (e := 33) (by kernel_rfl) (.wrow (e := 45) (by kernel_rfl) opGapB (by kernel_rfl) (by kernel_rfl) (by decide)) (by kernel_rfl) (by kernel_rfl)) (.inr ⟨notStruct (by kernel_rfl), notArray (by kernel_rfl), rfl, fun _ _ => rfl⟩) .nil))
end Rc
