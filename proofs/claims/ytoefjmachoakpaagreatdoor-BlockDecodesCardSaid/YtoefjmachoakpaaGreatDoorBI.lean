/-
  OWN WORK. Block: the law BlockEncodes.
-/
import Derived.Test.YtoefjmachoakpaaGreatDoorBH
import Derived.Test.YtoefjmachoakpaaGreatDoorEngN
namespace Galois
open Go Go.Proofs Eng
set_option linter.unusedVariables false
set_option linter.unusedSimpArgs false
set_option maxHeartbeats 8000000
set_option maxRecDepth 100000

noncomputable def EL1 : Env := ((EBz.addP 5 awake).addP 31 enc).addP 10 wrap
theorem EL1_ok : EnvOk Tryz.prog EL1 := ((EBz_ok.addP awake_ok).addP encR_ok).addP wrapR_ok
/-! ### the arguments, opened -/
def plainTy (P : Program) (t : TypeId) : Bool := match P.underlying t with
  | some (.struct _) => false
  | some (.array _ _) => false
  | _ => true
theorem notStruct {P : Program} {t : TypeId} (h : plainTy P t = true) : ∀ fs, P.underlying t ≠ some (.struct fs) := by
  intro fs hh; unfold plainTy at h; rw [hh] at h; cases h
theorem notArray {P : Program} {t : TypeId} (h : plainTy P t = true) : ∀ n e, P.underlying t ≠ some (.array n e) := by
  intro n e hh; unfold plainTy at h; rw [hh] at h; cases h
section
variable {H : Type} {enc : TypeId × Value → H}
end
end Galois
