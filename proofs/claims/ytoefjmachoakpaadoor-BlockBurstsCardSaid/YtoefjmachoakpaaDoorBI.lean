/-
  OWN WORK. Block: the law BlockEncodes.
-/
import Derived.Test.YtoefjmachoakpaaDoorBH
import Derived.Test.YtoefjmachoakpaaDoorEngN
namespace Galois
open Go Go.Proofs Eng
set_option linter.unusedVariables false
set_option linter.unusedSimpArgs false
set_option maxHeartbeats 8000000
set_option maxRecDepth 100000

noncomputable def EL1 : Env := ((EBz.addP 7 awake).addP 9 enc).addP 11 wrap
theorem EL1_ok : EnvOk Tryd.prog EL1 := ((EBz_ok.addP awake_ok).addP encR_ok).addP wrapR_ok
def EncIn (x : List UInt8 × Int × Unit) : Prop := x.1.length ≤ 140737488351232 ∧ inKind .i64 x.2.1 ∧ True
theorem encodes_walk : ∀ (x : List UInt8 × Int × Unit) (hR : EncIn x) (hw : ∀ v ∈ aStrI.svs 0 x, v.wf), exCode EL1 Tryd.f3.ntmps [] (match Tryd.f3.body with | some c => c | none => .skip) (argFr 0 (aStrI.svs 0 x)) (aStrI.hp 0 x) aStrI.tags (atEnd EL1 Tryd.f3.results.toList fun r _ _ => eqv r (.bool true)) := by
  refine fun ⟨d, n, ()⟩ hR hw => ?_
  refine vc_of (q :=
      ∀ (v1 : Int), v1 = (↑(List.length d) : Int) → (decide (v1 > (1000 : Int)) = true → ∀ (t1 : Bool), t1 = true → t1 = true) ∧ (decide (v1 > (1000 : Int)) = false → ∀ (s1 : List UInt8), s1 = encL d → ∀ (v2 : Int), v2 = encE d → ∀ (s2 : List UInt8), s2 = encL d → ∀ (v3 : Int), v3 = encE d → ∀ (s3 : List UInt8), s3 = wrapL d n → ∀ (v4 : Int), v4 = wrapE d n → ∀ (s4 : List UInt8), s4 = wrapL d n → ∀ (v5 :
      Int), v5 = wrapE d n → ∀ (t2 : Bool), (t2 = if (s1 == s2) = true then v2 == v3 else false) → ∀ (t3 : Bool), (t3 = if t2 = true then s3 == s4 else false) → ∀ (t4 : Bool), (t4 = if t3 = true then v4 == v5 else false) → ∀ (t5 : Bool), t5 = true → ∀ (t6 : Bool), (t6 = if t4 = true then t5 else false) → t6 = true)) (by kernel_rfl) ?_
  try simp only [eq_self, true_and, and_true, Nat.le_refl, implies_true, forall_const, Bool.false_eq_true, Bool.true_eq_false, reduceCtorEq, false_imp_iff, true_imp_iff, Int.toNat_zero, Int.toNat_natCast, Nat.zero_lt_one, Int.le_refl, allGet]
  intro v1 hv1
  refine ⟨fun _ t h => h, fun h s1 hs1 v2 hv2 s2 hs2 v3 hv3 s3 hs3 v4 hv4 s4 hs4 v5 hv5 t2 ht2 t3 ht3 t4 ht4 t5 ht5 t6 ht6 => ?_⟩
  have e1 : (s1 == s2) = true := by rw [hs1, hs2]; exact beq_self_eq_true _
  have e2 : (v2 == v3) = true := by rw [hv2, hv3]; exact beq_self_eq_true _
  have e3 : (s3 == s4) = true := by rw [hs3, hs4]; exact beq_self_eq_true _
  have e4 : (v4 == v5) = true := by rw [hv4, hv5]; exact beq_self_eq_true _
  rw [e1, e2] at ht2
  have f2 : t2 = true := ht2
  rw [f2, e3] at ht3
  have f3 : t3 = true := ht3
  rw [f3, e4] at ht4
  have f4 : t4 = true := ht4
  rw [f4, ht5] at ht6
  exact ht6
/-! ### the arguments, opened -/
def plainTy (P : Program) (t : TypeId) : Bool := match P.underlying t with
  | some (.struct _) => false
  | some (.array _ _) => false
  | _ => true
theorem notStruct {P : Program} {t : TypeId} (h : plainTy P t = true) : ∀ fs, P.underlying t ≠ some (.struct fs) := by
  intro fs hh; unfold plainTy at h; rw [hh] at h; cases h
theorem notArray {P : Program} {t : TypeId} (h : plainTy P t = true) : ∀ n e, P.underlying t ≠ some (.array n e) := by
  intro n e hh; unfold plainTy at h; rw [hh] at h; cases h
section
variable {H : Type} {enc : TypeId × Value → H}
theorem encodesTop (W : World) (base : Nat) : OpTop enc Tryd.prog W base Tryd.f3.params.toList aStrI EncIn :=
  .cons (.elt (ct := [9]) (.str (by kernel_rfl) (by kernel_rfl)) (by kernel_rfl)) (.inr ⟨notStruct (by kernel_rfl), notArray (by kernel_rfl), rfl, fun _ _ => rfl⟩)
    (.cons (.elt (ct := [3]) (.int (by kernel_rfl) (by kernel_rfl)) (by kernel_rfl)) (.inr ⟨notStruct (by kernel_rfl), notArray (by kernel_rfl), rfl, fun _ _ => rfl⟩) .nil)
end
end Galois
