/-
  OWN WORK. Heat: the small functions.
-/
import Derived.Test.YtmcpacfpnljijaaEngM
import Derived.Test.YtmcpacfpnljijaaTy
namespace Heat
open Go Go.Proofs Eng
set_option linter.unusedVariables false
set_option linter.unusedSimpArgs false

def w64 (x : Int) : Int := IntKind.i64.wrap x
abbrev Node := Int × Int × Unit
abbrev Path := Int × Int × Int × Unit
abbrev Heater := Int × Int × Int × Int × Bool × Unit
abbrev eNode : Elt Node := .agg (.cons (.int .i64) (.cons (.int .i64) .nil))
abbrev ePath : Elt Path := .agg (.cons (.int .i64) (.cons (.int .i64) (.cons (.int .i64) .nil)))
abbrev eHeater : Elt Heater := .agg (.cons (.int .i64) (.cons (.int .i64) (.cons (.int .i64) (.cons (.int .i64) (.cons .bool .nil)))))
abbrev aNode : ArgL (Node × Unit) := .cons (.elt eNode) .nil
abbrev aInt : ArgL (Int × Unit) := .cons (.elt (.int .i64)) .nil
abbrev Thermal := RowD Node × RowD Path × RowD Heater × RowD Int × Unit
abbrev tThermal : Arg Thermal := .agg (.cons (.row eNode) (.cons (.row ePath) (.cons (.row eHeater) (.cons (.row (.int .i64)) .nil))))

def E0 : Env := .base tenv
theorem E0_ok : EnvOk Try.prog E0 := .base (by kernel_rfl) tenv_ok

def withinF (n : Int) : Bool := decide (0 ≤ n ∧ n ≤ 1048576)
def within := pcOf aInt (fun _ => []) (fun x => .bool (withinF x.1))
theorem within_ok : PcOk Try.prog 22 within := by
  refine pcOf_run (fun _ => E0_ok) Try.func22 rfl (by kernel_rfl) (fun _ => trivial) (fun _ => []) (fun _ => Nat.le_of_ble_eq_true rfl) (fun ⟨n, ()⟩ _ _ => ?_)
  refine vc_of (q :=
      ∀ (t1 : Bool), (t1 = if Decidable.decide (n ≥ (0 : Int)) = Bool.true then Decidable.decide (n ≤ (1048576 : Int)) else Bool.false) → t1 = Heat.withinF n) (by kernel_rfl) ?_
  simp [withinF]
theorem withinR_ok : PcOk Try.prog 30 within := by
  refine pcOf_run (fun _ => E0_ok) Try.func30 rfl (by kernel_rfl) (fun _ => trivial) (fun _ => []) (fun _ => Nat.le_of_ble_eq_true rfl) (fun ⟨n, ()⟩ _ _ => ?_)
  refine vc_of (q :=
      ∀ (t1 : Bool), (t1 = if Decidable.decide (n ≥ (0 : Int)) = Bool.true then Decidable.decide (n ≤ (1048576 : Int)) else Bool.false) → t1 = Heat.withinF n) (by kernel_rfl) ?_
  simp [withinF]
def mostF (c : Int) : Int := w64 ((w64 (c * 1048576)).tdiv 1000)
def most := pcOf aNode (fun _ => []) (fun x => .int .i64 (mostF x.1.2.1))
theorem most_ok : PcOk Try.prog 41 most := by
  refine pcOf_run (fun _ => E0_ok) Try.func41 rfl (by kernel_rfl) (fun _ => trivial) (fun _ => []) (fun _ => Nat.le_of_ble_eq_true rfl) (fun ⟨⟨h, c, ()⟩, ()⟩ _ _ => ?_)
  refine vc_of (q :=
      ∀ (b1 : Nat), (b1 = b1 ∧ (0 : Nat) = (0 : Nat)) ∧ ∀ (v1 : Int), v1 = Go.IntKind.wrap Go.IntKind.i64 (c * (1048576 : Int)) → (1000 : Int) ≠ (0 : Int) ∧ ∀ (v2 : Int), v2 = Go.IntKind.wrap Go.IntKind.i64 (Int.tdiv v1 (1000 : Int)) → v2 = Heat.mostF c) (by kernel_rfl) ?_
  simp [mostF, w64]
theorem mostR_ok : PcOk Try.prog 48 most := by
  refine pcOf_run (fun _ => E0_ok) Try.func48 rfl (by kernel_rfl) (fun _ => trivial) (fun _ => []) (fun _ => Nat.le_of_ble_eq_true rfl) (fun ⟨⟨h, c, ()⟩, ()⟩ _ _ => ?_)
  refine vc_of (q :=
      ∀ (b1 : Nat), (b1 = b1 ∧ (0 : Nat) = (0 : Nat)) ∧ ∀ (v1 : Int), v1 = Go.IntKind.wrap Go.IntKind.i64 (c * (1048576 : Int)) → (1000 : Int) ≠ (0 : Int) ∧ ∀ (v2 : Int), v2 = Go.IntKind.wrap Go.IntKind.i64 (Int.tdiv v1 (1000 : Int)) → v2 = Heat.mostF c) (by kernel_rfl) ?_
  simp [mostF, w64]
def warmF (h c : Int) : Int := w64 ((w64 (1000 * h)).tdiv c)
def warm := pcOf aNode (fun x => [x.1.2.1 ≠ 0]) (fun x => .int .i64 (warmF x.1.1 x.1.2.1))
theorem warm_ok : PcOk Try.prog 31 warm := by
  refine pcOf_run (fun _ => E0_ok) Try.func31 rfl (by kernel_rfl) (fun _ => trivial) (fun _ => []) (fun _ => Nat.le_of_ble_eq_true rfl) (fun ⟨⟨h, c, ()⟩, ()⟩ hp _ => ?_)
  refine vc_of (q :=
      ∀ (b1 : Nat), (b1 = b1 ∧ (0 : Nat) = (0 : Nat)) ∧ ∀ (v1 : Int), v1 = Go.IntKind.wrap Go.IntKind.i64 ((1000 : Int) * h) → (b1 = b1 ∧ (0 : Nat) = (0 : Nat)) ∧ c ≠ (0 : Int) ∧ ∀ (v2 : Int), v2 = Go.IntKind.wrap Go.IntKind.i64 (Int.tdiv v1 c) → v2 = Heat.warmF h c) (by kernel_rfl) ?_
  have hc : c ≠ 0 := hp.1
  simp [warmF, w64, hc]
theorem warmR_ok : PcOk Try.prog 32 warm := by
  refine pcOf_run (fun _ => E0_ok) Try.func32 rfl (by kernel_rfl) (fun _ => trivial) (fun _ => []) (fun _ => Nat.le_of_ble_eq_true rfl) (fun ⟨⟨h, c, ()⟩, ()⟩ hp _ => ?_)
  refine vc_of (q :=
      ∀ (b1 : Nat), (b1 = b1 ∧ (0 : Nat) = (0 : Nat)) ∧ ∀ (v1 : Int), v1 = Go.IntKind.wrap Go.IntKind.i64 ((1000 : Int) * h) → (b1 = b1 ∧ (0 : Nat) = (0 : Nat)) ∧ c ≠ (0 : Int) ∧ ∀ (v2 : Int), v2 = Go.IntKind.wrap Go.IntKind.i64 (Int.tdiv v1 c) → v2 = Heat.warmF h c) (by kernel_rfl) ?_
  have hc : c ≠ 0 := hp.1
  simp [warmF, w64, hc]

def E1 : Env := ((((((E0.addP 22 within).addP 30 within).addP 41 most).addP 48 most).addP 31 warm).addP 32 warm)
theorem E1_ok : EnvOk Try.prog E1 := (((((E0_ok.addP within_ok).addP withinR_ok).addP most_ok).addP mostR_ok).addP warm_ok).addP warmR_ok

/-- A node is valid. -/
def nodeB (h c : Int) : Bool := decide (0 < c ∧ c ≤ 1048576 ∧ 0 ≤ h ∧ h ≤ mostF c)
def valid := pcOf aNode (fun _ => []) (fun x => .bool (nodeB x.1.1 x.1.2.1))
theorem valid_ok : PcOk Try.prog 25 valid := by
  refine pcOf_run (fun _ => E1_ok) Try.func25 rfl (by kernel_rfl) (fun _ => trivial) (fun _ => []) (fun _ => Nat.le_of_ble_eq_true rfl) (fun ⟨⟨h, c, ()⟩, ()⟩ hp _ => ?_)
  refine vc_of (q :=
      ∀ (b1 : Nat), (b1 = b1 ∧ (0 : Nat) = (0 : Nat)) ∧ (Decidable.decide (c > (0 : Int)) = Bool.true → b1 = b1 ∧ (0 : Nat) = (0 : Nat)) ∧ ∀ (t1 : Bool), t1 = Heat.withinF c → ∀ (t2 : Bool), (t2 = if Decidable.decide (c > (0 : Int)) = Bool.true then t1 else Bool.false) → (t2 = Bool.true → b1 = b1 ∧ (0 : Nat) = (0 : Nat)) ∧ ∀ (t3 : Bool), (t3 = if t2 = Bool.true then Decidable.decide (h ≥ (0 : Int)) else
      Bool.false) → (t3 = Bool.true → b1 = b1 ∧ (0 : Nat) = (0 : Nat)) ∧ (t3 = Bool.true → b1 = b1 ∧ (0 : Nat) = (0 : Nat)) ∧ ∀ (v1 : Int), v1 = Heat.mostF c → ∀ (t4 : Bool), (t4 = if t3 = Bool.true then Decidable.decide (h ≤ v1) else Bool.false) → t4 = Heat.nodeB h c) (by kernel_rfl) ?_
  simp [nodeB, withinF]
  grind
theorem node_ok : PcOk Try.prog 29 valid := by
  refine pcOf_run (fun _ => E1_ok) Try.func29 rfl (by kernel_rfl) (fun _ => trivial) (fun _ => []) (fun _ => Nat.le_of_ble_eq_true rfl) (fun ⟨⟨h, c, ()⟩, ()⟩ hp _ => ?_)
  refine vc_of (q :=
      ∀ (b1 : Nat), (b1 = b1 ∧ (0 : Nat) = (0 : Nat)) ∧ (Decidable.decide (c ≥ (1 : Int)) = Bool.true → b1 = b1 ∧ (0 : Nat) = (0 : Nat)) ∧ ∀ (t1 : Bool), (t1 = if Decidable.decide (c ≥ (1 : Int)) = Bool.true then Decidable.decide (c ≤ (1048576 : Int)) else Bool.false) → (t1 = Bool.true → b1 = b1 ∧ (0 : Nat) = (0 : Nat)) ∧ ∀ (t2 : Bool), (t2 = if t1 = Bool.true then Decidable.decide (h ≥ (0 : Int)) else
      Bool.false) → (t2 = Bool.true → b1 = b1 ∧ (0 : Nat) = (0 : Nat)) ∧ (t2 = Bool.true → b1 = b1 ∧ (0 : Nat) = (0 : Nat)) ∧ ∀ (v1 : Int), v1 = Heat.mostF c → ∀ (t3 : Bool), (t3 = if t2 = Bool.true then Decidable.decide (h ≤ v1) else Bool.false) → t3 = Heat.nodeB h c) (by kernel_rfl) ?_
  simp [nodeB]
  grind
end Heat
