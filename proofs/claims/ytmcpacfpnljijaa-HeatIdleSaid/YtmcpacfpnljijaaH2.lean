/-
  OWN WORK (written by gen_h2.py). Heat: closures, all, ContainsFunc, IndexFunc.
-/
import Derived.Test.YtmcpacfpnljijaaH1
namespace Heat
open Go Go.Proofs Eng
set_option linter.unusedVariables false
set_option linter.unusedSimpArgs false

/-- The first index below n at which q holds, else -1. -/
def firstIx (q : Nat → Bool) (n : Nat) : Int := match (List.range n).find? q with
  | some k => k
  | none => -1
theorem firstIx_some {q : Nat → Bool} {n k : Nat} (h : k < n) (hq : q k = true) (hl : ∀ j, j < k → q j = false) : firstIx q n = k := by
  have : (List.range n).find? q = some k := by
    rw [List.find?_range_eq_some]
    exact ⟨hq, by simpa using h, fun j hj => by simpa using hl j hj⟩
  rw [firstIx, this]
theorem firstIx_none {q : Nat → Bool} {n : Nat} (hl : ∀ j, j < n → q j = false) : firstIx q n = -1 := by
  have : (List.range n).find? q = none := by
    rw [List.find?_eq_none]
    intro x hx
    simp [hl x (List.mem_range.1 hx)]
  rw [firstIx, this]

def hasF (nn : Nat) (i : Int) : Bool := decide (0 ≤ i ∧ i < nn)
def pathF (nn : Nat) (v : Path) : Bool := hasF nn v.1 && hasF nn v.2.1 && (v.1 != v.2.1) && withinF v.2.2.1
def heaterF (nn : Nat) (v : Heater) : Bool := hasF nn v.1 && withinF v.2.1 && withinF v.2.2.1 && withinF v.2.2.2.1 && decide (v.2.2.1 ≤ v.2.2.2.1)
abbrev cThermal : ArgL ((Nat × Nat × Thermal) × Unit) := .cons (.ptr 4 tThermal) .nil
abbrev cHas : ArgL ((Nat × Nat × (Nat × Nat × Thermal) × Unit) × Unit) := .cons (.ptr 1 (.fnc 20 cThermal)) .nil

def E2 : Env := (E1.addP 25 valid).addP 29 valid
theorem E2_ok : EnvOk Try.prog E2 := (E1_ok.addP valid_ok).addP node_ok
def has := pcOf (.cons (.elt (.int .i64)) cThermal) (fun _ => []) (fun x => .bool (hasF x.2.1.2.2.1.n x.1))
theorem has_ok : PcOk Try.prog 20 has := by
  refine pcOf_run (fun _ => E2_ok) Try.func20 rfl (by kernel_rfl) (fun _ => trivial) (fun _ => []) (fun _ => Nat.le_of_ble_eq_true rfl) (fun ⟨i, ⟨b, o, t1, t2, t3, t4, ()⟩, ()⟩ hp _ => ?_)
  refine vc_of (q :=
      (Decidable.decide (i ≥ (0 : Int)) = Bool.true → b = b ∧ o = o) ∧ ∀ (v1 : Int), v1 = (↑(Eng.RowD.n t1) : Int) → ∀ (t5 : Bool), (t5 = if Decidable.decide (i ≥ (0 : Int)) = Bool.true then Decidable.decide (i < v1) else Bool.false) → t5 = Heat.hasF (Eng.RowD.n t1) i) (by kernel_rfl) ?_
  simp [hasF]
def E3 : Env := E2.addP 20 has
theorem E3_ok : EnvOk Try.prog E3 := E2_ok.addP has_ok
def path := pcOf (.cons (.elt ePath) cHas) (fun _ => []) (fun x => .bool (pathF x.2.1.2.2.1.2.2.1.n x.1))
theorem path_ok : PcOk Try.prog 21 path := by
  refine pcOf_run (fun _ => E3_ok) Try.func21 rfl (by kernel_rfl) (fun _ => trivial) (fun _ => []) (fun _ => Nat.le_of_ble_eq_true rfl) (fun ⟨⟨A, B, cd, ()⟩, ⟨b, o, ⟨b', o', t1, t2, t3, t4, ()⟩, ()⟩, ()⟩ hp _ => ?_)
  refine vc_of (q :=
      ∀ (b1 : Nat), (b = b ∧ o = o) ∧ (b1 = b1 ∧ (0 : Nat) = (0 : Nat)) ∧ (b' = b' ∧ o' = o') ∧ Eng.RowD.n t1 ≤ Eng.RowD.n t1 ∧ (∀ (k1 : Nat), k1 < Eng.RowD.n t1 → Bool.true = Bool.true) ∧ (Eng.RowD.b t1 = Eng.RowD.b t1 ∧ Eng.RowD.off t1 = Eng.RowD.off t1) ∧ Eng.RowD.n t2 ≤ Eng.RowD.n t2 ∧ (∀ (k2 : Nat), k2 < Eng.RowD.n t2 → Bool.true = Bool.true) ∧ (Eng.RowD.b t2 = Eng.RowD.b t2 ∧ Eng.RowD.off t2 =
      Eng.RowD.off t2) ∧ Eng.RowD.n t3 ≤ Eng.RowD.n t3 ∧ (∀ (k3 : Nat), k3 < Eng.RowD.n t3 → Bool.true = Bool.true) ∧ (Eng.RowD.b t3 = Eng.RowD.b t3 ∧ Eng.RowD.off t3 = Eng.RowD.off t3) ∧ Eng.RowD.n t4 ≤ Eng.RowD.n t4 ∧ (∀ (k4 : Nat), k4 < Eng.RowD.n t4 → Bool.true = Bool.true) ∧ (Eng.RowD.b t4 = Eng.RowD.b t4 ∧ Eng.RowD.off t4 = Eng.RowD.off t4) ∧ ∀ (t5 : Bool), t5 = Heat.hasF (Eng.RowD.n t1) A → (t5 =
      Bool.true → b = b ∧ o = o) ∧ (t5 = Bool.true → b1 = b1 ∧ (0 : Nat) = (0 : Nat)) ∧ (t5 = Bool.true → b' = b' ∧ o' = o') ∧ (t5 = Bool.true → Eng.RowD.n t1 ≤ Eng.RowD.n t1) ∧ (t5 = Bool.true → ∀ (k5 : Nat), k5 < Eng.RowD.n t1 → Bool.true = Bool.true) ∧ (t5 = Bool.true → Eng.RowD.b t1 = Eng.RowD.b t1 ∧ Eng.RowD.off t1 = Eng.RowD.off t1) ∧ (t5 = Bool.true → Eng.RowD.n t2 ≤ Eng.RowD.n t2) ∧ (t5 =
      Bool.true → ∀ (k6 : Nat), k6 < Eng.RowD.n t2 → Bool.true = Bool.true) ∧ (t5 = Bool.true → Eng.RowD.b t2 = Eng.RowD.b t2 ∧ Eng.RowD.off t2 = Eng.RowD.off t2) ∧ (t5 = Bool.true → Eng.RowD.n t3 ≤ Eng.RowD.n t3) ∧ (t5 = Bool.true → ∀ (k7 : Nat), k7 < Eng.RowD.n t3 → Bool.true = Bool.true) ∧ (t5 = Bool.true → Eng.RowD.b t3 = Eng.RowD.b t3 ∧ Eng.RowD.off t3 = Eng.RowD.off t3) ∧ (t5 = Bool.true →
      Eng.RowD.n t4 ≤ Eng.RowD.n t4) ∧ (t5 = Bool.true → ∀ (k8 : Nat), k8 < Eng.RowD.n t4 → Bool.true = Bool.true) ∧ (t5 = Bool.true → Eng.RowD.b t4 = Eng.RowD.b t4 ∧ Eng.RowD.off t4 = Eng.RowD.off t4) ∧ ∀ (t6 : Bool), t6 = Heat.hasF (Eng.RowD.n t1) B → ∀ (t7 : Bool), (t7 = if t5 = Bool.true then t6 else Bool.false) → (t7 = Bool.true → b1 = b1 ∧ (0 : Nat) = (0 : Nat)) ∧ (t7 = Bool.true → b1 = b1 ∧ (0 :
      Nat) = (0 : Nat)) ∧ ∀ (t8 : Bool), (t8 = if t7 = Bool.true then A != B else Bool.false) → (t8 = Bool.true → b1 = b1 ∧ (0 : Nat) = (0 : Nat)) ∧ ∀ (t9 : Bool), t9 = Heat.withinF cd → ∀ (t10 : Bool), (t10 = if t8 = Bool.true then t9 else Bool.false) → t10 = Heat.pathF (Eng.RowD.n t1) (A, B, cd, ())) (by kernel_rfl) ?_
  simp [pathF, allGet]
def heater := pcOf (.cons (.elt eHeater) cHas) (fun _ => []) (fun x => .bool (heaterF x.2.1.2.2.1.2.2.1.n x.1))
theorem heater_ok : PcOk Try.prog 23 heater := by
  refine pcOf_run (fun _ => E3_ok) Try.func23 rfl (by kernel_rfl) (fun _ => trivial) (fun _ => []) (fun _ => Nat.le_of_ble_eq_true rfl) (fun ⟨⟨nd, pw, lo, hi, on, ()⟩, ⟨b, o, ⟨b', o', t1, t2, t3, t4, ()⟩, ()⟩, ()⟩ hp _ => ?_)
  refine vc_of (q :=
      ∀ (b1 : Nat), (b = b ∧ o = o) ∧ (b1 = b1 ∧ (0 : Nat) = (0 : Nat)) ∧ (b' = b' ∧ o' = o') ∧ Eng.RowD.n t1 ≤ Eng.RowD.n t1 ∧ (∀ (k1 : Nat), k1 < Eng.RowD.n t1 → Bool.true = Bool.true) ∧ (Eng.RowD.b t1 = Eng.RowD.b t1 ∧ Eng.RowD.off t1 = Eng.RowD.off t1) ∧ Eng.RowD.n t2 ≤ Eng.RowD.n t2 ∧ (∀ (k2 : Nat), k2 < Eng.RowD.n t2 → Bool.true = Bool.true) ∧ (Eng.RowD.b t2 = Eng.RowD.b t2 ∧ Eng.RowD.off t2 =
      Eng.RowD.off t2) ∧ Eng.RowD.n t3 ≤ Eng.RowD.n t3 ∧ (∀ (k3 : Nat), k3 < Eng.RowD.n t3 → Bool.true = Bool.true) ∧ (Eng.RowD.b t3 = Eng.RowD.b t3 ∧ Eng.RowD.off t3 = Eng.RowD.off t3) ∧ Eng.RowD.n t4 ≤ Eng.RowD.n t4 ∧ (∀ (k4 : Nat), k4 < Eng.RowD.n t4 → Bool.true = Bool.true) ∧ (Eng.RowD.b t4 = Eng.RowD.b t4 ∧ Eng.RowD.off t4 = Eng.RowD.off t4) ∧ ∀ (t5 : Bool), t5 = Heat.hasF (Eng.RowD.n t1) nd → (t5 =
      Bool.true → b1 = b1 ∧ (0 : Nat) = (0 : Nat)) ∧ ∀ (t6 : Bool), t6 = Heat.withinF pw → ∀ (t7 : Bool), (t7 = if t5 = Bool.true then t6 else Bool.false) → (t7 = Bool.true → b1 = b1 ∧ (0 : Nat) = (0 : Nat)) ∧ ∀ (t8 : Bool), t8 = Heat.withinF lo → ∀ (t9 : Bool), (t9 = if t7 = Bool.true then t8 else Bool.false) → (t9 = Bool.true → b1 = b1 ∧ (0 : Nat) = (0 : Nat)) ∧ ∀ (t10 : Bool), t10 = Heat.withinF hi →
      ∀ (t11 : Bool), (t11 = if t9 = Bool.true then t10 else Bool.false) → (t11 = Bool.true → b1 = b1 ∧ (0 : Nat) = (0 : Nat)) ∧ (t11 = Bool.true → b1 = b1 ∧ (0 : Nat) = (0 : Nat)) ∧ ∀ (t12 : Bool), (t12 = if t11 = Bool.true then Decidable.decide (lo ≤ hi) else Bool.false) → t12 = Heat.heaterF (Eng.RowD.n t1) (nd, pw, lo, hi, on, ())) (by kernel_rfl) ?_
  simp [heaterF, allGet]
def E4 : Env := (E3.addP 21 path).addP 23 heater
theorem E4_ok : EnvOk Try.prog E4 := (E3_ok.addP path_ok).addP heater_ok
abbrev aAll {β : Type} (e : Elt β) {γ : Type} (h : Arg γ) : ArgL (RowD β × γ × Unit) := .cons (.row e) (.cons h .nil)

/-! ### perigee/api.Node -/
abbrev holdsN := Arg.ptr 1 (.fnc 25 .nil)
def notN := pcOf (.cons (.elt eNode) (.cons holdsN .nil)) (fun _ => []) (fun x => .bool (!(nodeB x.1.1 x.1.2.1)))
theorem notN_ok : PcOk Try.prog 40 notN := by
  refine pcOf_run (fun _ => E4_ok) Try.func40 rfl (by kernel_rfl) (fun _ => trivial) (fun _ => []) (fun _ => Nat.le_of_ble_eq_true rfl) (fun ⟨⟨h, c, ()⟩, ⟨b, o, ()⟩, ()⟩ hp _ => ?_)
  refine vc_of (q :=
      ∀ (b1 : Nat), (b = b ∧ o = o) ∧ (b1 = b1 ∧ (0 : Nat) = (0 : Nat)) ∧ ∀ (t1 : Bool), t1 = Heat.nodeB h c → (!t1) = !Heat.nodeB h c) (by kernel_rfl) ?_
  simp [allGet]
def E5 : Env := E4.addP 40 notN
theorem E5_ok : EnvOk Try.prog E5 := E4_ok.addP notN_ok
def ixN := pcOf (aAll eNode (.fnc 40 (.cons holdsN .nil))) (fun _ => []) (fun x => .int .i64 (firstIx (fun k => !(nodeB (x.1.f k).1 (x.1.f k).2.1)) x.1.n))
theorem ixN_ok : PcOk Try.prog 54 ixN := by
  refine pcOf_run (fun _ => E5_ok) Try.func54 rfl (by kernel_rfl) (fun _ => trivial)
    (fun x => [.lp 2 Nat [8] (fun k => [.int .i64 k]) (fun k => k ≤ x.1.n ∧ ∀ j, j < k → (!(nodeB (x.1.f j).1 (x.1.f j).2.1)) = false) (fun k => x.1.n - k)]) (fun _ => Nat.le_of_ble_eq_true rfl) (fun ⟨⟨b, off, n, c, z, f⟩, ⟨⟨b0, o0, ()⟩, ()⟩, ()⟩ hp hw => ?_)
  have hn : n ≤ 9223372036854775807 := Nat.le_trans (hw _ (List.mem_cons_self ..)).2.1 (hw _ (List.mem_cons_self ..)).2.2
  clear hp hw
  refine vc_of (q :=
      ∀ (v1 : Int), v1 = (↑n : Int) → (∃ (x1 : Nat), (0 : Int) = (↑x1 : Int) ∧ x1 ≤ n ∧ ∀ (b1 : Nat), b1 < x1 → (!Heat.nodeB (Prod.fst (f b1)) (Prod.fst (Prod.snd (f b1)))) = Bool.false) ∧ ∀ (b2 : Nat), (b2 ≤ n ∧ ∀ (j : Nat), j < b2 → (!Heat.nodeB (Prod.fst (f j)) (Prod.fst (Prod.snd (f j)))) = Bool.false) → (Decidable.decide ((↑b2 : Int) < v1) = Bool.true → (0 : Int) ≤ (↑b2 : Int) ∧ (↑b2 : Int) < (↑n :
      Int) ∧ (b = b ∧ off = off) ∧ Int.toNat (↑b2 : Int) < n ∧ (b0 = b0 ∧ o0 = o0) ∧ ∀ (t1 : Bool), t1 = !Heat.nodeB (Prod.fst (f (Int.toNat (↑b2 : Int)))) (Prod.fst (Prod.snd (f (Int.toNat (↑b2 : Int))))) → (t1 = Bool.true → (↑b2 : Int) = Heat.firstIx (fun (k : Nat) ↦ !Heat.nodeB (Prod.fst (f k)) (Prod.fst (Prod.snd (f k)))) n) ∧ (t1 = Bool.false → ∀ (v2 : Int), v2 = Go.IntKind.wrap Go.IntKind.i64 ((↑b2
      : Int) + (1 : Int)) → ∃ (x2 : Nat), v2 = (↑x2 : Int) ∧ (x2 ≤ n ∧ ∀ (b3 : Nat), b3 < x2 → (!Heat.nodeB (Prod.fst (f b3)) (Prod.fst (Prod.snd (f b3)))) = Bool.false) ∧ n - x2 < n - b2)) ∧ (Decidable.decide ((↑b2 : Int) < v1) = Bool.false → (-1 : Int) = Heat.firstIx (fun (k : Nat) ↦ !Heat.nodeB (Prod.fst (f k)) (Prod.fst (Prod.snd (f k)))) n)) (by kernel_rfl) ?_
  simp [allGet]
  refine ⟨⟨0, by simp⟩, fun k hk hl => ⟨fun hlt => ⟨hlt, fun hq => ?_, fun hq => ⟨k + 1, ?_, ⟨by omega, fun j hj => ?_⟩, by omega⟩⟩, fun hge => ?_⟩⟩
  · rw [firstIx_some hlt (by simpa using hq) (fun j hj => by simpa using hl j hj)]
  · rw [w64_id (by omega) (by omega)]
    omega
  · rcases Nat.lt_succ_iff_lt_or_eq.1 hj with hj | rfl
    · exact hl j hj
    · exact hq
  · rw [firstIx_none (fun j hj => by simpa using hl j (by omega))]
def E6 : Env := E5.addP 54 ixN
theorem E6_ok : EnvOk Try.prog E6 := E5_ok.addP ixN_ok
def coN := pcOf (aAll eNode (.fnc 40 (.cons holdsN .nil))) (fun _ => []) (fun x => .bool (decide (firstIx (fun k => !(nodeB (x.1.f k).1 (x.1.f k).2.1)) x.1.n ≥ 0)))
theorem coN_ok : PcOk Try.prog 39 coN := by
  refine pcOf_run (fun _ => E6_ok) Try.func39 rfl (by kernel_rfl) (fun _ => trivial) (fun _ => []) (fun _ => Nat.le_of_ble_eq_true rfl) (fun ⟨⟨b, off, n, c, z, f⟩, ⟨⟨b0, o0, ()⟩, ()⟩, ()⟩ hp hw => ?_)
  refine vc_of (q :=
      n ≤ n ∧ (∀ (k1 : Nat), k1 < n → Bool.true = Bool.true) ∧ (b = b ∧ off = off) ∧ (b0 = b0 ∧ o0 = o0) ∧ ∀ (v1 : Int), v1 = Heat.firstIx (fun (k : Nat) ↦ !Heat.nodeB (Prod.fst (f k)) (Prod.fst (Prod.snd (f k)))) n → Decidable.decide (v1 ≥ (0 : Int)) = Decidable.decide (Heat.firstIx (fun (k : Nat) ↦ !Heat.nodeB (Prod.fst (f k)) (Prod.fst (Prod.snd (f k)))) n ≥ (0 : Int))) (by kernel_rfl) ?_
  simp [allGet]
def E7 : Env := E6.addP 39 coN
theorem E7_ok : EnvOk Try.prog E7 := E6_ok.addP coN_ok
def allN := pcOf (aAll eNode (.fnc 25 .nil)) (fun _ => []) (fun x => .bool (!(decide (firstIx (fun k => !(nodeB (x.1.f k).1 (x.1.f k).2.1)) x.1.n ≥ 0))))
theorem allN_ok : PcOk Try.prog 24 allN := by
  refine pcOf_run (fun _ => E7_ok) Try.func24 rfl (by kernel_rfl) (fun _ => trivial) (fun _ => []) (fun _ => Nat.le_of_ble_eq_true rfl) (fun ⟨⟨b, off, n, c, z, f⟩, (), ()⟩ hp hw => ?_)
  refine vc_of (q :=
      ∀ (b1 : Nat), n ≤ n ∧ (∀ (k1 : Nat), k1 < n → Bool.true = Bool.true) ∧ (b = b ∧ off = off) ∧ (b1 = b1 ∧ (0 : Nat) = (0 : Nat)) ∧ ∀ (t1 : Bool), t1 = Decidable.decide (Heat.firstIx (fun (k : Nat) ↦ !Heat.nodeB (Prod.fst (f k)) (Prod.fst (Prod.snd (f k)))) n ≥ (0 : Int)) → (!t1) = !Decidable.decide (Heat.firstIx (fun (k : Nat) ↦ !Heat.nodeB (Prod.fst (f k)) (Prod.fst (Prod.snd (f k)))) n ≥ (0 : Int))) (by kernel_rfl) ?_
  simp [allGet]
def E8 : Env := E7.addP 24 allN
theorem E8_ok : EnvOk Try.prog E8 := E7_ok.addP allN_ok
/-! ### int64 -/
abbrev holdsI := Arg.ptr 1 (.fnc 22 .nil)
def notI := pcOf (.cons (.elt (.int .i64)) (.cons holdsI .nil)) (fun _ => []) (fun x => .bool (!(withinF x.1)))
theorem notI_ok : PcOk Try.prog 43 notI := by
  refine pcOf_run (fun _ => E8_ok) Try.func43 rfl (by kernel_rfl) (fun _ => trivial) (fun _ => []) (fun _ => Nat.le_of_ble_eq_true rfl) (fun ⟨v, ⟨b, o, ()⟩, ()⟩ hp _ => ?_)
  refine vc_of (q :=
      (b = b ∧ o = o) ∧ ∀ (t1 : Bool), t1 = Heat.withinF v → (!t1) = !Heat.withinF v) (by kernel_rfl) ?_
  simp [allGet]
def E9 : Env := E8.addP 43 notI
theorem E9_ok : EnvOk Try.prog E9 := E8_ok.addP notI_ok
def ixI := pcOf (aAll (.int .i64) (.fnc 43 (.cons holdsI .nil))) (fun _ => []) (fun x => .int .i64 (firstIx (fun k => !(withinF (x.1.f k))) x.1.n))
theorem ixI_ok : PcOk Try.prog 55 ixI := by
  refine pcOf_run (fun _ => E9_ok) Try.func55 rfl (by kernel_rfl) (fun _ => trivial)
    (fun x => [.lp 2 Nat [8] (fun k => [.int .i64 k]) (fun k => k ≤ x.1.n ∧ ∀ j, j < k → (!(withinF (x.1.f j))) = false) (fun k => x.1.n - k)]) (fun _ => Nat.le_of_ble_eq_true rfl) (fun ⟨⟨b, off, n, c, z, f⟩, ⟨⟨b0, o0, ()⟩, ()⟩, ()⟩ hp hw => ?_)
  have hn : n ≤ 9223372036854775807 := Nat.le_trans (hw _ (List.mem_cons_self ..)).2.1 (hw _ (List.mem_cons_self ..)).2.2
  clear hp hw
  refine vc_of (q :=
      ∀ (v1 : Int), v1 = (↑n : Int) → (∃ (x1 : Nat), (0 : Int) = (↑x1 : Int) ∧ x1 ≤ n ∧ ∀ (b1 : Nat), b1 < x1 → (!Heat.withinF (f b1)) = Bool.false) ∧ ∀ (b2 : Nat), (b2 ≤ n ∧ ∀ (j : Nat), j < b2 → (!Heat.withinF (f j)) = Bool.false) → (Decidable.decide ((↑b2 : Int) < v1) = Bool.true → (0 : Int) ≤ (↑b2 : Int) ∧ (↑b2 : Int) < (↑n : Int) ∧ (b = b ∧ off = off) ∧ Int.toNat (↑b2 : Int) < n ∧ (b0 = b0 ∧ o0 =
      o0) ∧ ∀ (t1 : Bool), t1 = !Heat.withinF (f (Int.toNat (↑b2 : Int))) → (t1 = Bool.true → (↑b2 : Int) = Heat.firstIx (fun (k : Nat) ↦ !Heat.withinF (f k)) n) ∧ (t1 = Bool.false → ∀ (v2 : Int), v2 = Go.IntKind.wrap Go.IntKind.i64 ((↑b2 : Int) + (1 : Int)) → ∃ (x2 : Nat), v2 = (↑x2 : Int) ∧ (x2 ≤ n ∧ ∀ (b3 : Nat), b3 < x2 → (!Heat.withinF (f b3)) = Bool.false) ∧ n - x2 < n - b2)) ∧ (Decidable.decide
      ((↑b2 : Int) < v1) = Bool.false → (-1 : Int) = Heat.firstIx (fun (k : Nat) ↦ !Heat.withinF (f k)) n)) (by kernel_rfl) ?_
  simp [allGet]
  refine ⟨⟨0, by simp⟩, fun k hk hl => ⟨fun hlt => ⟨hlt, fun hq => ?_, fun hq => ⟨k + 1, ?_, ⟨by omega, fun j hj => ?_⟩, by omega⟩⟩, fun hge => ?_⟩⟩
  · rw [firstIx_some hlt (by simpa using hq) (fun j hj => by simpa using hl j hj)]
  · rw [w64_id (by omega) (by omega)]
    omega
  · rcases Nat.lt_succ_iff_lt_or_eq.1 hj with hj | rfl
    · exact hl j hj
    · exact hq
  · rw [firstIx_none (fun j hj => by simpa using hl j (by omega))]
def E10 : Env := E9.addP 55 ixI
theorem E10_ok : EnvOk Try.prog E10 := E9_ok.addP ixI_ok
def coI := pcOf (aAll (.int .i64) (.fnc 43 (.cons holdsI .nil))) (fun _ => []) (fun x => .bool (decide (firstIx (fun k => !(withinF (x.1.f k))) x.1.n ≥ 0)))
theorem coI_ok : PcOk Try.prog 42 coI := by
  refine pcOf_run (fun _ => E10_ok) Try.func42 rfl (by kernel_rfl) (fun _ => trivial) (fun _ => []) (fun _ => Nat.le_of_ble_eq_true rfl) (fun ⟨⟨b, off, n, c, z, f⟩, ⟨⟨b0, o0, ()⟩, ()⟩, ()⟩ hp hw => ?_)
  refine vc_of (q :=
      n ≤ n ∧ (∀ (k1 : Nat), k1 < n → Bool.true = Bool.true) ∧ (b = b ∧ off = off) ∧ (b0 = b0 ∧ o0 = o0) ∧ ∀ (v1 : Int), v1 = Heat.firstIx (fun (k : Nat) ↦ !Heat.withinF (f k)) n → Decidable.decide (v1 ≥ (0 : Int)) = Decidable.decide (Heat.firstIx (fun (k : Nat) ↦ !Heat.withinF (f k)) n ≥ (0 : Int))) (by kernel_rfl) ?_
  simp [allGet]
def E11 : Env := E10.addP 42 coI
theorem E11_ok : EnvOk Try.prog E11 := E10_ok.addP coI_ok
def allI := pcOf (aAll (.int .i64) (.fnc 22 .nil)) (fun _ => []) (fun x => .bool (!(decide (firstIx (fun k => !(withinF (x.1.f k))) x.1.n ≥ 0))))
theorem allI_ok : PcOk Try.prog 26 allI := by
  refine pcOf_run (fun _ => E11_ok) Try.func26 rfl (by kernel_rfl) (fun _ => trivial) (fun _ => []) (fun _ => Nat.le_of_ble_eq_true rfl) (fun ⟨⟨b, off, n, c, z, f⟩, (), ()⟩ hp hw => ?_)
  refine vc_of (q :=
      ∀ (b1 : Nat), n ≤ n ∧ (∀ (k1 : Nat), k1 < n → Bool.true = Bool.true) ∧ (b = b ∧ off = off) ∧ (b1 = b1 ∧ (0 : Nat) = (0 : Nat)) ∧ ∀ (t1 : Bool), t1 = Decidable.decide (Heat.firstIx (fun (k : Nat) ↦ !Heat.withinF (f k)) n ≥ (0 : Int)) → (!t1) = !Decidable.decide (Heat.firstIx (fun (k : Nat) ↦ !Heat.withinF (f k)) n ≥ (0 : Int))) (by kernel_rfl) ?_
  simp [allGet]
def E12 : Env := E11.addP 26 allI
theorem E12_ok : EnvOk Try.prog E12 := E11_ok.addP allI_ok
/-! ### perigee/api.Path -/
abbrev holdsP := Arg.ptr 1 (.fnc 21 cHas)
def notP := pcOf (.cons (.elt ePath) (.cons holdsP .nil)) (fun _ => []) (fun x => .bool (!(pathF x.2.1.2.2.1.2.2.1.2.2.1.n x.1)))
theorem notP_ok : PcOk Try.prog 45 notP := by
  refine pcOf_run (fun _ => E12_ok) Try.func45 rfl (by kernel_rfl) (fun _ => trivial) (fun _ => []) (fun _ => Nat.le_of_ble_eq_true rfl) (fun ⟨⟨A, B, cd, ()⟩, ⟨b, o, ⟨⟨b1, o1, ⟨b2, o2, t1, t2, t3, t4, ()⟩, ()⟩, ()⟩⟩, ()⟩ hp _ => ?_)
  refine vc_of (q :=
      ∀ (b3 : Nat), (b = b ∧ o = o) ∧ (b3 = b3 ∧ (0 : Nat) = (0 : Nat)) ∧ (b1 = b1 ∧ o1 = o1) ∧ (b2 = b2 ∧ o2 = o2) ∧ Eng.RowD.n t1 ≤ Eng.RowD.n t1 ∧ (∀ (k1 : Nat), k1 < Eng.RowD.n t1 → Bool.true = Bool.true) ∧ (Eng.RowD.b t1 = Eng.RowD.b t1 ∧ Eng.RowD.off t1 = Eng.RowD.off t1) ∧ Eng.RowD.n t2 ≤ Eng.RowD.n t2 ∧ (∀ (k2 : Nat), k2 < Eng.RowD.n t2 → Bool.true = Bool.true) ∧ (Eng.RowD.b t2 = Eng.RowD.b t2 ∧
      Eng.RowD.off t2 = Eng.RowD.off t2) ∧ Eng.RowD.n t3 ≤ Eng.RowD.n t3 ∧ (∀ (k3 : Nat), k3 < Eng.RowD.n t3 → Bool.true = Bool.true) ∧ (Eng.RowD.b t3 = Eng.RowD.b t3 ∧ Eng.RowD.off t3 = Eng.RowD.off t3) ∧ Eng.RowD.n t4 ≤ Eng.RowD.n t4 ∧ (∀ (k4 : Nat), k4 < Eng.RowD.n t4 → Bool.true = Bool.true) ∧ (Eng.RowD.b t4 = Eng.RowD.b t4 ∧ Eng.RowD.off t4 = Eng.RowD.off t4) ∧ ∀ (t5 : Bool), t5 = Heat.pathF
      (Eng.RowD.n t1) (A, B, cd, ()) → (!t5) = !Heat.pathF (Eng.RowD.n t1) (A, B, cd, ())) (by kernel_rfl) ?_
  simp [allGet]
def E13 : Env := E12.addP 45 notP
theorem E13_ok : EnvOk Try.prog E13 := E12_ok.addP notP_ok
def ixP := pcOf (aAll ePath (.fnc 45 (.cons holdsP .nil))) (fun _ => []) (fun x => .int .i64 (firstIx (fun k => !(pathF x.2.1.1.2.2.1.2.2.1.2.2.1.n (x.1.f k))) x.1.n))
theorem ixP_ok : PcOk Try.prog 56 ixP := by
  refine pcOf_run (fun _ => E13_ok) Try.func56 rfl (by kernel_rfl) (fun _ => trivial)
    (fun x => [.lp 2 Nat [8] (fun k => [.int .i64 k]) (fun k => k ≤ x.1.n ∧ ∀ j, j < k → (!(pathF x.2.1.1.2.2.1.2.2.1.2.2.1.n (x.1.f j))) = false) (fun k => x.1.n - k)]) (fun _ => Nat.le_of_ble_eq_true rfl) (fun ⟨⟨b, off, n, c, z, f⟩, ⟨⟨b0, o0, ⟨⟨b1, o1, ⟨b2, o2, t1, t2, t3, t4, ()⟩, ()⟩, ()⟩⟩, ()⟩, ()⟩ hp hw => ?_)
  have hn : n ≤ 9223372036854775807 := Nat.le_trans (hw _ (List.mem_cons_self ..)).2.1 (hw _ (List.mem_cons_self ..)).2.2
  clear hp hw
  refine vc_of (q :=
      ∀ (v1 : Int), v1 = (↑n : Int) → (∃ (x1 : Nat), (0 : Int) = (↑x1 : Int) ∧ x1 ≤ n ∧ ∀ (b3 : Nat), b3 < x1 → (!Heat.pathF (Eng.RowD.n t1) (f b3)) = Bool.false) ∧ ∀ (b4 : Nat), (b4 ≤ n ∧ ∀ (j : Nat), j < b4 → (!Heat.pathF (Eng.RowD.n t1) (f j)) = Bool.false) → (Decidable.decide ((↑b4 : Int) < v1) = Bool.true → (0 : Int) ≤ (↑b4 : Int) ∧ (↑b4 : Int) < (↑n : Int) ∧ (b = b ∧ off = off) ∧ Int.toNat (↑b4 :
      Int) < n ∧ (b0 = b0 ∧ o0 = o0) ∧ (b1 = b1 ∧ o1 = o1) ∧ (b2 = b2 ∧ o2 = o2) ∧ Eng.RowD.n t1 ≤ Eng.RowD.n t1 ∧ (∀ (k1 : Nat), k1 < Eng.RowD.n t1 → Bool.true = Bool.true) ∧ (Eng.RowD.b t1 = Eng.RowD.b t1 ∧ Eng.RowD.off t1 = Eng.RowD.off t1) ∧ Eng.RowD.n t2 ≤ Eng.RowD.n t2 ∧ (∀ (k2 : Nat), k2 < Eng.RowD.n t2 → Bool.true = Bool.true) ∧ (Eng.RowD.b t2 = Eng.RowD.b t2 ∧ Eng.RowD.off t2 = Eng.RowD.off t2)
      ∧ Eng.RowD.n t3 ≤ Eng.RowD.n t3 ∧ (∀ (k3 : Nat), k3 < Eng.RowD.n t3 → Bool.true = Bool.true) ∧ (Eng.RowD.b t3 = Eng.RowD.b t3 ∧ Eng.RowD.off t3 = Eng.RowD.off t3) ∧ Eng.RowD.n t4 ≤ Eng.RowD.n t4 ∧ (∀ (k4 : Nat), k4 < Eng.RowD.n t4 → Bool.true = Bool.true) ∧ (Eng.RowD.b t4 = Eng.RowD.b t4 ∧ Eng.RowD.off t4 = Eng.RowD.off t4) ∧ ∀ (t5 : Bool), t5 = !Heat.pathF (Eng.RowD.n t1) (f (Int.toNat (↑b4 :
      Int))) → (t5 = Bool.true → (↑b4 : Int) = Heat.firstIx (fun (k : Nat) ↦ !Heat.pathF (Eng.RowD.n t1) (f k)) n) ∧ (t5 = Bool.false → ∀ (v2 : Int), v2 = Go.IntKind.wrap Go.IntKind.i64 ((↑b4 : Int) + (1 : Int)) → ∃ (x2 : Nat), v2 = (↑x2 : Int) ∧ (x2 ≤ n ∧ ∀ (b5 : Nat), b5 < x2 → (!Heat.pathF (Eng.RowD.n t1) (f b5)) = Bool.false) ∧ n - x2 < n - b4)) ∧ (Decidable.decide ((↑b4 : Int) < v1) = Bool.false →
      (-1 : Int) = Heat.firstIx (fun (k : Nat) ↦ !Heat.pathF (Eng.RowD.n t1) (f k)) n)) (by kernel_rfl) ?_
  simp [allGet]
  refine ⟨⟨0, by simp⟩, fun k hk hl => ⟨fun hlt => ⟨hlt, fun hq => ?_, fun hq => ⟨k + 1, ?_, ⟨by omega, fun j hj => ?_⟩, by omega⟩⟩, fun hge => ?_⟩⟩
  · rw [firstIx_some hlt (by simpa using hq) (fun j hj => by simpa using hl j hj)]
  · rw [w64_id (by omega) (by omega)]
    omega
  · rcases Nat.lt_succ_iff_lt_or_eq.1 hj with hj | rfl
    · exact hl j hj
    · exact hq
  · rw [firstIx_none (fun j hj => by simpa using hl j (by omega))]
def E14 : Env := E13.addP 56 ixP
theorem E14_ok : EnvOk Try.prog E14 := E13_ok.addP ixP_ok
def coP := pcOf (aAll ePath (.fnc 45 (.cons holdsP .nil))) (fun _ => []) (fun x => .bool (decide (firstIx (fun k => !(pathF x.2.1.1.2.2.1.2.2.1.2.2.1.n (x.1.f k))) x.1.n ≥ 0)))
theorem coP_ok : PcOk Try.prog 44 coP := by
  refine pcOf_run (fun _ => E14_ok) Try.func44 rfl (by kernel_rfl) (fun _ => trivial) (fun _ => []) (fun _ => Nat.le_of_ble_eq_true rfl) (fun ⟨⟨b, off, n, c, z, f⟩, ⟨⟨b0, o0, ⟨⟨b1, o1, ⟨b2, o2, t1, t2, t3, t4, ()⟩, ()⟩, ()⟩⟩, ()⟩, ()⟩ hp hw => ?_)
  refine vc_of (q :=
      n ≤ n ∧ (∀ (k1 : Nat), k1 < n → Bool.true = Bool.true) ∧ (b = b ∧ off = off) ∧ (b0 = b0 ∧ o0 = o0) ∧ (b1 = b1 ∧ o1 = o1) ∧ (b2 = b2 ∧ o2 = o2) ∧ Eng.RowD.n t1 ≤ Eng.RowD.n t1 ∧ (∀ (k2 : Nat), k2 < Eng.RowD.n t1 → Bool.true = Bool.true) ∧ (Eng.RowD.b t1 = Eng.RowD.b t1 ∧ Eng.RowD.off t1 = Eng.RowD.off t1) ∧ Eng.RowD.n t2 ≤ Eng.RowD.n t2 ∧ (∀ (k3 : Nat), k3 < Eng.RowD.n t2 → Bool.true = Bool.true) ∧
      (Eng.RowD.b t2 = Eng.RowD.b t2 ∧ Eng.RowD.off t2 = Eng.RowD.off t2) ∧ Eng.RowD.n t3 ≤ Eng.RowD.n t3 ∧ (∀ (k4 : Nat), k4 < Eng.RowD.n t3 → Bool.true = Bool.true) ∧ (Eng.RowD.b t3 = Eng.RowD.b t3 ∧ Eng.RowD.off t3 = Eng.RowD.off t3) ∧ Eng.RowD.n t4 ≤ Eng.RowD.n t4 ∧ (∀ (k5 : Nat), k5 < Eng.RowD.n t4 → Bool.true = Bool.true) ∧ (Eng.RowD.b t4 = Eng.RowD.b t4 ∧ Eng.RowD.off t4 = Eng.RowD.off t4) ∧ ∀ (v1
      : Int), v1 = Heat.firstIx (fun (k : Nat) ↦ !Heat.pathF (Eng.RowD.n t1) (f k)) n → Decidable.decide (v1 ≥ (0 : Int)) = Decidable.decide (Heat.firstIx (fun (k : Nat) ↦ !Heat.pathF (Eng.RowD.n t1) (f k)) n ≥ (0 : Int))) (by kernel_rfl) ?_
  simp [allGet]
def E15 : Env := E14.addP 44 coP
theorem E15_ok : EnvOk Try.prog E15 := E14_ok.addP coP_ok
def allP := pcOf (aAll ePath (.fnc 21 cHas)) (fun _ => []) (fun x => .bool (!(decide (firstIx (fun k => !(pathF x.2.1.1.2.2.1.2.2.1.n (x.1.f k))) x.1.n ≥ 0))))
theorem allP_ok : PcOk Try.prog 27 allP := by
  refine pcOf_run (fun _ => E15_ok) Try.func27 rfl (by kernel_rfl) (fun _ => trivial) (fun _ => []) (fun _ => Nat.le_of_ble_eq_true rfl) (fun ⟨⟨b, off, n, c, z, f⟩, ⟨⟨b1, o1, ⟨b2, o2, t1, t2, t3, t4, ()⟩, ()⟩, ()⟩, ()⟩ hp hw => ?_)
  refine vc_of (q :=
      ∀ (b3 : Nat), n ≤ n ∧ (∀ (k1 : Nat), k1 < n → Bool.true = Bool.true) ∧ (b = b ∧ off = off) ∧ (b3 = b3 ∧ (0 : Nat) = (0 : Nat)) ∧ (b1 = b1 ∧ o1 = o1) ∧ (b2 = b2 ∧ o2 = o2) ∧ Eng.RowD.n t1 ≤ Eng.RowD.n t1 ∧ (∀ (k2 : Nat), k2 < Eng.RowD.n t1 → Bool.true = Bool.true) ∧ (Eng.RowD.b t1 = Eng.RowD.b t1 ∧ Eng.RowD.off t1 = Eng.RowD.off t1) ∧ Eng.RowD.n t2 ≤ Eng.RowD.n t2 ∧ (∀ (k3 : Nat), k3 < Eng.RowD.n t2
      → Bool.true = Bool.true) ∧ (Eng.RowD.b t2 = Eng.RowD.b t2 ∧ Eng.RowD.off t2 = Eng.RowD.off t2) ∧ Eng.RowD.n t3 ≤ Eng.RowD.n t3 ∧ (∀ (k4 : Nat), k4 < Eng.RowD.n t3 → Bool.true = Bool.true) ∧ (Eng.RowD.b t3 = Eng.RowD.b t3 ∧ Eng.RowD.off t3 = Eng.RowD.off t3) ∧ Eng.RowD.n t4 ≤ Eng.RowD.n t4 ∧ (∀ (k5 : Nat), k5 < Eng.RowD.n t4 → Bool.true = Bool.true) ∧ (Eng.RowD.b t4 = Eng.RowD.b t4 ∧ Eng.RowD.off t4
      = Eng.RowD.off t4) ∧ ∀ (t5 : Bool), t5 = Decidable.decide (Heat.firstIx (fun (k : Nat) ↦ !Heat.pathF (Eng.RowD.n t1) (f k)) n ≥ (0 : Int)) → (!t5) = !Decidable.decide (Heat.firstIx (fun (k : Nat) ↦ !Heat.pathF (Eng.RowD.n t1) (f k)) n ≥ (0 : Int))) (by kernel_rfl) ?_
  simp [allGet]
def E16 : Env := E15.addP 27 allP
theorem E16_ok : EnvOk Try.prog E16 := E15_ok.addP allP_ok
/-! ### perigee/api.Heater -/
abbrev holdsH := Arg.ptr 1 (.fnc 23 cHas)
def notH := pcOf (.cons (.elt eHeater) (.cons holdsH .nil)) (fun _ => []) (fun x => .bool (!(heaterF x.2.1.2.2.1.2.2.1.2.2.1.n x.1)))
theorem notH_ok : PcOk Try.prog 47 notH := by
  refine pcOf_run (fun _ => E16_ok) Try.func47 rfl (by kernel_rfl) (fun _ => trivial) (fun _ => []) (fun _ => Nat.le_of_ble_eq_true rfl) (fun ⟨⟨nd, pw, lo, hi, on, ()⟩, ⟨b, o, ⟨⟨b1, o1, ⟨b2, o2, t1, t2, t3, t4, ()⟩, ()⟩, ()⟩⟩, ()⟩ hp _ => ?_)
  refine vc_of (q :=
      ∀ (b3 : Nat), (b = b ∧ o = o) ∧ (b3 = b3 ∧ (0 : Nat) = (0 : Nat)) ∧ (b1 = b1 ∧ o1 = o1) ∧ (b2 = b2 ∧ o2 = o2) ∧ Eng.RowD.n t1 ≤ Eng.RowD.n t1 ∧ (∀ (k1 : Nat), k1 < Eng.RowD.n t1 → Bool.true = Bool.true) ∧ (Eng.RowD.b t1 = Eng.RowD.b t1 ∧ Eng.RowD.off t1 = Eng.RowD.off t1) ∧ Eng.RowD.n t2 ≤ Eng.RowD.n t2 ∧ (∀ (k2 : Nat), k2 < Eng.RowD.n t2 → Bool.true = Bool.true) ∧ (Eng.RowD.b t2 = Eng.RowD.b t2 ∧
      Eng.RowD.off t2 = Eng.RowD.off t2) ∧ Eng.RowD.n t3 ≤ Eng.RowD.n t3 ∧ (∀ (k3 : Nat), k3 < Eng.RowD.n t3 → Bool.true = Bool.true) ∧ (Eng.RowD.b t3 = Eng.RowD.b t3 ∧ Eng.RowD.off t3 = Eng.RowD.off t3) ∧ Eng.RowD.n t4 ≤ Eng.RowD.n t4 ∧ (∀ (k4 : Nat), k4 < Eng.RowD.n t4 → Bool.true = Bool.true) ∧ (Eng.RowD.b t4 = Eng.RowD.b t4 ∧ Eng.RowD.off t4 = Eng.RowD.off t4) ∧ ∀ (t5 : Bool), t5 = Heat.heaterF
      (Eng.RowD.n t1) (nd, pw, lo, hi, on, ()) → (!t5) = !Heat.heaterF (Eng.RowD.n t1) (nd, pw, lo, hi, on, ())) (by kernel_rfl) ?_
  simp [allGet]
def E17 : Env := E16.addP 47 notH
theorem E17_ok : EnvOk Try.prog E17 := E16_ok.addP notH_ok
def ixH := pcOf (aAll eHeater (.fnc 47 (.cons holdsH .nil))) (fun _ => []) (fun x => .int .i64 (firstIx (fun k => !(heaterF x.2.1.1.2.2.1.2.2.1.2.2.1.n (x.1.f k))) x.1.n))
theorem ixH_ok : PcOk Try.prog 57 ixH := by
  refine pcOf_run (fun _ => E17_ok) Try.func57 rfl (by kernel_rfl) (fun _ => trivial)
    (fun x => [.lp 2 Nat [8] (fun k => [.int .i64 k]) (fun k => k ≤ x.1.n ∧ ∀ j, j < k → (!(heaterF x.2.1.1.2.2.1.2.2.1.2.2.1.n (x.1.f j))) = false) (fun k => x.1.n - k)]) (fun _ => Nat.le_of_ble_eq_true rfl) (fun ⟨⟨b, off, n, c, z, f⟩, ⟨⟨b0, o0, ⟨⟨b1, o1, ⟨b2, o2, t1, t2, t3, t4, ()⟩, ()⟩, ()⟩⟩, ()⟩, ()⟩ hp hw => ?_)
  have hn : n ≤ 9223372036854775807 := Nat.le_trans (hw _ (List.mem_cons_self ..)).2.1 (hw _ (List.mem_cons_self ..)).2.2
  clear hp hw
  refine vc_of (q :=
      ∀ (v1 : Int), v1 = (↑n : Int) → (∃ (x1 : Nat), (0 : Int) = (↑x1 : Int) ∧ x1 ≤ n ∧ ∀ (b3 : Nat), b3 < x1 → (!Heat.heaterF (Eng.RowD.n t1) (f b3)) = Bool.false) ∧ ∀ (b4 : Nat), (b4 ≤ n ∧ ∀ (j : Nat), j < b4 → (!Heat.heaterF (Eng.RowD.n t1) (f j)) = Bool.false) → (Decidable.decide ((↑b4 : Int) < v1) = Bool.true → (0 : Int) ≤ (↑b4 : Int) ∧ (↑b4 : Int) < (↑n : Int) ∧ (b = b ∧ off = off) ∧ Int.toNat (↑b4
      : Int) < n ∧ (b0 = b0 ∧ o0 = o0) ∧ (b1 = b1 ∧ o1 = o1) ∧ (b2 = b2 ∧ o2 = o2) ∧ Eng.RowD.n t1 ≤ Eng.RowD.n t1 ∧ (∀ (k1 : Nat), k1 < Eng.RowD.n t1 → Bool.true = Bool.true) ∧ (Eng.RowD.b t1 = Eng.RowD.b t1 ∧ Eng.RowD.off t1 = Eng.RowD.off t1) ∧ Eng.RowD.n t2 ≤ Eng.RowD.n t2 ∧ (∀ (k2 : Nat), k2 < Eng.RowD.n t2 → Bool.true = Bool.true) ∧ (Eng.RowD.b t2 = Eng.RowD.b t2 ∧ Eng.RowD.off t2 = Eng.RowD.off
      t2) ∧ Eng.RowD.n t3 ≤ Eng.RowD.n t3 ∧ (∀ (k3 : Nat), k3 < Eng.RowD.n t3 → Bool.true = Bool.true) ∧ (Eng.RowD.b t3 = Eng.RowD.b t3 ∧ Eng.RowD.off t3 = Eng.RowD.off t3) ∧ Eng.RowD.n t4 ≤ Eng.RowD.n t4 ∧ (∀ (k4 : Nat), k4 < Eng.RowD.n t4 → Bool.true = Bool.true) ∧ (Eng.RowD.b t4 = Eng.RowD.b t4 ∧ Eng.RowD.off t4 = Eng.RowD.off t4) ∧ ∀ (t5 : Bool), t5 = !Heat.heaterF (Eng.RowD.n t1) (f (Int.toNat (↑b4
      : Int))) → (t5 = Bool.true → (↑b4 : Int) = Heat.firstIx (fun (k : Nat) ↦ !Heat.heaterF (Eng.RowD.n t1) (f k)) n) ∧ (t5 = Bool.false → ∀ (v2 : Int), v2 = Go.IntKind.wrap Go.IntKind.i64 ((↑b4 : Int) + (1 : Int)) → ∃ (x2 : Nat), v2 = (↑x2 : Int) ∧ (x2 ≤ n ∧ ∀ (b5 : Nat), b5 < x2 → (!Heat.heaterF (Eng.RowD.n t1) (f b5)) = Bool.false) ∧ n - x2 < n - b4)) ∧ (Decidable.decide ((↑b4 : Int) < v1) =
      Bool.false → (-1 : Int) = Heat.firstIx (fun (k : Nat) ↦ !Heat.heaterF (Eng.RowD.n t1) (f k)) n)) (by kernel_rfl) ?_
  simp [allGet]
  refine ⟨⟨0, by simp⟩, fun k hk hl => ⟨fun hlt => ⟨hlt, fun hq => ?_, fun hq => ⟨k + 1, ?_, ⟨by omega, fun j hj => ?_⟩, by omega⟩⟩, fun hge => ?_⟩⟩
  · rw [firstIx_some hlt (by simpa using hq) (fun j hj => by simpa using hl j hj)]
  · rw [w64_id (by omega) (by omega)]
    omega
  · rcases Nat.lt_succ_iff_lt_or_eq.1 hj with hj | rfl
    · exact hl j hj
    · exact hq
  · rw [firstIx_none (fun j hj => by simpa using hl j (by omega))]
def E18 : Env := E17.addP 57 ixH
theorem E18_ok : EnvOk Try.prog E18 := E17_ok.addP ixH_ok
def coH := pcOf (aAll eHeater (.fnc 47 (.cons holdsH .nil))) (fun _ => []) (fun x => .bool (decide (firstIx (fun k => !(heaterF x.2.1.1.2.2.1.2.2.1.2.2.1.n (x.1.f k))) x.1.n ≥ 0)))
theorem coH_ok : PcOk Try.prog 46 coH := by
  refine pcOf_run (fun _ => E18_ok) Try.func46 rfl (by kernel_rfl) (fun _ => trivial) (fun _ => []) (fun _ => Nat.le_of_ble_eq_true rfl) (fun ⟨⟨b, off, n, c, z, f⟩, ⟨⟨b0, o0, ⟨⟨b1, o1, ⟨b2, o2, t1, t2, t3, t4, ()⟩, ()⟩, ()⟩⟩, ()⟩, ()⟩ hp hw => ?_)
  refine vc_of (q :=
      n ≤ n ∧ (∀ (k1 : Nat), k1 < n → Bool.true = Bool.true) ∧ (b = b ∧ off = off) ∧ (b0 = b0 ∧ o0 = o0) ∧ (b1 = b1 ∧ o1 = o1) ∧ (b2 = b2 ∧ o2 = o2) ∧ Eng.RowD.n t1 ≤ Eng.RowD.n t1 ∧ (∀ (k2 : Nat), k2 < Eng.RowD.n t1 → Bool.true = Bool.true) ∧ (Eng.RowD.b t1 = Eng.RowD.b t1 ∧ Eng.RowD.off t1 = Eng.RowD.off t1) ∧ Eng.RowD.n t2 ≤ Eng.RowD.n t2 ∧ (∀ (k3 : Nat), k3 < Eng.RowD.n t2 → Bool.true = Bool.true) ∧
      (Eng.RowD.b t2 = Eng.RowD.b t2 ∧ Eng.RowD.off t2 = Eng.RowD.off t2) ∧ Eng.RowD.n t3 ≤ Eng.RowD.n t3 ∧ (∀ (k4 : Nat), k4 < Eng.RowD.n t3 → Bool.true = Bool.true) ∧ (Eng.RowD.b t3 = Eng.RowD.b t3 ∧ Eng.RowD.off t3 = Eng.RowD.off t3) ∧ Eng.RowD.n t4 ≤ Eng.RowD.n t4 ∧ (∀ (k5 : Nat), k5 < Eng.RowD.n t4 → Bool.true = Bool.true) ∧ (Eng.RowD.b t4 = Eng.RowD.b t4 ∧ Eng.RowD.off t4 = Eng.RowD.off t4) ∧ ∀ (v1
      : Int), v1 = Heat.firstIx (fun (k : Nat) ↦ !Heat.heaterF (Eng.RowD.n t1) (f k)) n → Decidable.decide (v1 ≥ (0 : Int)) = Decidable.decide (Heat.firstIx (fun (k : Nat) ↦ !Heat.heaterF (Eng.RowD.n t1) (f k)) n ≥ (0 : Int))) (by kernel_rfl) ?_
  simp [allGet]
def E19 : Env := E18.addP 46 coH
theorem E19_ok : EnvOk Try.prog E19 := E18_ok.addP coH_ok
def allH := pcOf (aAll eHeater (.fnc 23 cHas)) (fun _ => []) (fun x => .bool (!(decide (firstIx (fun k => !(heaterF x.2.1.1.2.2.1.2.2.1.n (x.1.f k))) x.1.n ≥ 0))))
theorem allH_ok : PcOk Try.prog 28 allH := by
  refine pcOf_run (fun _ => E19_ok) Try.func28 rfl (by kernel_rfl) (fun _ => trivial) (fun _ => []) (fun _ => Nat.le_of_ble_eq_true rfl) (fun ⟨⟨b, off, n, c, z, f⟩, ⟨⟨b1, o1, ⟨b2, o2, t1, t2, t3, t4, ()⟩, ()⟩, ()⟩, ()⟩ hp hw => ?_)
  refine vc_of (q :=
      ∀ (b3 : Nat), n ≤ n ∧ (∀ (k1 : Nat), k1 < n → Bool.true = Bool.true) ∧ (b = b ∧ off = off) ∧ (b3 = b3 ∧ (0 : Nat) = (0 : Nat)) ∧ (b1 = b1 ∧ o1 = o1) ∧ (b2 = b2 ∧ o2 = o2) ∧ Eng.RowD.n t1 ≤ Eng.RowD.n t1 ∧ (∀ (k2 : Nat), k2 < Eng.RowD.n t1 → Bool.true = Bool.true) ∧ (Eng.RowD.b t1 = Eng.RowD.b t1 ∧ Eng.RowD.off t1 = Eng.RowD.off t1) ∧ Eng.RowD.n t2 ≤ Eng.RowD.n t2 ∧ (∀ (k3 : Nat), k3 < Eng.RowD.n t2
      → Bool.true = Bool.true) ∧ (Eng.RowD.b t2 = Eng.RowD.b t2 ∧ Eng.RowD.off t2 = Eng.RowD.off t2) ∧ Eng.RowD.n t3 ≤ Eng.RowD.n t3 ∧ (∀ (k4 : Nat), k4 < Eng.RowD.n t3 → Bool.true = Bool.true) ∧ (Eng.RowD.b t3 = Eng.RowD.b t3 ∧ Eng.RowD.off t3 = Eng.RowD.off t3) ∧ Eng.RowD.n t4 ≤ Eng.RowD.n t4 ∧ (∀ (k5 : Nat), k5 < Eng.RowD.n t4 → Bool.true = Bool.true) ∧ (Eng.RowD.b t4 = Eng.RowD.b t4 ∧ Eng.RowD.off t4
      = Eng.RowD.off t4) ∧ ∀ (t5 : Bool), t5 = Decidable.decide (Heat.firstIx (fun (k : Nat) ↦ !Heat.heaterF (Eng.RowD.n t1) (f k)) n ≥ (0 : Int)) → (!t5) = !Decidable.decide (Heat.firstIx (fun (k : Nat) ↦ !Heat.heaterF (Eng.RowD.n t1) (f k)) n ≥ (0 : Int))) (by kernel_rfl) ?_
  simp [allGet]
def E20 : Env := E19.addP 28 allH
theorem E20_ok : EnvOk Try.prog E20 := E19_ok.addP allH_ok
def EA : Env := E20
theorem EA_ok : EnvOk Try.prog EA := E20_ok
end Heat
