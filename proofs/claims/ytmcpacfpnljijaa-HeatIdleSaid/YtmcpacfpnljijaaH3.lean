/-
  OWN WORK. Heat: Check, Total, Temperature, of the program and of the reference.
-/
import Derived.Test.YtmcpacfpnljijaaH2
namespace Heat
open Go Go.Proofs Eng
set_option linter.unusedVariables false
set_option linter.unusedSimpArgs false

def allB (q : Nat → Bool) (n : Nat) : Bool := (List.range n).all q
theorem allB_true {q : Nat → Bool} {n : Nat} : allB q n = true ↔ ∀ k, k < n → q k = true := by
  simp [allB]
theorem allB_false {q : Nat → Bool} {n k : Nat} (hk : k < n) (h : q k = false) : allB q n = false := by
  rw [← Bool.not_eq_true, allB_true]
  intro h'
  rw [h' k hk] at h
  cases h
theorem firstIx_allB (q : Nat → Bool) (n : Nat) : decide (firstIx (fun k => !q k) n ≥ 0) = !allB q n := by
  unfold firstIx allB
  cases h : (List.range n).find? (fun k => !q k) with
  | none =>
    have h' : ∀ k, k < n → q k = true := by simpa using h
    have : (List.range n).all q = true := by simpa using h'
    rw [this]
    decide
  | some k =>
    have hk := List.find?_some h
    have hm := List.mem_of_find?_eq_some h
    have : (List.range n).all q = false := by
      rw [List.all_eq_false]
      exact ⟨k, hm, by simpa using hk⟩
    rw [this]
    simp
abbrev aThermal : ArgL (Thermal × Unit) := .cons tThermal .nil
def sizesB (t : Thermal) : Bool := decide (1 ≤ t.1.n ∧ t.1.n ≤ 16 ∧ t.2.1.n ≤ 32 ∧ t.2.2.1.n ≤ 8 ∧ t.2.2.2.1.n = t.1.n)
def partB (t : Thermal) (k : Nat) : Bool := nodeB (t.1.f k).1 (t.1.f k).2.1 && withinF (t.2.2.2.1.f k)
/-- A model is valid. -/
def checkB (t : Thermal) : Bool := sizesB t && allB (partB t) t.1.n && allB (fun k => pathF t.1.n (t.2.1.f k)) t.2.1.n && allB (fun k => heaterF t.1.n (t.2.2.1.f k)) t.2.2.1.n
def checkI (t : Thermal) : Int := if checkB t then 0 else 2
def check := pcOf aThermal (fun _ => []) (fun x => .int .i64 (checkI x.1))
theorem allB_parts (t : Thermal) (h : t.2.2.2.1.n = t.1.n) : allB (partB t) t.1.n = (allB (fun k => nodeB (t.1.f k).1 (t.1.f k).2.1) t.1.n && allB (fun k => withinF (t.2.2.2.1.f k)) t.2.2.2.1.n) := by
  rw [Bool.eq_iff_iff, Bool.and_eq_true, allB_true, allB_true, allB_true, h]
  simp only [partB, Bool.and_eq_true]
  exact ⟨fun h => ⟨fun k hk => (h k hk).1, fun k hk => (h k hk).2⟩, fun h k hk => ⟨h.1 k hk, h.2 k hk⟩⟩
theorem checkB_iff (t : Thermal) : checkB t = true ↔ ((1 ≤ t.1.n ∧ t.1.n ≤ 16 ∧ t.2.1.n ≤ 32 ∧ t.2.2.1.n ≤ 8 ∧ t.2.2.2.1.n = t.1.n) ∧ allB (fun k => nodeB (t.1.f k).1 (t.1.f k).2.1) t.1.n = true ∧ allB (fun k => withinF (t.2.2.2.1.f k)) t.2.2.2.1.n = true ∧ allB (fun k => pathF t.1.n (t.2.1.f k)) t.2.1.n = true ∧ allB (fun k => heaterF t.1.n (t.2.2.1.f k)) t.2.2.1.n = true) := by
  unfold checkB
  by_cases hs : sizesB t = true
  · have hs' := hs
    simp only [sizesB, decide_eq_true_eq] at hs'
    rw [hs, allB_parts t hs'.2.2.2.2]
    simp only [Bool.true_and, Bool.and_eq_true]
    exact ⟨fun h => ⟨hs', h.1.1.1, h.1.1.2, h.1.2, h.2⟩, fun h => ⟨⟨⟨h.2.1, h.2.2.1⟩, h.2.2.2.1⟩, h.2.2.2.2⟩⟩
  · have hs2 : sizesB t = false := by simpa using hs
    rw [hs2]
    simp only [Bool.false_and]
    refine ⟨fun h => absurd h (by simp), fun h => absurd ?_ hs⟩
    simp only [sizesB, decide_eq_true_eq]
    exact h.1
theorem chk2 {t : Thermal} (h : checkB t = false) : (2 : Int) = checkI t := by rw [checkI, h]; rfl
theorem chk0 {t : Thermal} (h : checkB t = true) : (0 : Int) = checkI t := by rw [checkI, h]; rfl
theorem chk2' {t : Thermal} (h : ¬ checkB t = true) : (2 : Int) = checkI t := chk2 (by simpa using h)
theorem check_ok : PcOk Try.prog 10 check := by
  refine pcOf_run (fun _ => EA_ok) Try.func10 rfl (by kernel_rfl) (fun _ => trivial) (fun _ => []) (fun _ => Nat.le_of_ble_eq_true rfl) (fun ⟨⟨t1, t2, t3, t4, ()⟩, ()⟩ hp hw => ?_)
  refine vc_of (q :=
      ∀ (b1 b2 : Nat), (b2 = b2 ∧ (0 : Nat) = (0 : Nat)) ∧ (b1 = b1 ∧ (0 : Nat) = (0 : Nat)) ∧ ∀ (v1 : Int), v1 = (↑(Eng.RowD.n t1) : Int) → (Decidable.decide (v1 > (0 : Int)) = Bool.true → b1 = b1 ∧ (0 : Nat) = (0 : Nat)) ∧ ∀ (v2 : Int), v2 = (↑(Eng.RowD.n t1) : Int) → ∀ (t5 : Bool), (t5 = if Decidable.decide (v1 > (0 : Int)) = Bool.true then Decidable.decide (v2 ≤ (16 : Int)) else Bool.false) → (t5 =
      Bool.true → b1 = b1 ∧ (0 : Nat) = (0 : Nat)) ∧ ∀ (v3 : Int), v3 = (↑(Eng.RowD.n t2) : Int) → ∀ (t6 : Bool), (t6 = if t5 = Bool.true then Decidable.decide (v3 ≤ (32 : Int)) else Bool.false) → (t6 = Bool.true → b1 = b1 ∧ (0 : Nat) = (0 : Nat)) ∧ ∀ (v4 : Int), v4 = (↑(Eng.RowD.n t3) : Int) → ∀ (t7 : Bool), (t7 = if t6 = Bool.true then Decidable.decide (v4 ≤ (8 : Int)) else Bool.false) → (t7 =
      Bool.true → b1 = b1 ∧ (0 : Nat) = (0 : Nat)) ∧ ∀ (v5 : Int), v5 = (↑(Eng.RowD.n t4) : Int) → (t7 = Bool.true → b1 = b1 ∧ (0 : Nat) = (0 : Nat)) ∧ ∀ (v6 : Int), v6 = (↑(Eng.RowD.n t1) : Int) → ∀ (t8 : Bool), (t8 = if t7 = Bool.true then v5 == v6 else Bool.false) → ((!t8) = Bool.false → b1 = b1 ∧ (0 : Nat) = (0 : Nat)) ∧ ((!t8) = Bool.false → Eng.RowD.n t1 ≤ Eng.RowD.n t1) ∧ ((!t8) = Bool.false → ∀
      (k1 : Nat), k1 < Eng.RowD.n t1 → Bool.true = Bool.true) ∧ ((!t8) = Bool.false → Eng.RowD.b t1 = Eng.RowD.b t1 ∧ Eng.RowD.off t1 = Eng.RowD.off t1) ∧ ∀ (t9 : Bool), t9 = !Decidable.decide (Heat.firstIx (fun (k : Nat) ↦ !Heat.nodeB (Prod.fst (Eng.RowD.f t1 k)) (Prod.fst (Prod.snd (Eng.RowD.f t1 k)))) (Eng.RowD.n t1) ≥ (0 : Int)) → ∀ (t10 : Bool), (t10 = if (!t8) = Bool.true then Bool.true else !t9) →
      (t10 = Bool.false → b1 = b1 ∧ (0 : Nat) = (0 : Nat)) ∧ (t10 = Bool.false → Eng.RowD.n t4 ≤ Eng.RowD.n t4) ∧ (t10 = Bool.false → ∀ (k2 : Nat), k2 < Eng.RowD.n t4 → Bool.true = Bool.true) ∧ (t10 = Bool.false → Eng.RowD.b t4 = Eng.RowD.b t4 ∧ Eng.RowD.off t4 = Eng.RowD.off t4) ∧ ∀ (t11 : Bool), t11 = !Decidable.decide (Heat.firstIx (fun (k : Nat) ↦ !Heat.withinF (Eng.RowD.f t4 k)) (Eng.RowD.n t4) ≥ (0
      : Int)) → ∀ (t12 : Bool), (t12 = if t10 = Bool.true then Bool.true else !t11) → (t12 = Bool.false → b1 = b1 ∧ (0 : Nat) = (0 : Nat)) ∧ (t12 = Bool.false → Eng.RowD.n t2 ≤ Eng.RowD.n t2) ∧ (t12 = Bool.false → ∀ (k3 : Nat), k3 < Eng.RowD.n t2 → Bool.true = Bool.true) ∧ (t12 = Bool.false → Eng.RowD.b t2 = Eng.RowD.b t2 ∧ Eng.RowD.off t2 = Eng.RowD.off t2) ∧ (t12 = Bool.false → b2 = b2 ∧ (0 : Nat) = (0
      : Nat)) ∧ (t12 = Bool.false → b1 = b1 ∧ (0 : Nat) = (0 : Nat)) ∧ (t12 = Bool.false → Eng.RowD.n t1 ≤ Eng.RowD.n t1) ∧ (t12 = Bool.false → ∀ (k4 : Nat), k4 < Eng.RowD.n t1 → Bool.true = Bool.true) ∧ (t12 = Bool.false → Eng.RowD.b t1 = Eng.RowD.b t1 ∧ Eng.RowD.off t1 = Eng.RowD.off t1) ∧ (t12 = Bool.false → Eng.RowD.n t2 ≤ Eng.RowD.n t2) ∧ (t12 = Bool.false → ∀ (k5 : Nat), k5 < Eng.RowD.n t2 →
      Bool.true = Bool.true) ∧ (t12 = Bool.false → Eng.RowD.b t2 = Eng.RowD.b t2 ∧ Eng.RowD.off t2 = Eng.RowD.off t2) ∧ (t12 = Bool.false → Eng.RowD.n t3 ≤ Eng.RowD.n t3) ∧ (t12 = Bool.false → ∀ (k6 : Nat), k6 < Eng.RowD.n t3 → Bool.true = Bool.true) ∧ (t12 = Bool.false → Eng.RowD.b t3 = Eng.RowD.b t3 ∧ Eng.RowD.off t3 = Eng.RowD.off t3) ∧ (t12 = Bool.false → Eng.RowD.n t4 ≤ Eng.RowD.n t4) ∧ (t12 =
      Bool.false → ∀ (k7 : Nat), k7 < Eng.RowD.n t4 → Bool.true = Bool.true) ∧ (t12 = Bool.false → Eng.RowD.b t4 = Eng.RowD.b t4 ∧ Eng.RowD.off t4 = Eng.RowD.off t4) ∧ ∀ (t13 : Bool), t13 = !Decidable.decide (Heat.firstIx (fun (k : Nat) ↦ !Heat.pathF (Eng.RowD.n t1) (Eng.RowD.f t2 k)) (Eng.RowD.n t2) ≥ (0 : Int)) → ∀ (t14 : Bool), (t14 = if t12 = Bool.true then Bool.true else !t13) → (t14 = Bool.false →
      b1 = b1 ∧ (0 : Nat) = (0 : Nat)) ∧ (t14 = Bool.false → Eng.RowD.n t3 ≤ Eng.RowD.n t3) ∧ (t14 = Bool.false → ∀ (k8 : Nat), k8 < Eng.RowD.n t3 → Bool.true = Bool.true) ∧ (t14 = Bool.false → Eng.RowD.b t3 = Eng.RowD.b t3 ∧ Eng.RowD.off t3 = Eng.RowD.off t3) ∧ (t14 = Bool.false → b2 = b2 ∧ (0 : Nat) = (0 : Nat)) ∧ (t14 = Bool.false → b1 = b1 ∧ (0 : Nat) = (0 : Nat)) ∧ (t14 = Bool.false → Eng.RowD.n t1
      ≤ Eng.RowD.n t1) ∧ (t14 = Bool.false → ∀ (k9 : Nat), k9 < Eng.RowD.n t1 → Bool.true = Bool.true) ∧ (t14 = Bool.false → Eng.RowD.b t1 = Eng.RowD.b t1 ∧ Eng.RowD.off t1 = Eng.RowD.off t1) ∧ (t14 = Bool.false → Eng.RowD.n t2 ≤ Eng.RowD.n t2) ∧ (t14 = Bool.false → ∀ (k10 : Nat), k10 < Eng.RowD.n t2 → Bool.true = Bool.true) ∧ (t14 = Bool.false → Eng.RowD.b t2 = Eng.RowD.b t2 ∧ Eng.RowD.off t2 =
      Eng.RowD.off t2) ∧ (t14 = Bool.false → Eng.RowD.n t3 ≤ Eng.RowD.n t3) ∧ (t14 = Bool.false → ∀ (k11 : Nat), k11 < Eng.RowD.n t3 → Bool.true = Bool.true) ∧ (t14 = Bool.false → Eng.RowD.b t3 = Eng.RowD.b t3 ∧ Eng.RowD.off t3 = Eng.RowD.off t3) ∧ (t14 = Bool.false → Eng.RowD.n t4 ≤ Eng.RowD.n t4) ∧ (t14 = Bool.false → ∀ (k12 : Nat), k12 < Eng.RowD.n t4 → Bool.true = Bool.true) ∧ (t14 = Bool.false →
      Eng.RowD.b t4 = Eng.RowD.b t4 ∧ Eng.RowD.off t4 = Eng.RowD.off t4) ∧ ∀ (t15 : Bool), t15 = !Decidable.decide (Heat.firstIx (fun (k : Nat) ↦ !Heat.heaterF (Eng.RowD.n t1) (Eng.RowD.f t3 k)) (Eng.RowD.n t3) ≥ (0 : Int)) → ∀ (t16 : Bool), (t16 = if t14 = Bool.true then Bool.true else !t15) → (t16 = Bool.true → (2 : Int) = Heat.checkI (t1, t2, t3, t4, ())) ∧ (t16 = Bool.false → (0 : Int) = Heat.checkI
      (t1, t2, t3, t4, ()))) (by kernel_rfl) ?_
  simp [firstIx_allB, allGet]
  have key := checkB_iff (t1, t2, t3, t4, ())
  dsimp only at key
  refine ⟨fun h => chk2' fun hc => ?_, fun h1 h2 h3 h4 h5 h6 h7 h8 h9 => chk0 (key.2 ⟨⟨by omega, by omega, by omega, by omega, by omega⟩, h6, h7, h8, h9⟩)⟩
  obtain ⟨⟨k1, k2, k3, k4, k5⟩, k6, k7, k8, k9⟩ := key.1 hc
  rcases h with (((h | h) | h) | h) | h
  · exact h (by omega) (by omega) (by omega) (by omega) (by omega)
  · rw [k6] at h; cases h
  · rw [k7] at h; cases h
  · exact absurd (k8.symm.trans h) (by decide)
  · exact absurd (k9.symm.trans h) (by decide)
theorem checkR_ok : PcOk Try.prog 11 check := by
  refine pcOf_run (fun _ => EA_ok) Try.func11 rfl (by kernel_rfl) (fun _ => trivial)
    (fun x => [.lp 5 Nat [4] (fun k => [.int .i64 k]) (fun k => k ≤ x.1.1.n ∧ ∀ j, j < k → partB x.1 j = true) (fun k => x.1.1.n - k),
      .lp 10 Nat [5] (fun k => [.int .i64 k]) (fun k => k ≤ x.1.2.1.n ∧ ∀ j, j < k → pathF x.1.1.n (x.1.2.1.f j) = true) (fun k => x.1.2.1.n - k),
      .lp 16 Nat [7] (fun k => [.int .i64 k]) (fun k => k ≤ x.1.2.2.1.n ∧ ∀ j, j < k → heaterF x.1.1.n (x.1.2.2.1.f j) = true) (fun k => x.1.2.2.1.n - k)]) (fun _ => Nat.le_of_ble_eq_true rfl) (fun ⟨⟨t1, t2, t3, t4, ()⟩, ()⟩ hp hw => ?_)
  refine vc_of (q :=
      ∀ (b1 : Nat), (b1 = b1 ∧ (0 : Nat) = (0 : Nat)) ∧ ∀ (v1 : Int), v1 = (↑(Eng.RowD.n t1) : Int) → ∀ (t5 : Bool), (t5 = if Decidable.decide (v1 < (1 : Int)) = Bool.true then Bool.true else Decidable.decide (v1 > (16 : Int))) → (t5 = Bool.false → b1 = b1 ∧ (0 : Nat) = (0 : Nat)) ∧ ∀ (v2 : Int), v2 = (↑(Eng.RowD.n t2) : Int) → ∀ (t6 : Bool), (t6 = if t5 = Bool.true then Bool.true else Decidable.decide
      (v2 > (32 : Int))) → (t6 = Bool.false → b1 = b1 ∧ (0 : Nat) = (0 : Nat)) ∧ ∀ (v3 : Int), v3 = (↑(Eng.RowD.n t3) : Int) → ∀ (t7 : Bool), (t7 = if t6 = Bool.true then Bool.true else Decidable.decide (v3 > (8 : Int))) → (t7 = Bool.false → b1 = b1 ∧ (0 : Nat) = (0 : Nat)) ∧ ∀ (v4 : Int), v4 = (↑(Eng.RowD.n t4) : Int) → ∀ (t8 : Bool), (t8 = if t7 = Bool.true then Bool.true else v4 != v1) → (t8 =
      Bool.true → (2 : Int) = Heat.checkI (t1, t2, t3, t4, ())) ∧ (t8 = Bool.false → (∃ (x1 : Nat), (0 : Int) = (↑x1 : Int) ∧ x1 ≤ Eng.RowD.n t1 ∧ ∀ (b2 : Nat), b2 < x1 → Heat.partB (t1, t2, t3, t4, ()) b2 = Bool.true) ∧ ∀ (b3 : Nat), (b3 ≤ Eng.RowD.n t1 ∧ ∀ (j : Nat), j < b3 → Heat.partB (t1, t2, t3, t4, ()) j = Bool.true) → (Decidable.decide ((↑b3 : Int) < v1) = Bool.true → (b1 = b1 ∧ (0 : Nat) = (0 :
      Nat)) ∧ (0 : Int) ≤ (↑b3 : Int) ∧ (↑b3 : Int) < (↑(Eng.RowD.n t1) : Int) ∧ (Eng.RowD.b t1 = Eng.RowD.b t1 ∧ Eng.RowD.off t1 = Eng.RowD.off t1) ∧ Int.toNat (↑b3 : Int) < Eng.RowD.n t1 ∧ ∀ (t9 : Bool), t9 = Heat.nodeB (Prod.fst (Eng.RowD.f t1 (Int.toNat (↑b3 : Int)))) (Prod.fst (Prod.snd (Eng.RowD.f t1 (Int.toNat (↑b3 : Int))))) → ((!t9) = Bool.false → b1 = b1 ∧ (0 : Nat) = (0 : Nat)) ∧ ((!t9) =
      Bool.false → (0 : Int) ≤ (↑b3 : Int)) ∧ ((!t9) = Bool.false → (↑b3 : Int) < (↑(Eng.RowD.n t4) : Int)) ∧ ((!t9) = Bool.false → Eng.RowD.b t4 = Eng.RowD.b t4 ∧ Eng.RowD.off t4 = Eng.RowD.off t4) ∧ ((!t9) = Bool.false → Int.toNat (↑b3 : Int) < Eng.RowD.n t4) ∧ ∀ (t10 : Bool), t10 = Heat.withinF (Eng.RowD.f t4 (Int.toNat (↑b3 : Int))) → ∀ (t11 : Bool), (t11 = if (!t9) = Bool.true then Bool.true else
      !t10) → (t11 = Bool.true → (2 : Int) = Heat.checkI (t1, t2, t3, t4, ())) ∧ (t11 = Bool.false → ∀ (v5 : Int), v5 = Go.IntKind.wrap Go.IntKind.i64 ((↑b3 : Int) + (1 : Int)) → ∃ (x2 : Nat), v5 = (↑x2 : Int) ∧ (x2 ≤ Eng.RowD.n t1 ∧ ∀ (b4 : Nat), b4 < x2 → Heat.partB (t1, t2, t3, t4, ()) b4 = Bool.true) ∧ Eng.RowD.n t1 - x2 < Eng.RowD.n t1 - b3)) ∧ (Decidable.decide ((↑b3 : Int) < v1) = Bool.false → (∃
      (x2 : Nat), (0 : Int) = (↑x2 : Int) ∧ x2 ≤ Eng.RowD.n t2 ∧ ∀ (b4 : Nat), b4 < x2 → Heat.pathF (Eng.RowD.n t1) (Eng.RowD.f t2 b4) = Bool.true) ∧ ∀ (b5 : Nat), (b5 ≤ Eng.RowD.n t2 ∧ ∀ (j : Nat), j < b5 → Heat.pathF (Eng.RowD.n t1) (Eng.RowD.f t2 j) = Bool.true) → (b1 = b1 ∧ (0 : Nat) = (0 : Nat)) ∧ ∀ (v5 : Int), v5 = (↑(Eng.RowD.n t2) : Int) → (Decidable.decide ((↑b5 : Int) < v5) = Bool.true → (b1 =
      b1 ∧ (0 : Nat) = (0 : Nat)) ∧ (0 : Int) ≤ (↑b5 : Int) ∧ (↑b5 : Int) < (↑(Eng.RowD.n t2) : Int) ∧ (Eng.RowD.b t2 = Eng.RowD.b t2 ∧ Eng.RowD.off t2 = Eng.RowD.off t2) ∧ Int.toNat (↑b5 : Int) < Eng.RowD.n t2 ∧ ∀ (b6 : Nat), (b6 = b6 ∧ (0 : Nat) = (0 : Nat)) ∧ (b6 = b6 ∧ (0 : Nat) = (0 : Nat)) ∧ (Decidable.decide (Prod.fst (Eng.RowD.f t2 (Int.toNat (↑b5 : Int))) < (0 : Int)) = Bool.false → b6 = b6 ∧ (0
      : Nat) = (0 : Nat)) ∧ ∀ (t10 : Bool), (t10 = if Decidable.decide (Prod.fst (Eng.RowD.f t2 (Int.toNat (↑b5 : Int))) < (0 : Int)) = Bool.true then Bool.true else Decidable.decide (Prod.fst (Eng.RowD.f t2 (Int.toNat (↑b5 : Int))) ≥ v1)) → (t10 = Bool.false → b6 = b6 ∧ (0 : Nat) = (0 : Nat)) ∧ ∀ (t11 : Bool), (t11 = if t10 = Bool.true then Bool.true else Decidable.decide (Prod.fst (Prod.snd (Eng.RowD.f
      t2 (Int.toNat (↑b5 : Int)))) < (0 : Int))) → (t11 = Bool.false → b6 = b6 ∧ (0 : Nat) = (0 : Nat)) ∧ ∀ (t12 : Bool), (t12 = if t11 = Bool.true then Bool.true else Decidable.decide (Prod.fst (Prod.snd (Eng.RowD.f t2 (Int.toNat (↑b5 : Int)))) ≥ v1)) → (t12 = Bool.false → b6 = b6 ∧ (0 : Nat) = (0 : Nat)) ∧ (t12 = Bool.false → b6 = b6 ∧ (0 : Nat) = (0 : Nat)) ∧ ∀ (t13 : Bool), (t13 = if t12 = Bool.true
      then Bool.true else Prod.fst (Eng.RowD.f t2 (Int.toNat (↑b5 : Int))) == Prod.fst (Prod.snd (Eng.RowD.f t2 (Int.toNat (↑b5 : Int))))) → (t13 = Bool.false → b6 = b6 ∧ (0 : Nat) = (0 : Nat)) ∧ ∀ (t14 : Bool), t14 = Heat.withinF (Prod.fst (Prod.snd (Prod.snd (Eng.RowD.f t2 (Int.toNat (↑b5 : Int)))))) → ∀ (t15 : Bool), (t15 = if t13 = Bool.true then Bool.true else !t14) → (t15 = Bool.true → (2 : Int) =
      Heat.checkI (t1, t2, t3, t4, ())) ∧ (t15 = Bool.false → ∀ (v6 : Int), v6 = Go.IntKind.wrap Go.IntKind.i64 ((↑b5 : Int) + (1 : Int)) → ∃ (x3 : Nat), v6 = (↑x3 : Int) ∧ (x3 ≤ Eng.RowD.n t2 ∧ ∀ (b7 : Nat), b7 < x3 → Heat.pathF (Eng.RowD.n t1) (Eng.RowD.f t2 b7) = Bool.true) ∧ Eng.RowD.n t2 - x3 < Eng.RowD.n t2 - b5)) ∧ (Decidable.decide ((↑b5 : Int) < v5) = Bool.false → (∃ (x3 : Nat), (0 : Int) = (↑x3
      : Int) ∧ x3 ≤ Eng.RowD.n t3 ∧ ∀ (b7 : Nat), b7 < x3 → Heat.heaterF (Eng.RowD.n t1) (Eng.RowD.f t3 b7) = Bool.true) ∧ ∀ (b8 : Nat), (b8 ≤ Eng.RowD.n t3 ∧ ∀ (j : Nat), j < b8 → Heat.heaterF (Eng.RowD.n t1) (Eng.RowD.f t3 j) = Bool.true) → (b1 = b1 ∧ (0 : Nat) = (0 : Nat)) ∧ ∀ (v6 : Int), v6 = (↑(Eng.RowD.n t3) : Int) → (Decidable.decide ((↑b8 : Int) < v6) = Bool.true → (b1 = b1 ∧ (0 : Nat) = (0 :
      Nat)) ∧ (0 : Int) ≤ (↑b8 : Int) ∧ (↑b8 : Int) < (↑(Eng.RowD.n t3) : Int) ∧ (Eng.RowD.b t3 = Eng.RowD.b t3 ∧ Eng.RowD.off t3 = Eng.RowD.off t3) ∧ Int.toNat (↑b8 : Int) < Eng.RowD.n t3 ∧ ∀ (b9 : Nat), (b9 = b9 ∧ (0 : Nat) = (0 : Nat)) ∧ (b9 = b9 ∧ (0 : Nat) = (0 : Nat)) ∧ (Decidable.decide (Prod.fst (Eng.RowD.f t3 (Int.toNat (↑b8 : Int))) < (0 : Int)) = Bool.false → b9 = b9 ∧ (0 : Nat) = (0 : Nat)) ∧
      ∀ (t10 : Bool), (t10 = if Decidable.decide (Prod.fst (Eng.RowD.f t3 (Int.toNat (↑b8 : Int))) < (0 : Int)) = Bool.true then Bool.true else Decidable.decide (Prod.fst (Eng.RowD.f t3 (Int.toNat (↑b8 : Int))) ≥ v1)) → (t10 = Bool.false → b9 = b9 ∧ (0 : Nat) = (0 : Nat)) ∧ ∀ (t11 : Bool), t11 = Heat.withinF (Prod.fst (Prod.snd (Eng.RowD.f t3 (Int.toNat (↑b8 : Int))))) → ∀ (t12 : Bool), (t12 = if t10 =
      Bool.true then Bool.true else !t11) → (t12 = Bool.false → b9 = b9 ∧ (0 : Nat) = (0 : Nat)) ∧ ∀ (t13 : Bool), (t13 = if t12 = Bool.true then Bool.true else Decidable.decide (Prod.fst (Prod.snd (Prod.snd (Eng.RowD.f t3 (Int.toNat (↑b8 : Int))))) < (0 : Int))) → (t13 = Bool.false → b9 = b9 ∧ (0 : Nat) = (0 : Nat)) ∧ (t13 = Bool.false → b9 = b9 ∧ (0 : Nat) = (0 : Nat)) ∧ ∀ (t14 : Bool), (t14 = if t13 =
      Bool.true then Bool.true else Decidable.decide (Prod.fst (Prod.snd (Prod.snd (Eng.RowD.f t3 (Int.toNat (↑b8 : Int))))) > Prod.fst (Prod.snd (Prod.snd (Prod.snd (Eng.RowD.f t3 (Int.toNat (↑b8 : Int)))))))) → (t14 = Bool.false → b9 = b9 ∧ (0 : Nat) = (0 : Nat)) ∧ ∀ (t15 : Bool), (t15 = if t14 = Bool.true then Bool.true else Decidable.decide (Prod.fst (Prod.snd (Prod.snd (Prod.snd (Eng.RowD.f t3
      (Int.toNat (↑b8 : Int)))))) > (1048576 : Int))) → (t15 = Bool.true → (2 : Int) = Heat.checkI (t1, t2, t3, t4, ())) ∧ (t15 = Bool.false → ∀ (v7 : Int), v7 = Go.IntKind.wrap Go.IntKind.i64 ((↑b8 : Int) + (1 : Int)) → ∃ (x4 : Nat), v7 = (↑x4 : Int) ∧ (x4 ≤ Eng.RowD.n t3 ∧ ∀ (b10 : Nat), b10 < x4 → Heat.heaterF (Eng.RowD.n t1) (Eng.RowD.f t3 b10) = Bool.true) ∧ Eng.RowD.n t3 - x4 < Eng.RowD.n t3 - b8))
      ∧ (Decidable.decide ((↑b8 : Int) < v6) = Bool.false → (0 : Int) = Heat.checkI (t1, t2, t3, t4, ())))))) (by kernel_rfl) ?_
  simp
  have key := checkB_iff (t1, t2, t3, t4, ())
  dsimp only at key
  have kn : ∀ k, k < t1.n → partB (t1, t2, t3, t4, ()) k = false → ¬ checkB (t1, t2, t3, t4, ()) = true := fun k hk h hc => by
    simp only [checkB, Bool.and_eq_true] at hc
    have := allB_true.1 hc.1.1.2 k hk
    rw [h] at this; cases this
  have kp : ∀ k, k < t2.n → pathF t1.n (t2.f k) = false → ¬ checkB (t1, t2, t3, t4, ()) = true := fun k hk h hc => by
    simp only [checkB, Bool.and_eq_true] at hc
    have := allB_true.1 hc.1.2 k hk
    rw [h] at this; cases this
  have kh : ∀ k, k < t3.n → heaterF t1.n (t3.f k) = false → ¬ checkB (t1, t2, t3, t4, ()) = true := fun k hk h hc => by
    simp only [checkB, Bool.and_eq_true] at hc
    have := allB_true.1 hc.2 k hk
    rw [h] at this; cases this
  refine ⟨fun h => chk2' fun hc => ?_, fun h1 h2 h3 h4 h5 => ⟨⟨0, by simp⟩, fun k hk hl => ⟨fun hlt => ⟨hlt, fun _ => by omega, fun h => chk2' (kn k hlt ?_), fun g1 g2 => ⟨k + 1, ?_, ⟨by omega, ?_⟩, by omega⟩⟩, fun hge => ⟨⟨0, by simp⟩, fun q hq hql => ⟨fun hqt => ⟨hqt, fun h => chk2' (kp q hqt ?_), fun g1 g2 g3 g4 g5 g6 => ⟨q + 1, ?_, ⟨by omega, ?_⟩, by omega⟩⟩, fun hqe => ⟨⟨0, by simp⟩, fun r hr hrl => ⟨fun hrt => ⟨hrt, fun h => chk2' (kh r hrt ?_), fun g1 g2 g3 g4 g5 g6 => ⟨r + 1, ?_, ⟨by omega, ?_⟩, by omega⟩⟩, fun hre => chk0 ?_⟩⟩⟩⟩⟩⟩⟩
  · obtain ⟨⟨k1, k2, k3, k4, k5⟩, _⟩ := key.1 hc
    omega
  · simp only [partB, Bool.and_eq_false_iff]; exact h
  · rw [w64_id (by omega) (by omega)]; omega
  · intro j hj
    rcases Nat.lt_succ_iff_lt_or_eq.1 hj with hj | rfl
    · exact hl j hj
    · simp only [partB, Bool.and_eq_true]; exact ⟨g1, g2⟩
  · unfold pathF hasF
    rw [← Bool.not_eq_true]
    simp
    grind
  · rw [w64_id (by omega) (by omega)]; omega
  · intro j hj
    rcases Nat.lt_succ_iff_lt_or_eq.1 hj with hj | rfl
    · exact hql j hj
    · unfold pathF hasF
      simp
      grind
  · unfold heaterF hasF
    rw [← Bool.not_eq_true]
    simp [withinF] at *
    grind
  · rw [w64_id (by omega) (by omega)]; omega
  · intro j hj
    rcases Nat.lt_succ_iff_lt_or_eq.1 hj with hj | rfl
    · exact hrl j hj
    · unfold heaterF hasF
      simp [withinF] at *
      grind
  · rw [checkB]
    simp only [Bool.and_eq_true, allB_true]
    refine ⟨⟨⟨?_, fun j hj => hl j (by omega)⟩, fun j hj => hql j (by omega)⟩, fun j hj => hrl j (by omega)⟩
    simp only [sizesB, decide_eq_true_eq]
    omega
end Heat
