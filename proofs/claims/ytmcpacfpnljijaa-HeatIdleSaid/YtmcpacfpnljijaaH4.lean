/-
  OWN WORK. Heat: Total, Temperature, of the program and of the reference; Clone.
-/
import Derived.Test.YtmcpacfpnljijaaH3
namespace Heat
open Go Go.Proofs Eng
set_option linter.unusedVariables false
set_option linter.unusedSimpArgs false

def EB : Env := (EA.addP 10 check).addP 11 check
theorem EB_ok : EnvOk Try.prog EB := (EA_ok.addP check_ok).addP checkR_ok
/-- A sum that goes round. -/
def sumW (f : Nat → Int) : Nat → Int
  | 0 => 0
  | k + 1 => w64 (sumW f k + f k)
def totalF (t : Thermal) : Int := if checkB t then sumW (fun k => (t.1.f k).1) t.1.n else 0
def total := pcOf aThermal (fun _ => []) (fun x => .int .i64 (totalF x.1))
theorem checkB_n {t : Thermal} (h : checkB t = true) : t.1.n ≤ 16 := ((checkB_iff t).1 h).1.2.1
theorem total_ok : PcOk Try.prog 12 total := by
  refine pcOf_run (fun _ => EB_ok) Try.func12 rfl (by kernel_rfl) (fun _ => trivial)
    (fun x => [.lp 4 Nat [2, 11] (fun k => [.int .i64 (sumW (fun k => (x.1.1.f k).1) k), .int .i64 k]) (fun k => k ≤ x.1.1.n) (fun k => x.1.1.n - k)]) (fun _ => Nat.le_of_ble_eq_true rfl) (fun ⟨⟨t1, t2, t3, t4, ()⟩, ()⟩ hp hw => ?_)
  refine vc_of (q :=
      ∀ (b1 : Nat), (b1 = b1 ∧ (0 : Nat) = (0 : Nat)) ∧ Eng.RowD.n t1 ≤ Eng.RowD.n t1 ∧ (∀ (k1 : Nat), k1 < Eng.RowD.n t1 → Bool.true = Bool.true) ∧ (Eng.RowD.b t1 = Eng.RowD.b t1 ∧ Eng.RowD.off t1 = Eng.RowD.off t1) ∧ Eng.RowD.n t2 ≤ Eng.RowD.n t2 ∧ (∀ (k2 : Nat), k2 < Eng.RowD.n t2 → Bool.true = Bool.true) ∧ (Eng.RowD.b t2 = Eng.RowD.b t2 ∧ Eng.RowD.off t2 = Eng.RowD.off t2) ∧ Eng.RowD.n t3 ≤
      Eng.RowD.n t3 ∧ (∀ (k3 : Nat), k3 < Eng.RowD.n t3 → Bool.true = Bool.true) ∧ (Eng.RowD.b t3 = Eng.RowD.b t3 ∧ Eng.RowD.off t3 = Eng.RowD.off t3) ∧ Eng.RowD.n t4 ≤ Eng.RowD.n t4 ∧ (∀ (k4 : Nat), k4 < Eng.RowD.n t4 → Bool.true = Bool.true) ∧ (Eng.RowD.b t4 = Eng.RowD.b t4 ∧ Eng.RowD.off t4 = Eng.RowD.off t4) ∧ ∀ (v1 : Int), v1 = Heat.checkI (t1, t2, t3, t4, ()) → ((v1 != (0 : Int)) = Bool.true → (0 :
      Int) = Heat.totalF (t1, t2, t3, t4, ())) ∧ ((v1 != (0 : Int)) = Bool.false → (b1 = b1 ∧ (0 : Nat) = (0 : Nat)) ∧ ∀ (v2 : Int), v2 = (↑(Eng.RowD.n t1) : Int) → (∃ (x1 : Nat), (0 : Int) = Heat.sumW (fun (k : Nat) ↦ Prod.fst (Eng.RowD.f t1 k)) x1 ∧ (0 : Int) = (↑x1 : Int) ∧ Nat.le x1 (Eng.RowD.n t1)) ∧ ∀ (b2 : Nat), b2 ≤ Eng.RowD.n t1 → (Decidable.decide ((↑b2 : Int) < v2) = Bool.true → (0 : Int) ≤
      (↑b2 : Int) ∧ (↑b2 : Int) < (↑(Eng.RowD.n t1) : Int) ∧ (Eng.RowD.b t1 = Eng.RowD.b t1 ∧ Eng.RowD.off t1 = Eng.RowD.off t1) ∧ Int.toNat (↑b2 : Int) < Eng.RowD.n t1 ∧ ∀ (b3 : Nat), (b3 = b3 ∧ (0 : Nat) = (0 : Nat)) ∧ (b3 = b3 ∧ (0 : Nat) = (0 : Nat)) ∧ ∀ (v3 : Int), v3 = Go.IntKind.wrap Go.IntKind.i64 (Heat.sumW (fun (k : Nat) ↦ Prod.fst (Eng.RowD.f t1 k)) b2 + Prod.fst (Eng.RowD.f t1 (Int.toNat (↑b2
      : Int)))) → ∀ (v4 : Int), v4 = Go.IntKind.wrap Go.IntKind.i64 ((↑b2 : Int) + (1 : Int)) → ∃ (x2 : Nat), v3 = Heat.sumW (fun (k : Nat) ↦ Prod.fst (Eng.RowD.f t1 k)) x2 ∧ v4 = (↑x2 : Int) ∧ x2 ≤ Eng.RowD.n t1 ∧ Eng.RowD.n t1 - x2 < Eng.RowD.n t1 - b2) ∧ (Decidable.decide ((↑b2 : Int) < v2) = Bool.false → Heat.sumW (fun (k : Nat) ↦ Prod.fst (Eng.RowD.f t1 k)) b2 = Heat.totalF (t1, t2, t3, t4, ())))) (by kernel_rfl) ?_
  simp [allGet]
  have hc : checkI (t1, t2, t3, t4, ()) = 0 ↔ checkB (t1, t2, t3, t4, ()) = true := by unfold checkI; split <;> simp_all
  rw [hc]
  refine ⟨fun h => by simp [totalF, h], fun h => ⟨⟨0, by simp [sumW]⟩, fun k hk => ⟨fun hlt => ⟨hlt, k + 1, rfl, ?_, hlt, by omega⟩, fun hge => ?_⟩⟩⟩
  · have hn : t1.n ≤ 16 := checkB_n h
    rw [w64_id (by omega) (by omega)]; omega
  · obtain rfl : k = t1.n := by omega
    simp [totalF, h]
theorem totalR_ok : PcOk Try.prog 13 total := by
  refine pcOf_run (fun _ => EB_ok) Try.func13 rfl (by kernel_rfl) (fun _ => trivial)
    (fun x => [.lp 5 Nat [3, 4] (fun k => [.int .i64 (sumW (fun k => (x.1.1.f k).1) k), .int .i64 k]) (fun k => k ≤ x.1.1.n) (fun k => x.1.1.n - k)]) (fun _ => Nat.le_of_ble_eq_true rfl) (fun ⟨⟨t1, t2, t3, t4, ()⟩, ()⟩ hp hw => ?_)
  refine vc_of (q :=
      ∀ (b1 : Nat), (b1 = b1 ∧ (0 : Nat) = (0 : Nat)) ∧ Eng.RowD.n t1 ≤ Eng.RowD.n t1 ∧ (∀ (k1 : Nat), k1 < Eng.RowD.n t1 → Bool.true = Bool.true) ∧ (Eng.RowD.b t1 = Eng.RowD.b t1 ∧ Eng.RowD.off t1 = Eng.RowD.off t1) ∧ Eng.RowD.n t2 ≤ Eng.RowD.n t2 ∧ (∀ (k2 : Nat), k2 < Eng.RowD.n t2 → Bool.true = Bool.true) ∧ (Eng.RowD.b t2 = Eng.RowD.b t2 ∧ Eng.RowD.off t2 = Eng.RowD.off t2) ∧ Eng.RowD.n t3 ≤
      Eng.RowD.n t3 ∧ (∀ (k3 : Nat), k3 < Eng.RowD.n t3 → Bool.true = Bool.true) ∧ (Eng.RowD.b t3 = Eng.RowD.b t3 ∧ Eng.RowD.off t3 = Eng.RowD.off t3) ∧ Eng.RowD.n t4 ≤ Eng.RowD.n t4 ∧ (∀ (k4 : Nat), k4 < Eng.RowD.n t4 → Bool.true = Bool.true) ∧ (Eng.RowD.b t4 = Eng.RowD.b t4 ∧ Eng.RowD.off t4 = Eng.RowD.off t4) ∧ ∀ (v1 : Int), v1 = Heat.checkI (t1, t2, t3, t4, ()) → ((v1 != (0 : Int)) = Bool.true → (0 :
      Int) = Heat.totalF (t1, t2, t3, t4, ())) ∧ ((v1 != (0 : Int)) = Bool.false → (∃ (x1 : Nat), (0 : Int) = Heat.sumW (fun (k : Nat) ↦ Prod.fst (Eng.RowD.f t1 k)) x1 ∧ (0 : Int) = (↑x1 : Int) ∧ Nat.le x1 (Eng.RowD.n t1)) ∧ ∀ (b2 : Nat), b2 ≤ Eng.RowD.n t1 → (b1 = b1 ∧ (0 : Nat) = (0 : Nat)) ∧ ∀ (v2 : Int), v2 = (↑(Eng.RowD.n t1) : Int) → (Decidable.decide ((↑b2 : Int) < v2) = Bool.true → (b1 = b1 ∧ (0
      : Nat) = (0 : Nat)) ∧ (0 : Int) ≤ (↑b2 : Int) ∧ (↑b2 : Int) < (↑(Eng.RowD.n t1) : Int) ∧ (Eng.RowD.b t1 = Eng.RowD.b t1 ∧ Eng.RowD.off t1 = Eng.RowD.off t1) ∧ Int.toNat (↑b2 : Int) < Eng.RowD.n t1 ∧ ∀ (v3 : Int), v3 = Go.IntKind.wrap Go.IntKind.i64 (Heat.sumW (fun (k : Nat) ↦ Prod.fst (Eng.RowD.f t1 k)) b2 + Prod.fst (Eng.RowD.f t1 (Int.toNat (↑b2 : Int)))) → ∀ (v4 : Int), v4 = Go.IntKind.wrap
      Go.IntKind.i64 ((↑b2 : Int) + (1 : Int)) → ∃ (x2 : Nat), v3 = Heat.sumW (fun (k : Nat) ↦ Prod.fst (Eng.RowD.f t1 k)) x2 ∧ v4 = (↑x2 : Int) ∧ x2 ≤ Eng.RowD.n t1 ∧ Eng.RowD.n t1 - x2 < Eng.RowD.n t1 - b2) ∧ (Decidable.decide ((↑b2 : Int) < v2) = Bool.false → Heat.sumW (fun (k : Nat) ↦ Prod.fst (Eng.RowD.f t1 k)) b2 = Heat.totalF (t1, t2, t3, t4, ())))) (by kernel_rfl) ?_
  simp [allGet]
  have hc : checkI (t1, t2, t3, t4, ()) = 0 ↔ checkB (t1, t2, t3, t4, ()) = true := by unfold checkI; split <;> simp_all
  rw [hc]
  refine ⟨fun h => by simp [totalF, h], fun h => ⟨⟨0, by simp [sumW]⟩, fun k hk => ⟨fun hlt => ⟨hlt, k + 1, rfl, ?_, hlt, by omega⟩, fun hge => ?_⟩⟩⟩
  · have hn : t1.n ≤ 16 := checkB_n h
    rw [w64_id (by omega) (by omega)]; omega
  · obtain rfl : k = t1.n := by omega
    simp [totalF, h]
def tempF (h c : Int) : Int := if nodeB h c then warmF h c else 0
def temp := pcOf aNode (fun _ => []) (fun x => .int .i64 (tempF x.1.1 x.1.2.1))
theorem nodeB_c {h c : Int} (k : nodeB h c = true) : c ≠ 0 := by simp [nodeB] at k; omega
theorem temp_ok : PcOk Try.prog 14 temp := by
  refine pcOf_run (fun _ => EB_ok) Try.func14 rfl (by kernel_rfl) (fun _ => trivial) (fun _ => []) (fun _ => Nat.le_of_ble_eq_true rfl) (fun ⟨⟨h, c, ()⟩, ()⟩ hp hw => ?_)
  refine vc_of (q :=
      ∀ (b1 : Nat), (b1 = b1 ∧ (0 : Nat) = (0 : Nat)) ∧ ∀ (t1 : Bool), t1 = Heat.nodeB h c → ((!t1) = Bool.true → (0 : Int) = Heat.tempF h c) ∧ ((!t1) = Bool.false → (b1 = b1 ∧ (0 : Nat) = (0 : Nat)) ∧ c ≠ (0 : Int) ∧ ∀ (v1 : Int), v1 = Heat.warmF h c → v1 = Heat.tempF h c)) (by kernel_rfl) ?_
  simp [tempF]
  exact ⟨fun h => by simp [h], fun h => ⟨nodeB_c h, by simp [h]⟩⟩
theorem tempR_ok : PcOk Try.prog 15 temp := by
  refine pcOf_run (fun _ => EB_ok) Try.func15 rfl (by kernel_rfl) (fun _ => trivial) (fun _ => []) (fun _ => Nat.le_of_ble_eq_true rfl) (fun ⟨⟨h, c, ()⟩, ()⟩ hp hw => ?_)
  refine vc_of (q :=
      ∀ (b1 : Nat), (b1 = b1 ∧ (0 : Nat) = (0 : Nat)) ∧ ∀ (t1 : Bool), t1 = Heat.nodeB h c → ((!t1) = Bool.true → (0 : Int) = Heat.tempF h c) ∧ ((!t1) = Bool.false → (b1 = b1 ∧ (0 : Nat) = (0 : Nat)) ∧ c ≠ (0 : Int) ∧ ∀ (v1 : Int), v1 = Heat.warmF h c → v1 = Heat.tempF h c)) (by kernel_rfl) ?_
  simp [tempF]
  exact ⟨fun h => by simp [h], fun h => ⟨nodeB_c h, by simp [h]⟩⟩
end Heat
