/-
  OWN WORK. Heat: the law HeatIdle, plainly.
-/
import Derived.Test.YtmcpacfpnljijaaHR
import Derived.Test.YtmcpacfpnljijaaHM
namespace Heat
open Go Go.Proofs Eng
set_option linter.unusedVariables false
set_option linter.unusedSimpArgs false
set_option maxHeartbeats 4000000
set_option maxRecDepth 100000

/-- The model that is ticked: no paths, nothing radiated. -/
def idleT (t : Thermal) : Thermal := (⟨0, 0, t.1.n, 0, false, t.1.f⟩, ⟨0, 0, 0, 0, true, fun _ => (0, 0, 0, ())⟩, ⟨0, 0, t.2.2.1.n, 0, false, t.2.2.1.f⟩, ⟨0, 0, t.2.2.2.1.n, 0, false, fun i => if i < t.2.2.2.1.n then 0 else t.2.2.2.1.f i⟩, ())
def zeroR (n : Nat) : RowD Int := ⟨0, 0, n, 0, false, fun _ => 0⟩
def idB (t : Thermal) : Bool := stepB (idleT t) (zeroR t.1.n)
def idN (t : Thermal) : Nat → Node := (st5 (idleT t) (zeroR t.1.n) false).1
def idH (t : Thermal) : Nat → Heater := (st1 (idleT t) false).2.1
def onF' (h g : Heater) : Heater := (h.1, h.2.1, h.2.2.1, h.2.2.2.1, g.2.2.2.2.1, ())
theorem setH_same (f : Nat → Node) (k : Nat) {h : Int} (e : h = (f k).1) : setH f k h = f := by
  funext i
  unfold setH
  split
  · rename_i q
    subst q
    rw [e]
  · rfl
theorem tRun_same {st : TS → Nat → TS} {s : TS} : ∀ (n : Nat), (∀ k, k < n → st s k = s) → tRun st s n = s
  | 0, _ => rfl
  | n + 1, h => by
    show st (tRun st s n) n = s
    rw [tRun_same n fun k hk => h k (by omega)]
    exact h n (by omega)
theorem hRun_off (s : HS) : ∀ n, (hRun false s n).1 = s.1 ∧ (hRun false s n).2.2 = s.2.2
  | 0 => ⟨rfl, rfl⟩
  | n + 1 => by
    obtain ⟨h1, h2⟩ := hRun_off s n
    show (hRound false (hRun false s n) n).1 = _ ∧ (hRound false (hRun false s n) n).2.2 = _
    unfold hRound
    rw [Bool.and_false, if_neg (by decide)]
    exact ⟨h1, h2⟩
theorem glow_zero (k : Int) : glowF 0 k = 0 := by
  unfold glowF
  have : w64 (0 * w64 (k * k)) = 0 := by rw [Int.zero_mul]; decide
  rw [this, Int.zero_mul]
  decide
theorem idle_facts {t : Thermal} (h : idB t = true) : idN t = t.1.f ∧ (st2 (idleT t) (zeroR t.1.n) false).2 = 0 ∧ (st1 (idleT t) false).2.2 = 0 ∧ (st5 (idleT t) (zeroR t.1.n) false).2 = 0 := by
  unfold idB stepB at h
  simp only [Bool.and_eq_true] at h
  obtain ⟨⟨hc, _⟩, _⟩ := h
  obtain ⟨⟨s1, s2, s3, s4, s5⟩, n1, _, _, _⟩ := (checkB_iff _).1 hc
  have hr : (idleT t).2.2.2.1.n = t.1.n := s5
  have hnode : ∀ i, i < t.1.n → 0 < (t.1.f i).2.1 ∧ (t.1.f i).2.1 ≤ 1048576 ∧ 0 ≤ (t.1.f i).1 ∧ (t.1.f i).1 ≤ mostF (t.1.f i).2.1 ∧ (t.1.f i).1 ≤ 1099511627776 := fun i hi => by
    have hb := allB_true.1 n1 i hi
    have hf : 0 < (t.1.f i).2.1 ∧ (t.1.f i).2.1 ≤ 1048576 ∧ 0 ≤ (t.1.f i).1 ∧ 1000 * (t.1.f i).1 ≤ (t.1.f i).2.1 * 1048576 := node_facts hb
    simp only [nodeB, decide_eq_true_eq] at hb
    obtain ⟨k1, k2, k3, k4⟩ := hb
    exact ⟨k1, k2, k3, k4, by omega⟩
  obtain ⟨a1, a2⟩ := hRun_off (t.1.f, t.2.2.1.f, 0) t.2.2.1.n
  have e1 : (st1 (idleT t) false).1 = t.1.f := a1
  have e1' : (st1 (idleT t) false).2.2 = 0 := a2
  have e2 : st2 (idleT t) (zeroR t.1.n) false = (t.1.f, 0) := by
    unfold st2
    rw [e1]
    refine tRun_same _ fun k hk => ?_
    have hk : k < t.1.n := hk
    obtain ⟨_, _, c1, _, c2⟩ := hnode k hk
    unfold outRound
    dsimp only
    rw [show (zeroR t.1.n).f k = 0 from rfl, setH_same _ _ (by rw [Int.add_zero]; exact w64_of (by omega) (by omega))]
    rfl
  have e3 : st3 (idleT t) (zeroR t.1.n) false = (t.1.f, 0) := by
    unfold st3
    rw [e2]
    refine tRun_same _ fun k hk => ?_
    have hk' : k < t.2.2.2.1.n := hk
    have hk : k < t.1.n := by rw [← hr]; exact hk
    obtain ⟨_, _, c1, _, c2⟩ := hnode k hk
    have hq : radQ (t.1.f k) ((idleT t).2.2.2.1.f k) = 0 := by
      have : (idleT t).2.2.2.1.f k = 0 := if_pos hk'
      rw [this]
      unfold radQ
      rw [glow_zero]
      split <;> omega
    unfold radRound
    dsimp only
    rw [hq]
    unfold loseF
    dsimp only
    rw [setH_same _ _ (by rw [Int.sub_zero]; exact w64_of (by omega) (by omega))]
    rfl
  have e4 : st4 (idleT t) (zeroR t.1.n) false = t.1.f := by
    unfold st4
    rw [e3]
    rfl
  have e5 : st5 (idleT t) (zeroR t.1.n) false = (t.1.f, 0) := by
    unfold st5
    rw [e4, e3]
    refine tRun_same _ fun k hk => ?_
    have hk : k < t.1.n := hk
    obtain ⟨b1, b2, c1, c3, c2⟩ := hnode k hk
    have hm := most_eq b1 b2
    have hq : limQ (t.1.f k) = 0 := by
      unfold limQ
      rw [w64_of (by omega) (by omega), if_neg (by omega)]
    unfold limRound
    dsimp only
    rw [hq]
    unfold loseF
    dsimp only
    rw [setH_same _ _ (by rw [Int.sub_zero]; exact w64_of (by omega) (by omega))]
    rfl
  exact ⟨by unfold idN; rw [e5], by rw [e2], e1', by rw [e5]⟩
theorem idle_heat (t : Thermal) (i : Nat) : onF' (idH t i) (t.2.2.1.f i) = t.2.2.1.f i := by
  obtain ⟨_, h1, h2, h3, h4⟩ := hRun_stat false (t.1.f, t.2.2.1.f, 0) t.2.2.1.n
  unfold onF' idH st1
  refine Prod.ext (h1 i) (Prod.ext (h2 i) (Prod.ext (h3 i) (Prod.ext (h4 i) rfl)))
theorem idB_check (t : Thermal) : idB t = checkB (idleT t) := by
  unfold idB stepB
  have h1 : decide ((zeroR t.1.n).n = (idleT t).1.n) = true := decide_eq_true rfl
  have h2 : allB (fun k => withinF ((zeroR t.1.n).f k)) (zeroR t.1.n).n = true := allB_true.2 fun k _ => (by decide : withinF 0 = true)
  rw [h1, h2, Bool.and_true, Bool.and_true]
/-- What a model that is idle is compared with. -/
theorem idle_same {t u v : Thermal} (hB : idB t = true) (u1 : u.1.n = t.1.n) (v1 : v.1.n = t.1.n) (u2 : u.2.1.n = 0) (v2 : v.2.1.n = 0) (u3 : u.2.2.1.n = t.2.2.1.n) (v3 : v.2.2.1.n = t.2.2.1.n) (u4 : u.2.2.2.1.n = t.2.2.2.1.n) (v4 : v.2.2.2.1.n = t.2.2.2.1.n)
    (f1 : ∀ i, u.1.f i = idN t i) (g1 : ∀ i, v.1.f i = t.1.f i) (f3 : ∀ i, i < t.2.2.1.n → u.2.2.1.f i = onF' (idH t i) (t.2.2.1.f i)) (g3 : ∀ i, v.2.2.1.f i = t.2.2.1.f i) (f4 : ∀ i, i < t.2.2.2.1.n → u.2.2.2.1.f i = v.2.2.2.1.f i) : sameB u v = true := by
  obtain ⟨hn, _⟩ := idle_facts hB
  unfold sameB longsB
  rw [u1, v1, u2, v2, u3, v3, u4, v4]
  rw [eqTo_yes (p := fun i => u.2.2.2.1.f i == v.2.2.2.1.f i) fun i hi => by rw [f4 i hi]; simp]
  rw [eqTo_yes (p := fun i => nodeEq (u.1.f i) (v.1.f i)) fun i hi => by rw [f1 i, g1 i, hn]; unfold nodeEq; simp]
  rw [eqTo_yes (p := fun i => heatEq (u.2.2.1.f i) (v.2.2.1.f i)) fun i hi => by rw [f3 i hi, g3 i, idle_heat]; unfold heatEq; simp]
  simp [eqTo]
end Heat
