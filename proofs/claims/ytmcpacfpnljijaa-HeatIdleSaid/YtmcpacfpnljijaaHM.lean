/-
  OWN WORK. Heat: plain arithmetic.
-/
import Derived.Test.YtmcpacfpnljijaaH9
namespace Heat
open Go Go.Proofs Eng
set_option linter.unusedVariables false
set_option linter.unusedSimpArgs false

theorem w64_of {x : Int} (h1 : -9223372036854775808 ≤ x) (h2 : x ≤ 9223372036854775807) : w64 x = x := w64_id h1 h2
theorem mul_le2 {a b A B : Int} (ha : 0 ≤ a) (hb : 0 ≤ b) (h1 : a ≤ A) (h2 : b ≤ B) : 0 ≤ a * b ∧ a * b ≤ A * B :=
  ⟨Int.mul_nonneg ha hb, Int.mul_le_mul h1 h2 hb (Int.le_trans ha h1)⟩
/-- A node that is valid. -/
theorem node_facts {h c : Int} (k : nodeB h c = true) : 0 < c ∧ c ≤ 1048576 ∧ 0 ≤ h ∧ 1000 * h ≤ c * 1048576 := by
  simp only [nodeB, decide_eq_true_eq] at k
  obtain ⟨k1, k2, k3, k4⟩ := k
  refine ⟨k1, k2, k3, ?_⟩
  unfold mostF at k4
  rw [w64_of (x := c * 1048576) (by omega) (by omega), Int.tdiv_eq_ediv_of_nonneg (by omega), w64_of (by omega) (by omega)] at k4
  omega
theorem most_eq {c : Int} (h1 : 0 < c) (h2 : c ≤ 1048576) : mostF c = c * 1048576 / 1000 := by
  unfold mostF
  rw [w64_of (x := c * 1048576) (by omega) (by omega), Int.tdiv_eq_ediv_of_nonneg (by omega), w64_of (by omega) (by omega)]
/-- The temperature of a node that is not too hot. -/
theorem warm_eq {h c : Int} (h1 : 0 ≤ h) (h2 : 1000 * h ≤ 4398046511104) (hc : 0 < c) : warmF h c = 1000 * h / c := by
  have h3 : 0 ≤ 1000 * h / c := Int.ediv_nonneg (by omega) (by omega)
  have h4 : 1000 * h / c ≤ 1000 * h := Int.ediv_le_self _ (by omega)
  unfold warmF
  rw [w64_of (x := 1000 * h) (by omega) (by omega), Int.tdiv_eq_ediv_of_nonneg (by omega), w64_of (by omega) (by omega)]
theorem warm_facts {h c : Int} (h1 : 0 ≤ h) (h2 : 1000 * h ≤ 4398046511104) (hc : 0 < c) : 0 ≤ warmF h c ∧ warmF h c ≤ 4398046511104 ∧ warmF h c * c ≤ 1000 * h ∧ 1000 * h < warmF h c * c + c := by
  rw [warm_eq h1 h2 hc]
  have h3 : 0 ≤ 1000 * h / c := Int.ediv_nonneg (by omega) (by omega)
  have h4 : 1000 * h / c ≤ 1000 * h := Int.ediv_le_self _ (by omega)
  refine ⟨h3, by omega, Int.ediv_mul_le _ (by omega), ?_⟩
  have := Int.lt_ediv_add_one_mul_self (1000 * h) hc
  rw [Int.add_mul, Int.one_mul] at this
  exact this
theorem flow_facts {d ha ca hb cb conduct : Int} (h1 : 0 ≤ ha) (h2 : 1000 * ha ≤ 4398046511104) (hca : 0 < ca) (hca' : ca ≤ 1048576) (hcb : 0 < cb) (hcb' : cb ≤ 1048576)
    (hk : 0 ≤ conduct) (hk' : conduct ≤ 1048576) (hd : 0 ≤ d) (hd' : d * ca ≤ 1000 * ha) :
    0 ≤ flowQ d (ha, ca, ()) (hb, cb, ()) conduct ∧ flowQ d (ha, ca, ()) (hb, cb, ()) conduct ≤ ha ∧ 1000 * flowQ d (ha, ca, ()) (hb, cb, ()) conduct * (ca + cb) ≤ d * ca * cb := by
  have hdd : d ≤ 4398046511104 := by
    have : d * 1 ≤ d * ca := Int.mul_le_mul_of_nonneg_left (by omega) hd
    omega
  have m1 := mul_le2 hk hd hk' hdd
  have m2' := mul_le2 (a := d * ca) (b := cb) (Int.mul_nonneg hd (by omega)) (by omega) (Int.le_trans hd' h2) hcb'
  have m3 : 0 ≤ d * ca := Int.mul_nonneg hd (by omega)
  unfold flowQ
  dsimp only
  rw [w64_of (x := conduct * d) (by omega) (by omega), w64_of (x := d * ca) (by omega) (by omega), w64_of (x := d * ca * cb) (by omega) (by omega),
    w64_of (x := ca + cb) (by omega) (by omega), w64_of (x := 1000 * (ca + cb)) (by omega) (by omega),
    Int.tdiv_eq_ediv_of_nonneg (by omega), Int.tdiv_eq_ediv_of_nonneg (by omega)]
  have e1 : 0 ≤ d * ca * cb / (1000 * (ca + cb)) := Int.ediv_nonneg (by omega) (by omega)
  have e2 : d * ca * cb / (1000 * (ca + cb)) ≤ d * ca * cb := Int.ediv_le_self _ (by omega)
  have e3 : d * ca * cb / (1000 * (ca + cb)) * (1000 * (ca + cb)) ≤ d * ca * cb := Int.ediv_mul_le _ (by omega)
  rw [w64_of (x := conduct * d / 1000) (by omega) (by omega), w64_of (x := d * ca * cb / (1000 * (ca + cb))) (by omega) (by omega)]
  generalize d * ca * cb / (1000 * (ca + cb)) = e at *
  have key : ∀ q, 0 ≤ q → q ≤ e → 1000 * q * (ca + cb) ≤ d * ca * cb := fun q hq hqe => by
    have : q * (1000 * (ca + cb)) ≤ e * (1000 * (ca + cb)) := Int.mul_le_mul_of_nonneg_right hqe (by omega)
    have h' : 1000 * q * (ca + cb) = q * (1000 * (ca + cb)) := by rw [Int.mul_comm 1000 q, Int.mul_assoc]
    omega
  unfold m2
  split <;> split
  all_goals first
    | exact ⟨by omega, by omega, key _ (by omega) (by omega)⟩
theorem near {ha ca hb cb q Ta Tb Ta' Tb' : Int} (hca : 0 < ca) (hcb : 0 < cb) (a1 : Ta * ca ≤ 1000 * ha) (b2 : 1000 * hb < Tb * cb + cb) (hq : 1000 * q * (ca + cb) ≤ (Ta - Tb) * ca * cb)
    (a4 : 1000 * (ha - q) < Ta' * ca + ca) (b3 : Tb' * cb ≤ 1000 * (hb + q)) : Tb' ≤ Ta' + 1 := by
  apply Int.not_lt.1
  intro hn
  have p : 0 < ca * cb := Int.mul_pos hca hcb
  have h1 := Int.mul_le_mul_of_nonneg_right a1 (Int.le_of_lt hcb)
  have h2 := Int.mul_lt_mul_of_pos_right b2 hca
  have h3 := Int.mul_lt_mul_of_pos_right a4 hcb
  have h4 := Int.mul_le_mul_of_nonneg_right b3 (Int.le_of_lt hca)
  have h5 : (Ta' + 2) * (ca * cb) ≤ Tb' * (ca * cb) := Int.mul_le_mul_of_nonneg_right (by omega) (Int.le_of_lt p)
  grind
theorem nodeB_of {h c : Int} (h1 : 0 < c) (h2 : c ≤ 1048576) (h3 : 0 ≤ h) (h4 : 1000 * h ≤ c * 1048576) : nodeB h c = true := by
  simp only [nodeB, decide_eq_true_eq, most_eq h1 h2]
  omega
theorem limQ_zero {h c : Int} (h1 : 0 < c) (h2 : c ≤ 1048576) (h3 : 0 ≤ h) (h4 : 1000 * h ≤ c * 1048576) : limQ (h, c, ()) = 0 := by
  unfold limQ
  dsimp only
  rw [most_eq h1 h2, w64_of (by omega) (by omega), if_neg (by omega)]
theorem radQ_zero {h c : Int} (h3 : 0 ≤ h) : radQ (h, c, ()) 0 = 0 := by
  have e : ∀ k, glowF 0 k = 0 := fun k => by
    unfold glowF
    rw [Int.zero_mul, show w64 0 = 0 from by decide, Int.zero_mul, show w64 0 = 0 from by decide]
    decide
  unfold radQ
  rw [e]
  dsimp only
  split <;> omega
/-- Two nodes with a path: what a tick does. -/
theorem pair_flow {ha ca hb cb conduct : Int} (va : nodeB ha ca = true) (vb : nodeB hb cb = true) (hk : 0 ≤ conduct) (hk' : conduct ≤ 1048576) (ta : warmF ha ca < 1048575)
    (hd : 0 ≤ warmF ha ca - warmF hb cb) : ∃ q, flowQ (warmF ha ca - warmF hb cb) (ha, ca, ()) (hb, cb, ()) conduct = q ∧ 0 ≤ q ∧ q ≤ ha ∧ 1000 * (hb + q) ≤ cb * 1048576 ∧
      warmF (hb + q) cb ≤ warmF (ha - q) ca + 1 ∧ warmF (ha - q) ca ≤ warmF ha ca ∧ warmF hb cb ≤ warmF (hb + q) cb := by
  obtain ⟨a1, a2, a3, a4⟩ := node_facts va
  obtain ⟨b1, b2, b3, b4⟩ := node_facts vb
  obtain ⟨w1, w2, w3, w4⟩ := warm_facts a3 (by omega) a1
  obtain ⟨x1, x2, x3, x4⟩ := warm_facts b3 (by omega) b1
  have hdc : (warmF ha ca - warmF hb cb) * ca ≤ 1000 * ha := by
    have : warmF hb cb * ca ≥ 0 := Int.mul_nonneg x1 (by omega)
    rw [Int.sub_mul]
    omega
  obtain ⟨q1, q2, q3⟩ := flow_facts (hb := hb) a3 (by omega) a1 a2 b1 b2 hk hk' hd hdc
  generalize flowQ (warmF ha ca - warmF hb cb) (ha, ca, ()) (hb, cb, ()) conduct = q at *
  obtain ⟨y1, y2, y3, y4⟩ := warm_facts (h := ha - q) (c := ca) (by omega) (by omega) a1
  obtain ⟨z1, z2, z3, z4⟩ := warm_facts (h := hb + q) (c := cb) (by omega) (by omega) b1
  have hn := near a1 b1 w3 x4 q3 y4 z3
  have m1 : warmF (ha - q) ca ≤ warmF ha ca := by
    rw [warm_eq (h := ha - q) (by omega) (by omega) a1, warm_eq (h := ha) a3 (by omega) a1]
    exact Int.ediv_le_ediv a1 (by omega)
  have m2 : warmF hb cb ≤ warmF (hb + q) cb := by
    rw [warm_eq (h := hb + q) (by omega) (by omega) b1, warm_eq (h := hb) b3 (by omega) b1]
    exact Int.ediv_le_ediv b1 (by omega)
  refine ⟨q, rfl, q1, q2, ?_, hn, m1, m2⟩
  have : (warmF (hb + q) cb + 1) * cb ≤ 1048576 * cb := Int.mul_le_mul_of_nonneg_right (by omega) (by omega)
  rw [Int.add_mul] at this
  omega
abbrev pT (b1 b2 b3 : Nat) (ha ca hb cb conduct : Int) : Thermal := (⟨b1, 0, 2, 2, false, fun k => (if k = 0 then ha else hb, if k = 0 then ca else cb, ())⟩, ⟨b3, 0, 1, 1, false, fun k => (0, 1, conduct, ())⟩, ⟨0, 0, 0, 0, true, fun x => (0, 0, 0, 0, false, ())⟩, ⟨b2, 0, 2, 2, false, fun k => 0⟩, ())
abbrev pQ (b5 : Nat) : RowD Int := ⟨b5, 0, 2, 2, false, fun k => 0⟩
theorem pair_st {b1 b2 b3 b5 : Nat} {ha ca hb cb conduct : Int} (va : nodeB ha ca = true) (vb : nodeB hb cb = true) : (st1 (pT b1 b2 b3 ha ca hb cb conduct) true).2.2 = 0 ∧ (st2 (pT b1 b2 b3 ha ca hb cb conduct) (pQ b5) true).2 = 0 ∧
    (st3 (pT b1 b2 b3 ha ca hb cb conduct) (pQ b5) true).2 = 0 ∧ (st3 (pT b1 b2 b3 ha ca hb cb conduct) (pQ b5) true).1 0 = (ha, ca, ()) ∧ (st3 (pT b1 b2 b3 ha ca hb cb conduct) (pQ b5) true).1 1 = (hb, cb, ()) := by
  obtain ⟨a1, a2, a3, a4⟩ := node_facts va
  obtain ⟨c1, c2, c3, c4⟩ := node_facts vb
  have z : w64 0 = 0 := by decide
  have ea : w64 ha = ha := w64_of (by omega) (by omega)
  have eb : w64 hb = hb := w64_of (by omega) (by omega)
  refine ⟨rfl, by simp [st2, tRun, outRound, z], ?_, ?_, ?_⟩
  · simp [st3, st2, st1, hRun, tRun, outRound, radRound, loseF, setH, z, ea, eb, radQ_zero a3, radQ_zero c3]
  · simp [st3, st2, st1, hRun, tRun, outRound, radRound, loseF, setH, z, ea, eb, radQ_zero a3, radQ_zero c3]
  · simp [st3, st2, st1, hRun, tRun, outRound, radRound, loseF, setH, z, ea, eb, radQ_zero a3, radQ_zero c3]
/-- Two nodes with a path alone: what a tick does. -/
theorem pair_step {b1 b2 b3 b5 : Nat} {ha ca hb cb conduct : Int} (va : nodeB ha ca = true) (vb : nodeB hb cb = true) (hk : 0 ≤ conduct) (hk' : conduct ≤ 1048576) (ta : warmF ha ca < 1048575) (tb : warmF hb cb < 1048575) :
    (st1 (pT b1 b2 b3 ha ca hb cb conduct) true).2.2 = 0 ∧ (st2 (pT b1 b2 b3 ha ca hb cb conduct) (pQ b5) true).2 = 0 ∧ (st5 (pT b1 b2 b3 ha ca hb cb conduct) (pQ b5) true).2 = 0 ∧
    ∃ ha' hb', (st5 (pT b1 b2 b3 ha ca hb cb conduct) (pQ b5) true).1 0 = (ha', ca, ()) ∧ (st5 (pT b1 b2 b3 ha ca hb cb conduct) (pQ b5) true).1 1 = (hb', cb, ()) ∧ nodeB ha' ca = true ∧ nodeB hb' cb = true ∧ ha' + hb' = ha + hb ∧
      (0 ≤ warmF ha ca - warmF hb cb → warmF hb' cb ≤ warmF ha' ca + 1 ∧ warmF ha' ca ≤ warmF ha ca ∧ warmF hb cb ≤ warmF hb' cb ∧ ha' ≤ ha) ∧
      (warmF ha ca - warmF hb cb < 0 → warmF ha' ca ≤ warmF hb' cb + 1 ∧ warmF hb' cb ≤ warmF hb cb ∧ warmF ha ca ≤ warmF ha' ca ∧ ha ≤ ha') := by
  obtain ⟨e1, e2, e3, e4, e5⟩ := pair_st (b1 := b1) (b2 := b2) (b3 := b3) (b5 := b5) (conduct := conduct) va vb
  obtain ⟨a1, a2, a3, a4⟩ := node_facts va
  obtain ⟨c1, c2, c3, c4⟩ := node_facts vb
  obtain ⟨w1, w2, w3, w4⟩ := warm_facts a3 (by omega) a1
  obtain ⟨x1, x2, x3, x4⟩ := warm_facts c3 (by omega) c1
  refine ⟨e1, e2, ?_⟩
  have h4 : st4 (pT b1 b2 b3 ha ca hb cb conduct) (pQ b5) true = condRound (fun k => (0, 1, conduct, ())) (st3 (pT b1 b2 b3 ha ca hb cb conduct) (pQ b5) true).1 0 := rfl
  have h5 : st5 (pT b1 b2 b3 ha ca hb cb conduct) (pQ b5) true = limRound (limRound (st4 (pT b1 b2 b3 ha ca hb cb conduct) (pQ b5) true, (st3 (pT b1 b2 b3 ha ca hb cb conduct) (pQ b5) true).2) 0) 1 := rfl
  rw [h5, e3, h4]
  generalize (st3 (pT b1 b2 b3 ha ca hb cb conduct) (pQ b5) true).1 = g at *
  have z : w64 0 = 0 := by decide
  have hw1 : w64 (warmF ha ca - warmF hb cb) = warmF ha ca - warmF hb cb := w64_of (by omega) (by omega)
  have hw2 : w64 (-(warmF ha ca - warmF hb cb)) = -(warmF ha ca - warmF hb cb) := w64_of (by omega) (by omega)
  -- two nodes that are within the bounds stay so
  have fin : ∀ (f : Nat → Node) (x y : Int), f 0 = (x, ca, ()) → f 1 = (y, cb, ()) → 0 ≤ x → 1000 * x ≤ ca * 1048576 → 0 ≤ y → 1000 * y ≤ cb * 1048576 →
      (limRound (limRound (f, 0) 0) 1).2 = 0 ∧ (limRound (limRound (f, 0) 0) 1).1 0 = (x, ca, ()) ∧ (limRound (limRound (f, 0) 0) 1).1 1 = (y, cb, ()) := fun f x y f0 f1 x1 x2 y1 y2 => by
    have ex : w64 x = x := w64_of (by omega) (by omega)
    have ey : w64 y = y := w64_of (by omega) (by omega)
    simp [limRound, loseF, setH, f0, f1, limQ_zero a1 a2 x1 x2, limQ_zero c1 c2 y1 y2, z, ex, ey]
  by_cases hd : warmF ha ca - warmF hb cb < 0
  · obtain ⟨q, q0, q1, q2, q3, q4, q5, q6⟩ := pair_flow (conduct := conduct) vb va hk hk' tb (by omega)
    have q0' : flowQ (-(warmF ha ca - warmF hb cb)) (hb, cb, ()) (ha, ca, ()) conduct = q := by rw [← q0]; congr 1; omega
    have f0 : condRound (fun k => (0, 1, conduct, ())) g 0 0 = (ha + q, ca, ()) := by
      have ee : w64 (ha + q) = ha + q := w64_of (by omega) (by omega)
      simp [condRound, e4, e5, hw1, hw2, hd, moveF, setH, q0', ee]
    have f1 : condRound (fun k => (0, 1, conduct, ())) g 0 1 = (hb - q, cb, ()) := by
      have ee : w64 (hb - q) = hb - q := w64_of (by omega) (by omega)
      simp [condRound, e4, e5, hw1, hw2, hd, moveF, setH, q0', ee]
    obtain ⟨r1, r2, r3⟩ := fin _ _ _ f0 f1 (by omega) q3 (by omega) (by omega)
    refine ⟨r1, ha + q, hb - q, r2, r3, nodeB_of a1 a2 (by omega) q3, nodeB_of c1 c2 (by omega) (by omega), by omega, fun h => absurd hd (by omega), fun _ => ⟨q4, q5, q6, by omega⟩⟩
  · obtain ⟨q, q0, q1, q2, q3, q4, q5, q6⟩ := pair_flow (conduct := conduct) va vb hk hk' ta (by omega)
    have f0 : condRound (fun k => (0, 1, conduct, ())) g 0 0 = (ha - q, ca, ()) := by
      have ee : w64 (ha - q) = ha - q := w64_of (by omega) (by omega)
      simp [condRound, e4, e5, hw1, hw2, hd, moveF, setH, q0, ee]
    have f1 : condRound (fun k => (0, 1, conduct, ())) g 0 1 = (hb + q, cb, ()) := by
      have ee : w64 (hb + q) = hb + q := w64_of (by omega) (by omega)
      simp [condRound, e4, e5, hw1, hw2, hd, moveF, setH, q0, ee]
    obtain ⟨r1, r2, r3⟩ := fin _ _ _ f0 f1 (by omega) (by omega) (by omega) q3
    refine ⟨r1, ha - q, hb + q, r2, r3, nodeB_of a1 a2 (by omega) (by omega), nodeB_of c1 c2 (by omega) q3, by omega, fun _ => ⟨q4, q5, q6, by omega⟩, fun h => absurd h hd⟩
theorem heat_step {h ca power low : Int} {on : Bool} {b1 o1 c1 b2 o2 c2 b3 o3 c3 b4 o4 c4 b7 : Nat} (va : nodeB h ca = true) (hp0 : 0 ≤ power) (hp1 : power ≤ 1048576) (T : Thermal) (Q : RowD Int)
    (hT : T = (⟨b1, o1, 1, c1, false, fun _ => (h, ca, ())⟩, ⟨b2, o2, 0, c2, true, fun _ => (0, 0, 0, ())⟩, ⟨b3, o3, 1, c3, false, fun _ => (0, power, low, low, on, ())⟩, ⟨b4, o4, 1, c4, false, fun _ => 0⟩, ())) (hQ : Q = ⟨b7, 0, 1, 1, false, fun _ => 0⟩) :
    ∃ d lim, d = (if onF (h, ca, ()) (0, power, low, low, on, ()) then power else 0) ∧ (st5 T Q true).1 0 = (h + d - lim, ca, ()) ∧ (st5 T Q true).2 = lim ∧ nodeB (h + d - lim) ca = true ∧ 0 ≤ lim ∧ lim ≤ h + d ∧
      (st1 T true).2.1 0 = (0, power, low, low, onF (h, ca, ()) (0, power, low, low, on, ()), ()) := by
  obtain ⟨a1, a2, a3, a4⟩ := node_facts va
  have z : w64 0 = 0 := by decide
  refine ⟨_, limQ (h + (if onF (h, ca, ()) (0, power, low, low, on, ()) then power else 0), ca, ()), rfl, ?_⟩
  generalize hon : onF (h, ca, ()) (0, power, low, low, on, ()) = b
  have e0 : st1 T true = (setH (fun _ => (h, ca, ())) 0 (h + (if b then power else 0)), setOn (fun _ => (0, power, low, low, on, ())) 0 b, if b then power else 0) ∨ (b = false ∧ st1 T true = ((fun _ => (h, ca, ())), setOn (fun _ => (0, power, low, low, on, ())) 0 b, 0)) := by
    have ee : w64 (h + power) = h + power := w64_of (by omega) (by omega)
    have e2 : w64 power = power := w64_of (by omega) (by omega)
    subst hT
    cases b with
    | true => exact .inl (by simp [st1, hRun, hRound, hon, ee, e2])
    | false => exact .inr ⟨rfl, by simp [st1, hRun, hRound, hon]⟩
  generalize hd : (if b then power else 0) = d at *
  have d0 : 0 ≤ d := by cases b <;> simp at hd <;> omega
  have d1 : d ≤ 1048576 := by cases b <;> simp at hd <;> omega
  have e1 : (st1 T true).1 0 = (h + d, ca, ()) := by
    rcases e0 with e0 | ⟨hb, e0⟩
    · rw [e0]; simp
    · rw [e0]; subst hb; simp at hd; subst hd; simp
  have e2 : (st2 T Q true).1 0 = (h + d, ca, ()) := by
    have ee : w64 (h + d) = h + d := w64_of (by omega) (by omega)
    subst hQ
    simp [st2, tRun, outRound, setH, e1, ee]
  have e3 : (st3 T Q true).1 0 = (h + d, ca, ()) ∧ (st3 T Q true).2 = 0 := by
    have ee : w64 (h + d) = h + d := w64_of (by omega) (by omega)
    have : T.2.2.2.1 = ⟨b4, o4, 1, c4, false, fun _ => 0⟩ := by subst hT; rfl
    unfold st3
    rw [this]
    simp [tRun, radRound, loseF, setH, e2, ee, radQ_zero (h := h + d) (c := ca) (by omega), z]
  have e4 : st4 T Q true = (st3 T Q true).1 := by subst hT; rfl
  have e5 : st5 T Q true = limRound (st4 T Q true, (st3 T Q true).2) 0 := by subst hT; rfl
  have m1 : mostF ca = ca * 1048576 / 1000 := most_eq a1 a2
  have hl : limQ (h + d, ca, ()) = if ca * 1048576 / 1000 < h + d then h + d - ca * 1048576 / 1000 else 0 := by
    unfold limQ
    dsimp only
    rw [m1, w64_of (by omega) (by omega)]
    split <;> split <;> omega
  have hl2 : 0 ≤ limQ (h + d, ca, ()) ∧ limQ (h + d, ca, ()) ≤ h + d ∧ h + d - limQ (h + d, ca, ()) ≤ ca * 1048576 / 1000 := by
    rw [hl]; split <;> omega
  have ee : w64 (h + d - limQ (h + d, ca, ())) = h + d - limQ (h + d, ca, ()) := w64_of (by omega) (by omega)
  have e6 : w64 (limQ (h + d, ca, ())) = limQ (h + d, ca, ()) := w64_of (by omega) (by omega)
  refine ⟨?_, ?_, ?_, hl2.1, hl2.2.1, ?_⟩
  · rw [e5, e4]; simp [limRound, loseF, setH, e3, ee]
  · rw [e5, e4]; simp [limRound, loseF, setH, e3, e6]
  · exact nodeB_of a1 a2 (by omega) (by omega)
  · rcases e0 with e0 | ⟨hb, e0⟩ <;> rw [e0] <;> simp
end Heat
