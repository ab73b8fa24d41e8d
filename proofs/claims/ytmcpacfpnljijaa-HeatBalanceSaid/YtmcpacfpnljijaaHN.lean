/-
  OWN WORK. Heat: plain arithmetic of a whole tick.
-/
import Derived.Test.YtmcpacfpnljijaaHM
namespace Heat
open Go Go.Proofs Eng
set_option linter.unusedVariables false
set_option linter.unusedSimpArgs false

/-! ### sums -/
def S (f : Nat → Int) : Nat → Int
  | 0 => 0
  | k + 1 => S f k + f k
theorem S_congr {f g : Nat → Int} : ∀ n, (∀ i, i < n → f i = g i) → S f n = S g n
  | 0, _ => rfl
  | n + 1, h => by
    have h1 := S_congr n fun i hi => h i (by omega)
    have h2 := h n (by omega)
    simp only [S, h1, h2]
theorem S_le {f g : Nat → Int} : ∀ n, (∀ i, i < n → f i ≤ g i) → S f n ≤ S g n
  | 0, _ => Int.le_refl _
  | n + 1, h => by
    have h1 := S_le n fun i hi => h i (by omega)
    have h2 := h n (by omega)
    simp only [S]
    omega
theorem S_zero : ∀ n, S (fun _ => 0) n = 0
  | 0 => rfl
  | n + 1 => by simp only [S, S_zero n]; omega
theorem S_nonneg {f : Nat → Int} (n : Nat) (h : ∀ i, i < n → 0 ≤ f i) : 0 ≤ S f n := by
  have := S_le (f := fun _ => 0) (g := f) n h
  rw [S_zero] at this
  exact this
theorem S_upd {f : Nat → Int} {j : Nat} {v : Int} : ∀ n, S (fun k => if k = j then v else f k) n = S f n + if j < n then v - f j else 0
  | 0 => by simp [S]
  | n + 1 => by
    simp only [S]
    rw [S_upd n]
    by_cases h1 : n = j
    · subst h1
      rw [if_pos rfl, if_neg (by omega), if_pos (by omega)]
      omega
    · rw [if_neg h1]
      by_cases h2 : j < n
      · rw [if_pos h2, if_pos (by omega)]; omega
      · rw [if_neg h2, if_neg (by omega)]; omega
theorem S_one {f : Nat → Int} : ∀ n, (∀ i, i < n → 0 ≤ f i) → ∀ i, i < n → f i ≤ S f n
  | 0, _, i, hi => by omega
  | n + 1, h, i, hi => by
    have h1 := S_nonneg (f := f) n fun i hi => h i (by omega)
    have h2 := h n (by omega)
    simp only [S]
    by_cases e : i = n
    · subst e; omega
    · have := S_one n (fun i hi => h i (by omega)) i (by omega)
      omega
theorem S_bound {f : Nat → Int} {B : Int} : ∀ n : Nat, (∀ i, i < n → f i ≤ B) → S f n ≤ n * B
  | 0, _ => by simp [S]
  | n + 1, h => by
    have h1 := S_bound n fun i hi => h i (by omega)
    have h2 := h n (by omega)
    have e : ((n + 1 : Nat) : Int) * B = n * B + B := by rw [Int.natCast_add, Int.add_mul]; omega
    simp only [S]
    omega
abbrev hS (f : Nat → Node) (n : Nat) : Int := S (fun i => (f i).1) n
theorem setH_at (f : Nat → Node) (j : Nat) (v : Int) (i : Nat) : setH f j v i = if i = j then (v, (f i).2) else f i := by
  show ((if i = j then v else (f i).1), (f i).2) = _
  split <;> rfl
theorem hS_set {f : Nat → Node} {j : Nat} {v : Int} {n : Nat} (hj : j < n) : hS (setH f j v) n = hS f n + (v - (f j).1) := by
  have := S_upd (f := fun i => (f i).1) (j := j) (v := v) n
  rw [if_pos hj] at this
  exact this
theorem sumW_eq {f : Nat → Int} {B : Int} (hB : B ≤ 1099511627776) : ∀ n, n ≤ 16 → (∀ i, i < n → 0 ≤ f i ∧ f i ≤ B) → sumW f n = S f n
  | 0, _, _ => rfl
  | n + 1, hn, h => by
    have h1 := sumW_eq hB n (by omega) fun i hi => h i (by omega)
    have h2 := h n (by omega)
    have h3 := S_nonneg (f := f) n fun i hi => (h i (by omega)).1
    have h4 := S_bound (f := f) (B := 1099511627776) n fun i hi => Int.le_trans (h i (by omega)).2 hB
    have h5 : (n : Int) * 1099511627776 ≤ 16 * 1099511627776 := by omega
    simp only [S, sumW, h1]
    exact w64_of (by omega) (by omega)

/-! ### the heaters -/
theorem hRun_facts {pw : Bool} {nf : Nat → Node} {hf : Nat → Heater} {nn : Nat} (hnn : nn ≤ 16) (hn : ∀ i, i < nn → 0 ≤ (nf i).1 ∧ (nf i).1 ≤ 1099511627776) :
    ∀ k, k ≤ 8 → (∀ j, j < k → (0 ≤ (hf j).1 ∧ (hf j).1 < nn) ∧ 0 ≤ (hf j).2.1 ∧ (hf j).2.1 ≤ 1048576) →
      0 ≤ (hRun pw (nf, hf, 0) k).2.2 ∧ (hRun pw (nf, hf, 0) k).2.2 ≤ k * 1048576 ∧ hS (hRun pw (nf, hf, 0) k).1 nn = hS nf nn + (hRun pw (nf, hf, 0) k).2.2 ∧
      ∀ i, i < nn → (nf i).1 ≤ ((hRun pw (nf, hf, 0) k).1 i).1 ∧ ((hRun pw (nf, hf, 0) k).1 i).1 ≤ (nf i).1 + k * 1048576
  | 0, _, _ => ⟨Int.le_refl 0, by show (0 : Int) ≤ ((0 : Nat) : Int) * 1048576; decide, by show hS nf nn = hS nf nn + 0; omega, fun i hi => ⟨Int.le_refl _, by show (nf i).1 ≤ (nf i).1 + ((0 : Nat) : Int) * 1048576; omega⟩⟩
  | k + 1, hk, h => by
    obtain ⟨a1, a2, a3, a4⟩ := hRun_facts (pw := pw) hnn hn k (by omega) fun j hj => h j (by omega)
    have st := hRun_stat pw (nf, hf, 0) k
    obtain ⟨⟨b1, b2⟩, b3, b4⟩ := h k (by omega)
    have e1 := st.2.1 k
    have e2 := st.2.2.1 k
    dsimp only at e1 e2
    have hs : hRun pw (nf, hf, 0) (k + 1) = hRound pw (hRun pw (nf, hf, 0) k) k := rfl
    rw [hs]
    generalize hRun pw (nf, hf, 0) k = s at *
    have hj : (s.2.1 k).1.toNat < nn := by rw [e1]; omega
    have a5 := a4 _ hj
    have a6 := hn _ hj
    unfold hRound
    split
    · have ea : w64 ((s.1 (s.2.1 k).1.toNat).1 + (s.2.1 k).2.1) = (s.1 (s.2.1 k).1.toNat).1 + (s.2.1 k).2.1 := w64_of (by rw [e2]; omega) (by rw [e2]; omega)
      have eb : w64 (s.2.2 + (s.2.1 k).2.1) = s.2.2 + (s.2.1 k).2.1 := w64_of (by rw [e2]; omega) (by rw [e2]; omega)
      rw [ea, eb]
      dsimp only
      refine ⟨by rw [e2]; omega, by rw [e2]; omega, ?_, fun i hi => ?_⟩
      · rw [hS_set hj, a3, e2]; omega
      · have := a4 i hi
        try rw [setH_at]
        split
        · rename_i he; subst he; (try dsimp only); rw [e2]; omega
        · omega
    · dsimp only
      refine ⟨a1, by omega, a3, fun i hi => ?_⟩
      have := a4 i hi
      omega

/-! ### what comes in -/
theorem out_facts {q : Nat → Int} {f : Nat → Node} {nn : Nat} (hnn : nn ≤ 16) (hn : ∀ i, i < nn → 0 ≤ (f i).1 ∧ (f i).1 ≤ 2199023255552) (hq : ∀ i, i < nn → 0 ≤ q i ∧ q i ≤ 1048576) :
    ∀ k, k ≤ nn → 0 ≤ (tRun (outRound q) (f, 0) k).2 ∧ (tRun (outRound q) (f, 0) k).2 ≤ k * 1048576 ∧ hS (tRun (outRound q) (f, 0) k).1 nn = hS f nn + (tRun (outRound q) (f, 0) k).2 ∧
      ∀ i, i < nn → (f i).1 ≤ ((tRun (outRound q) (f, 0) k).1 i).1 ∧ ((tRun (outRound q) (f, 0) k).1 i).1 ≤ (f i).1 + k * 1048576
  | 0, _ => ⟨Int.le_refl 0, by show (0 : Int) ≤ ((0 : Nat) : Int) * 1048576; decide, by show hS f nn = hS f nn + 0; omega, fun i hi => ⟨Int.le_refl _, by show (f i).1 ≤ (f i).1 + ((0 : Nat) : Int) * 1048576; omega⟩⟩
  | k + 1, hk => by
    obtain ⟨a1, a2, a3, a4⟩ := out_facts hnn hn hq k (by omega)
    have hs : tRun (outRound q) (f, 0) (k + 1) = outRound q (tRun (outRound q) (f, 0) k) k := rfl
    rw [hs]
    generalize tRun (outRound q) (f, 0) k = s at *
    have hj : k < nn := hk
    have a5 := a4 _ hj
    have a6 := hn _ hj
    have a7 := hq _ hj
    unfold outRound
    have ea : w64 ((s.1 k).1 + q k) = (s.1 k).1 + q k := w64_of (by omega) (by omega)
    have eb : w64 (s.2 + q k) = s.2 + q k := w64_of (by omega) (by omega)
    rw [ea, eb]
    dsimp only
    refine ⟨by omega, by omega, ?_, fun i hi => ?_⟩
    · rw [hS_set hj, a3]; omega
    · have := a4 i hi
      try rw [setH_at]
      split
      · rename_i he; subst he; (try dsimp only); omega
      · omega

/-! ### what goes out -/
theorem lose_facts {g : Nat → Node → Int} {f : Nat → Node} {o : Int} {nn : Nat} (hnn : nn ≤ 16) (hn : ∀ i, i < nn → 0 ≤ g i (f i) ∧ g i (f i) ≤ (f i).1 ∧ (f i).1 ≤ 2199023255552) (ho : 0 ≤ o) (ho' : o ≤ 35184372088832) :
    ∀ k, k ≤ nn → o ≤ (tRun (fun s k => loseF s k (g k (s.1 k))) (f, o) k).2 ∧ (tRun (fun s k => loseF s k (g k (s.1 k))) (f, o) k).2 ≤ o + k * 2199023255552 ∧
      hS (tRun (fun s k => loseF s k (g k (s.1 k))) (f, o) k).1 nn = hS f nn + (o - (tRun (fun s k => loseF s k (g k (s.1 k))) (f, o) k).2) ∧
      (∀ i, i < k → (tRun (fun s k => loseF s k (g k (s.1 k))) (f, o) k).1 i = ((f i).1 - g i (f i), (f i).2)) ∧ ∀ i, k ≤ i → (tRun (fun s k => loseF s k (g k (s.1 k))) (f, o) k).1 i = f i
  | 0, _ => ⟨Int.le_refl o, by show o ≤ o + ((0 : Nat) : Int) * 2199023255552; omega, by show hS f nn = hS f nn + (o - o); omega, fun i hi => by omega, fun i hi => rfl⟩
  | k + 1, hk => by
    obtain ⟨a1, a2, a3, a4, a5⟩ := lose_facts hnn hn ho ho' k (by omega)
    have hs : tRun (fun s k => loseF s k (g k (s.1 k))) (f, o) (k + 1) = loseF (tRun (fun s k => loseF s k (g k (s.1 k))) (f, o) k) k (g k ((tRun (fun s k => loseF s k (g k (s.1 k))) (f, o) k).1 k)) := rfl
    rw [hs]
    generalize tRun (fun s k => loseF s k (g k (s.1 k))) (f, o) k = s at *
    have hj : k < nn := hk
    have e := a5 k (Nat.le_refl k)
    obtain ⟨b1, b2, b3⟩ := hn k hj
    rw [e]
    unfold loseF
    rw [e]
    have ea : w64 ((f k).1 - g k (f k)) = (f k).1 - g k (f k) := w64_of (by omega) (by omega)
    have eb : w64 (s.2 + g k (f k)) = s.2 + g k (f k) := w64_of (by omega) (by omega)
    rw [ea, eb]
    dsimp only
    refine ⟨by omega, by omega, ?_, fun i hi => ?_, fun i hi => ?_⟩
    · rw [hS_set hj, a3, e]; omega
    · by_cases he : i = k
      · subst he; rw [setH_at, if_pos rfl, e]
      · rw [setH_at, if_neg he]; exact a4 i (by omega)
    · rw [setH_at, if_neg (by omega)]; exact a5 i (by omega)
theorem glow_nonneg {rate kelv : Int} (r0 : 0 ≤ rate) (r1 : rate ≤ 1048576) (k0 : 0 ≤ kelv) (k1 : kelv ≤ 1048) : 0 ≤ glowF rate kelv := by
  have m1 := mul_le2 k0 k0 k1 k1
  have m2 := mul_le2 r0 m1.1 r1 m1.2
  have m3 := mul_le2 m2.1 m1.1 m2.2 m1.2
  unfold glowF
  rw [w64_of (x := kelv * kelv) (by omega) (by omega), w64_of (x := rate * (kelv * kelv)) (by omega) (by omega), w64_of (x := rate * (kelv * kelv) * (kelv * kelv)) (by omega) (by omega)]
  exact Int.fdiv_nonneg m3.1 (by decide)
theorem rad_facts {h c rate : Int} (h0 : 0 ≤ h) (h1 : 1000 * h ≤ 4398046511104) (hc : 0 < c) (r0 : 0 ≤ rate) (r1 : rate ≤ 1048576) : 0 ≤ radQ (h, c, ()) rate ∧ radQ (h, c, ()) rate ≤ h := by
  obtain ⟨w1, w2, w3, w4⟩ := warm_facts h0 h1 hc
  have hk : 0 ≤ kelvF (h, c, ()) ∧ kelvF (h, c, ()) ≤ 1048 := by
    unfold kelvF
    dsimp only
    rw [Int.tdiv_eq_ediv_of_nonneg (by omega), w64_of (by omega) (by omega)]
    split <;> omega
  have := glow_nonneg r0 r1 hk.1 hk.2
  unfold radQ
  dsimp only
  split <;> omega
theorem lim_facts {h c : Int} (h0 : 0 ≤ h) (h1 : h ≤ 2199023255552) (hc : 0 < c) (hc' : c ≤ 1048576) : 0 ≤ limQ (h, c, ()) ∧ limQ (h, c, ()) ≤ h ∧ nodeB (h - limQ (h, c, ())) c = true := by
  have m1 := most_eq hc hc'
  have hl : limQ (h, c, ()) = if c * 1048576 / 1000 < h then h - c * 1048576 / 1000 else 0 := by
    unfold limQ
    dsimp only
    rw [m1, w64_of (by omega) (by omega)]
    split <;> split <;> omega
  have : 0 ≤ limQ (h, c, ()) ∧ limQ (h, c, ()) ≤ h ∧ h - limQ (h, c, ()) ≤ c * 1048576 / 1000 := by
    rw [hl]; split <;> omega
  exact ⟨this.1, this.2.1, nodeB_of hc hc' (by omega) (by omega)⟩

/-! ### conduction -/
def over (nd : Node) : Int := if 0 < 1000 * nd.1 - nd.2.1 * 1048577 then 1000 * nd.1 - nd.2.1 * 1048577 else 0
abbrev oS (f : Nat → Node) (n : Nat) : Int := S (fun i => over (f i)) n
theorem over_nonneg (nd : Node) : 0 ≤ over nd := by unfold over; split <;> omega
theorem over_ge (nd : Node) : 1000 * nd.1 - nd.2.1 * 1048577 ≤ over nd := by unfold over; split <;> omega
theorem over_cases (nd : Node) : over nd = 0 ∨ over nd = 1000 * nd.1 - nd.2.1 * 1048577 ∧ 0 < over nd := by unfold over; split <;> simp <;> omega
/-- A flow from the warmer node a to the node b. -/
theorem over_flow {ha ca hb cb q : Int} (hca : 0 < ca) (hcb : 0 < cb) (hcb' : cb ≤ 1048576) (h1 : 0 ≤ ha) (h1' : 1000 * ha ≤ 4398046511104) (h2 : 0 ≤ hb) (h2' : 1000 * hb ≤ 4398046511104) (hd : 0 ≤ warmF ha ca - warmF hb cb)
    (q0 : 0 ≤ q) (q1 : q ≤ ha) (hq : 1000 * q * (ca + cb) ≤ (warmF ha ca - warmF hb cb) * ca * cb) : over (ha - q, ca, ()) + over (hb + q, cb, ()) ≤ over (ha, ca, ()) + over (hb, cb, ()) + 1048576 := by
  obtain ⟨w1, w2, w3, w4⟩ := warm_facts h1 h1' hca
  obtain ⟨x1, x2, x3, x4⟩ := warm_facts h2 h2' hcb
  generalize warmF ha ca = Ta at *
  generalize warmF hb cb = Tb at *
  -- if the second comes above the bound, the first one stays above it, nearly
  have key : 0 ≤ 1000 * (ha - q) - ca * 1048577 ∨ 1000 * (hb + q) - cb * 1048577 < cb := by
    apply Decidable.byContradiction
    intro hn
    simp only [not_or, Int.not_le, Int.not_lt] at hn
    obtain ⟨n1, n2⟩ := hn
    have p : 0 < ca * cb := Int.mul_pos hca hcb
    have g1 := Int.mul_le_mul_of_nonneg_right w3 (Int.le_of_lt hcb)
    have g2 := Int.mul_lt_mul_of_pos_right x4 hca
    have g3 := Int.mul_lt_mul_of_pos_right n1 hcb
    have g4 := Int.mul_le_mul_of_nonneg_right n2 (Int.le_of_lt hca)
    grind
  have o1 := over_nonneg (ha, ca, ())
  have o2 := over_nonneg (hb, cb, ())
  have o3 := over_ge (ha, ca, ())
  have o4 := over_ge (hb, cb, ())
  have c1 := over_cases (ha - q, ca, ())
  have c2 := over_cases (hb + q, cb, ())
  dsimp only at o1 o2 o3 o4 c1 c2
  rcases c1 with c1 | c1 <;> rcases c2 with c2 | c2 <;> rcases key with k | k <;> omega
abbrev Nodes (c : Nat → Int) (f : Nat → Node) : Prop := ∀ i, (f i).2.1 = c i
theorem eta_node (x : Node) {c : Int} (h : x.2.1 = c) : x = (x.1, c, ()) := by
  obtain ⟨h', c', ⟨⟩⟩ := x
  subst h
  rfl
/-- q heat goes from the node i to the node j. -/
theorem move_facts {f : Nat → Node} {nn i j : Nat} {q : Int} (hi : i < nn) (hj : j < nn) (hij : i ≠ j) (q0 : 0 ≤ q) (q1 : q ≤ (f i).1) (hb : ∀ i, i < nn → 0 ≤ (f i).1 ∧ 1000 * (f i).1 ≤ 4398046511104)
    (ho : over ((f i).1 - q, (f i).2.1, ()) + over ((f j).1 + q, (f j).2.1, ()) ≤ over (f i) + over (f j) + 1048576) :
    hS (moveF f i j q) nn = hS f nn ∧ oS (moveF f i j q) nn ≤ oS f nn + 1048576 ∧ ∀ k, k < nn → 0 ≤ (moveF f i j q k).1 := by
  have a := hb i hi
  have b := hb j hj
  have e1 : w64 ((f i).1 - q) = (f i).1 - q := w64_of (by omega) (by omega)
  have e2 : (setH f i ((f i).1 - q) j).1 = (f j).1 := by rw [setH_at, if_neg (Ne.symm hij)]
  have e3 : w64 ((f j).1 + q) = (f j).1 + q := w64_of (by omega) (by omega)
  have em : moveF f i j q = setH (setH f i ((f i).1 - q)) j ((f j).1 + q) := by
    unfold moveF
    rw [e1]
    dsimp only at e2 ⊢
    rw [e2, e3]
  rw [em]
  refine ⟨?_, ?_, fun k hk => ?_⟩
  · rw [hS_set hj, hS_set hi, e2]; omega
  · have p1 : (fun k => over (setH (setH f i ((f i).1 - q)) j ((f j).1 + q) k)) = fun k => if k = j then over ((f j).1 + q, (f j).2.1, ()) else (fun k => if k = i then over ((f i).1 - q, (f i).2.1, ()) else over (f k)) k := by
      funext k
      rw [setH_at (setH f i ((f i).1 - q)) j, setH_at f i _ k]
      by_cases h1 : k = j
      · subst h1; rw [if_pos rfl, if_pos rfl, if_neg (Ne.symm hij)]
      · rw [if_neg h1, if_neg h1]
        dsimp only
        by_cases h2 : k = i
        · subst h2; rw [if_pos rfl, if_pos rfl]
        · rw [if_neg h2, if_neg h2]
    show S (fun k => over (setH (setH f i ((f i).1 - q)) j ((f j).1 + q) k)) nn ≤ _
    rw [p1, S_upd, S_upd (f := fun k => over (f k)) (j := i), if_pos hi, if_pos hj]
    rw [if_neg (Ne.symm hij)]
    show S (fun k => over (f k)) nn + _ + _ ≤ S (fun k => over (f k)) nn + 1048576
    omega
  · rw [setH_at, setH_at]
    have := hb k hk
    split
    · dsimp only; omega
    · split
      · dsimp only; omega
      · exact this.1
theorem over_single {f : Nat → Node} {nn i : Nat} (hi : i < nn) : over (f i) ≤ oS f nn := S_one nn (fun k _ => over_nonneg _) i hi
/-- The nodes while heat flows. -/
structure Mid (f : Nat → Node) (nn : Nat) (B : Int) : Prop where
  cap : ∀ i, i < nn → 0 < (f i).2.1 ∧ (f i).2.1 ≤ 1048576
  pos : ∀ i, i < nn → 0 ≤ (f i).1
  ov : oS f nn ≤ B
theorem Mid.small {f : Nat → Node} {nn : Nat} {B : Int} (m : Mid f nn B) (hB : B ≤ 1099511627776) (i : Nat) (hi : i < nn) : 1000 * (f i).1 ≤ 4398046511104 := by
  have h1 := over_single (f := f) hi
  have h2 := m.ov
  have h3 := m.cap i hi
  unfold over at h1
  split at h1 <;> omega
theorem cond_facts {p : Nat → Path} {f : Nat → Node} {nn k : Nat} {B : Int} (m : Mid f nn B) (hB : B ≤ 1099511627776) (hp : pathF nn (p k) = true) :
    hS (condRound p f k) nn = hS f nn ∧ Mid (condRound p f k) nn (B + 1048576) := by
  simp only [pathF, hasF, withinF, Bool.and_eq_true, decide_eq_true_eq, bne_iff_ne] at hp
  obtain ⟨⟨⟨⟨a0, a1⟩, b0, b1⟩, hne⟩, k0, k1⟩ := hp
  have hi : (p k).1.toNat < nn := by omega
  have hj : (p k).2.1.toNat < nn := by omega
  have hij : (p k).1.toNat ≠ (p k).2.1.toNat := by omega
  have hb : ∀ i, i < nn → 0 ≤ (f i).1 ∧ 1000 * (f i).1 ≤ 4398046511104 := fun i hi => ⟨m.pos i hi, m.small hB i hi⟩
  have st := condRound_stat p f k
  have main : hS (condRound p f k) nn = hS f nn ∧ oS (condRound p f k) nn ≤ oS f nn + 1048576 ∧ ∀ i, i < nn → 0 ≤ (condRound p f k i).1 := by
    unfold condRound
    generalize (p k).1.toNat = i at *
    generalize (p k).2.1.toNat = j at *
    generalize (p k).2.2.1 = cd at *
    obtain ⟨ci0, ci1⟩ := m.cap i hi
    obtain ⟨cj0, cj1⟩ := m.cap j hj
    obtain ⟨hi0, hi1⟩ := hb i hi
    obtain ⟨hj0, hj1⟩ := hb j hj
    obtain ⟨w1, w2, w3, w4⟩ := warm_facts hi0 hi1 ci0
    obtain ⟨x1, x2, x3, x4⟩ := warm_facts hj0 hj1 cj0
    have ei := eta_node (f i) rfl
    have ej := eta_node (f j) rfl
    rw [w64_of (x := warmF (f i).1 (f i).2.1 - warmF (f j).1 (f j).2.1) (by omega) (by omega), w64_of (x := -(warmF (f i).1 (f i).2.1 - warmF (f j).1 (f j).2.1)) (by omega) (by omega)]
    split
    · rename_i hlt
      have hdc : -(warmF (f i).1 (f i).2.1 - warmF (f j).1 (f j).2.1) * (f j).2.1 ≤ 1000 * (f j).1 := by
        have : warmF (f i).1 (f i).2.1 * (f j).2.1 ≥ 0 := Int.mul_nonneg w1 (by omega)
        rw [Int.neg_sub, Int.sub_mul]
        omega
      obtain ⟨q1, q2, q3⟩ := flow_facts (hb := (f i).1) hj0 hj1 cj0 cj1 ci0 ci1 k0 k1 (by omega) hdc
      rw [← ei, ← ej] at q1 q2 q3
      generalize flowQ (-(warmF (f i).1 (f i).2.1 - warmF (f j).1 (f j).2.1)) (f j) (f i) cd = q at *
      have ho := over_flow cj0 ci0 ci1 hj0 hj1 hi0 hi1 (by omega) q1 q2 (by rw [Int.neg_sub] at q3; exact q3)
      rw [← ei, ← ej] at ho
      exact move_facts hj hi (Ne.symm hij) q1 q2 hb ho
    · rename_i hge
      have hdc : (warmF (f i).1 (f i).2.1 - warmF (f j).1 (f j).2.1) * (f i).2.1 ≤ 1000 * (f i).1 := by
        have : warmF (f j).1 (f j).2.1 * (f i).2.1 ≥ 0 := Int.mul_nonneg x1 (by omega)
        rw [Int.sub_mul]
        omega
      obtain ⟨q1, q2, q3⟩ := flow_facts (hb := (f j).1) hi0 hi1 ci0 ci1 cj0 cj1 k0 k1 (by omega) hdc
      rw [← ei, ← ej] at q1 q2 q3
      generalize flowQ (warmF (f i).1 (f i).2.1 - warmF (f j).1 (f j).2.1) (f i) (f j) cd = q at *
      have ho := over_flow ci0 cj0 cj1 hi0 hi1 hj0 hj1 (by omega) q1 q2 q3
      rw [← ei, ← ej] at ho
      exact move_facts hi hj hij q1 q2 hb ho
  exact ⟨main.1, fun i hi => by rw [st]; exact m.cap i hi, main.2.2, by have := m.ov; omega⟩
theorem cRun_facts {p : Nat → Path} {f : Nat → Node} {nn : Nat} {B : Int} (m : Mid f nn B) (hB : B ≤ 549755813888) : ∀ k, k ≤ 32 → (∀ j, j < k → pathF nn (p j) = true) → hS (cRun p f k) nn = hS f nn ∧ Mid (cRun p f k) nn (B + k * 1048576)
  | 0, _, _ => ⟨rfl, by show Mid f nn (B + ((0 : Nat) : Int) * 1048576); rw [show B + ((0 : Nat) : Int) * 1048576 = B by omega]; exact m⟩
  | k + 1, hk, hp => by
    obtain ⟨h1, h2⟩ := cRun_facts m hB k (by omega) fun j hj => hp j (by omega)
    obtain ⟨h3, h4⟩ := cond_facts h2 (by omega) (hp k (by omega))
    refine ⟨h3.trans h1, ?_⟩
    show Mid (condRound p (cRun p f k) k) nn _
    rw [show B + ((k + 1 : Nat) : Int) * 1048576 = B + k * 1048576 + 1048576 by omega]
    exact h4
/-! ### a whole tick -/
theorem over_old {nd : Node} {h0 : Int} (h1 : 1000 * h0 ≤ nd.2.1 * 1048576) (hc : 0 < nd.2.1) (h2 : h0 ≤ nd.1) : over nd ≤ 1000 * (nd.1 - h0) := by
  unfold over
  split <;> omega
theorem over_mono {nd nd' : Node} (h1 : nd'.2.1 = nd.2.1) (h2 : nd'.1 ≤ nd.1) : over nd' ≤ over nd := by
  unfold over
  rw [h1]
  split <;> split <;> omega
theorem S_scale {f g : Nat → Int} (c : Int) : ∀ n, S (fun i => c * (f i - g i)) n = c * (S f n - S g n)
  | 0 => by simp [S]
  | n + 1 => by
    simp only [S]
    rw [S_scale c n, ← Int.mul_add]
    congr 1
    omega
/-- What a tick does with the whole. -/
theorem tick_facts {t : Thermal} {q : RowD Int} {pw : Bool} (hB : stepB t q = true) :
    checkB t = true ∧ q.n = t.1.n ∧ (0 ≤ (st2 t q pw).2 ∧ (st2 t q pw).2 ≤ 16777216) ∧ (0 ≤ (st1 t pw).2.2 ∧ (st1 t pw).2.2 ≤ 8388608) ∧ (0 ≤ (st5 t q pw).2 ∧ (st5 t q pw).2 ≤ 70368744177664) ∧
      hS (st5 t q pw).1 t.1.n = hS t.1.f t.1.n + (st2 t q pw).2 + (st1 t pw).2.2 - (st5 t q pw).2 ∧ ∀ i, i < t.1.n → nodeB ((st5 t q pw).1 i).1 ((st5 t q pw).1 i).2.1 = true := by
  unfold stepB at hB
  simp only [Bool.and_eq_true, decide_eq_true_eq] at hB
  obtain ⟨⟨hc, hqn⟩, hq⟩ := hB
  obtain ⟨⟨s1, s2, s3, s4, s5⟩, n1, n2, n3, n4⟩ := (checkB_iff t).1 hc
  have d1 := allB_true.1 n1
  have d2 := allB_true.1 n2
  have d3 := allB_true.1 n3
  have d4 := allB_true.1 n4
  have d5 := allB_true.1 hq
  refine ⟨hc, hqn, ?_⟩
  have c0 : ∀ i, i < t.1.n → 0 < (t.1.f i).2.1 ∧ (t.1.f i).2.1 ≤ 1048576 ∧ 0 ≤ (t.1.f i).1 ∧ 1000 * (t.1.f i).1 ≤ (t.1.f i).2.1 * 1048576 := fun i hi => node_facts (d1 i hi)
  have g1 : ∀ i, ((st1 t pw).1 i).2 = (t.1.f i).2 := (hRun_stat pw (t.1.f, t.2.2.1.f, 0) t.2.2.1.n).1
  have g2 : ∀ i, ((st2 t q pw).1 i).2 = (t.1.f i).2 := fun i => (tRun_stat (out_stat q.f) _ _ i).trans (g1 i)
  have g3 : ∀ i, ((st3 t q pw).1 i).2 = (t.1.f i).2 := fun i => (tRun_stat (rad_stat t.2.2.2.1.f) _ _ i).trans (g2 i)
  obtain ⟨a1, a2, a3, a4⟩ := hRun_facts (pw := pw) (hf := t.2.2.1.f) (nf := t.1.f) s2 (fun i hi => by have := c0 i hi; omega) t.2.2.1.n s4 (fun j hj => by
    have := d4 j hj
    simp only [heaterF, hasF, withinF, Bool.and_eq_true, decide_eq_true_eq] at this
    omega)
  change 0 ≤ (st1 t pw).2.2 at a1
  change (st1 t pw).2.2 ≤ _ at a2
  change hS (st1 t pw).1 _ = _ + (st1 t pw).2.2 at a3
  change ∀ i, i < t.1.n → (t.1.f i).1 ≤ ((st1 t pw).1 i).1 ∧ ((st1 t pw).1 i).1 ≤ _ at a4
  obtain ⟨b1, b2, b3, b4⟩ := out_facts (q := q.f) (f := (st1 t pw).1) s2 (fun i hi => by have := c0 i hi; have := a4 i hi; omega) (fun i hi => by
    have := d5 i (by omega)
    simpa [withinF] using this) q.n (by omega)
  change 0 ≤ (st2 t q pw).2 at b1
  change (st2 t q pw).2 ≤ _ at b2
  change hS (st2 t q pw).1 _ = _ + (st2 t q pw).2 at b3
  change ∀ i, i < t.1.n → _ ≤ ((st2 t q pw).1 i).1 ∧ ((st2 t q pw).1 i).1 ≤ _ at b4
  have rad : ∀ i, i < t.1.n → 0 ≤ radQ ((st2 t q pw).1 i) (t.2.2.2.1.f i) ∧ radQ ((st2 t q pw).1 i) (t.2.2.2.1.f i) ≤ ((st2 t q pw).1 i).1 ∧ ((st2 t q pw).1 i).1 ≤ 2199023255552 := fun i hi => by
    have h1 := c0 i hi
    have h2 := a4 i hi
    have h3 := b4 i hi
    have h4 := d2 i (by omega)
    simp only [withinF, decide_eq_true_eq] at h4
    have e := eta_node ((st2 t q pw).1 i) rfl
    have h5 := rad_facts (h := ((st2 t q pw).1 i).1) (c := ((st2 t q pw).1 i).2.1) (by omega) (by omega) (by rw [g2]; omega) h4.1 h4.2
    rw [← e] at h5
    exact ⟨h5.1, h5.2, by omega⟩
  obtain ⟨r1, r2, r3, r4, r5⟩ := lose_facts (g := fun i nd => radQ nd (t.2.2.2.1.f i)) (f := (st2 t q pw).1) (o := 0) s2 rad (by omega) (by omega) t.2.2.2.1.n (by omega)
  change 0 ≤ (st3 t q pw).2 at r1
  change (st3 t q pw).2 ≤ _ at r2
  change hS (st3 t q pw).1 _ = _ + (0 - (st3 t q pw).2) at r3
  change ∀ i, i < t.2.2.2.1.n → (st3 t q pw).1 i = _ at r4
  have m3 : Mid (st3 t q pw).1 t.1.n (1000 * ((st2 t q pw).2 + (st1 t pw).2.2)) := by
    refine ⟨fun i hi => by rw [g3]; have := c0 i hi; omega, fun i hi => ?_, ?_⟩
    · rw [r4 i (by omega)]
      have := rad i hi
      dsimp only
      omega
    · have o1 : oS (st3 t q pw).1 t.1.n ≤ S (fun i => 1000 * (((st2 t q pw).1 i).1 - (t.1.f i).1)) t.1.n := S_le _ fun i hi => by
        have h1 := c0 i hi
        have h2 := a4 i hi
        have h3 := b4 i hi
        have h4 : over ((st3 t q pw).1 i) ≤ over ((st2 t q pw).1 i) := over_mono ((congrArg Prod.fst (g3 i)).trans (congrArg Prod.fst (g2 i)).symm) (by
          rw [r4 i (by omega)]
          have := rad i hi
          dsimp only
          omega)
        refine Int.le_trans h4 (over_old (by rw [g2]; exact h1.2.2.2) (by rw [g2]; exact h1.1) (by omega))
      rw [S_scale] at o1
      rw [show S (fun i => ((st2 t q pw).1 i).1) t.1.n = hS t.1.f t.1.n + (st1 t pw).2.2 + (st2 t q pw).2 by show hS (st2 t q pw).1 t.1.n = _; rw [b3, a3]] at o1
      have e0 : S (fun i => (t.1.f i).1) t.1.n = hS t.1.f t.1.n := rfl
      rw [e0] at o1
      omega
  obtain ⟨k1, k2⟩ := cRun_facts (p := t.2.1.f) m3 (by omega) t.2.1.n s3 d3
  change hS (st4 t q pw) _ = _ at k1
  change Mid (st4 t q pw) _ _ at k2
  have hsm := k2.small (by omega)
  have lim : ∀ i, i < t.1.n → 0 ≤ limQ (st4 t q pw i) ∧ limQ (st4 t q pw i) ≤ (st4 t q pw i).1 ∧ (st4 t q pw i).1 ≤ 2199023255552 := fun i hi => by
    have e := eta_node (st4 t q pw i) rfl
    have h1 := lim_facts (h := (st4 t q pw i).1) (c := (st4 t q pw i).2.1) (k2.pos i hi) (by have := hsm i hi; omega) (k2.cap i hi).1 (k2.cap i hi).2
    rw [← e] at h1
    exact ⟨h1.1, h1.2.1, by have := hsm i hi; omega⟩
  obtain ⟨l1, l2, l3, l4, l5⟩ := lose_facts (g := fun i nd => limQ nd) (f := st4 t q pw) (o := (st3 t q pw).2) s2 lim r1 (by omega) t.1.n (Nat.le_refl _)
  change _ ≤ (st5 t q pw).2 at l1
  change (st5 t q pw).2 ≤ _ at l2
  change hS (st5 t q pw).1 _ = _ + (_ - (st5 t q pw).2) at l3
  change ∀ i, i < t.1.n → (st5 t q pw).1 i = _ at l4
  refine ⟨⟨b1, by omega⟩, ⟨a1, by omega⟩, ⟨by omega, by omega⟩, by omega, fun i hi => ?_⟩
  rw [l4 i hi]
  have e := eta_node (st4 t q pw i) rfl
  have h1 := lim_facts (h := (st4 t q pw i).1) (c := (st4 t q pw i).2.1) (k2.pos i hi) (by have := hsm i hi; omega) (k2.cap i hi).1 (k2.cap i hi).2
  rw [← e] at h1
  exact h1.2.2
end Heat
