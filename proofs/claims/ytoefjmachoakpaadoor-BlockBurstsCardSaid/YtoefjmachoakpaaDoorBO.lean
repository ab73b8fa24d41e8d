/-
  OWN WORK. Block: what the elimination does, plainly.
-/
import Derived.Test.YtoefjmachoakpaaDoorBK
namespace Galois
open Go Go.Proofs Eng
set_option linter.unusedVariables false
set_option linter.unusedSimpArgs false
set_option maxRecDepth 100000

/-- The rows' sums are zero. -/
def kerV (A : Mat) (n m : Nat) (v : Nat → Nat) : Prop := ∀ j, j < n → X (fun c => gmul (A j c) (v c)) m = 0
theorem ker_swap {A : Mat} {n m i k : Nat} {v : Nat → Nat} (hi : i < n) (hk : k < n) : kerV (swapM A i k) n m v ↔ kerV A n m v := by
  have e1 : ∀ j c, swapM A i k j c = A (if j = k then i else if j = i then k else j) c := fun j c => by
    unfold swapM
    split
    · rfl
    · split <;> rfl
  constructor
  · intro h j hj
    by_cases q : j = i
    · have := h k hk
      simp only [e1, if_true] at this
      rw [q]; exact this
    · by_cases q2 : j = k
      · have := h i hi
        simp only [e1] at this
        by_cases q3 : i = k
        · exact absurd (q2.trans q3.symm) q
        · rw [if_neg q3] at this
          simp only [if_true] at this
          rw [q2]; exact this
      · have := h j hj
        simp only [e1] at this
        rw [if_neg q2, if_neg q] at this
        exact this
  · intro h j hj
    simp only [e1]
    refine h _ ?_
    split
    · exact hi
    · split
      · exact hk
      · exact hj
theorem X_lt' {f : Nat → Nat} (h : ∀ j, f j < 256) (n : Nat) : X f n < 256 := X_lt n fun j _ => h j
theorem ker_elim {S : Mat} (hS : byteM S) {n m i : Nat} {v : Nat → Nat} (hv : ∀ c, v c < 256) (hi : i < n) (hp : S i i ≠ 0) : kerV (elimM S i n) n m v ↔ kerV S n m v := by
  have hd : gdiv 1 (S i i) < 256 := gdiv_lt _ _
  have hd0 : gdiv 1 (S i i) ≠ 0 := fun e => by
    have := gdiv_mul (a := 1) (b := S i i) (by decide) (hS i i) hp
    rw [e, gzero_mul (hS i i)] at this
    cases this
  have hu : X (fun c => gmul (unitR S i c) (v c)) m = gmul (gdiv 1 (S i i)) (X (fun c => gmul (S i c) (v c)) m) := by
    rw [← X_mul]
    exact X_congr m fun c _ => by unfold unitR; rw [gmul_assoc _ hd (hS i c)]
  have hul := fun c => unitR_lt hS i c
  have hj : ∀ j, j < n → j ≠ i → X (fun c => gmul (elimM S i n j c) (v c)) m = Nat.xor (X (fun c => gmul (S j c) (v c)) m) (gmul (S j i) (X (fun c => gmul (unitR S i c) (v c)) m)) := fun j hj q => by
    rw [← X_mul, ← X_xor]
    exact X_congr m fun c _ => by
      unfold elimM
      rw [if_neg q, if_pos hj, gmul_lin _ (hS j c) (gmul_lt (hS j i)), gmul_assoc _ (hS j i) (hul c)]
  have hi0 : X (fun c => gmul (elimM S i n i c) (v c)) m = X (fun c => gmul (unitR S i c) (v c)) m := X_congr m fun c _ => by unfold elimM; rw [if_pos rfl]
  have hXl : ∀ j, X (fun c => gmul (S j c) (v c)) m < 256 := fun j => X_lt' (fun c => gmul_lt (hS j c)) m
  constructor
  · intro h
    have h1 := h i hi
    rw [hi0, hu] at h1
    have h2 : X (fun c => gmul (S i c) (v c)) m = 0 := by
      by_cases e : X (fun c => gmul (S i c) (v c)) m = 0
      · exact e
      · exact (gmul_ne hd (hXl i) hd0 e h1).elim
    intro j hjn
    by_cases q : j = i
    · rw [q]; exact h2
    · have h3 := h j hjn
      rw [hj j hjn q, hu, h2, gmul_zero, gmul_zero, xor0] at h3
      exact h3
  · intro h j hjn
    by_cases q : j = i
    · rw [q, hi0, hu, h i hi, gmul_zero]
    · rw [hj j hjn q, hu, h i hi, gmul_zero, gmul_zero, xor0, h j hjn]
/-- Each round that finds a row keeps what is sent to zero. -/
theorem ker_rounds {A : Mat} (hA : byteM A) {n m : Nat} {v : Nat → Nat} (hv : ∀ c, v c < 256) : ∀ i, i ≤ n → goodM A n i = true → (kerV (roundsM A n i) n m v ↔ kerV A n m v)
  | 0, _, _ => Iff.rfl
  | i + 1, hi, hg => by
    simp only [goodM, Bool.and_eq_true, decide_eq_true_eq] at hg
    obtain ⟨p1, p2, p3⟩ := pivK_lt (show i < n by omega) hg.2
    have hb := roundsM_byte hA n i
    rw [← ker_rounds hA hv i (by omega) hg.1]
    show kerV (elimM (swapM (roundsM A n i) i (pivK (roundsM A n i) n i)) i n) n m v ↔ _
    rw [ker_elim (swapM_byte hb _ _) hv (by omega) (by
      unfold swapM
      by_cases q : i = pivK (roundsM A n i) n i
      · rw [if_pos q, q]
        rw [← q] at p3 ⊢
        exact p3
      · rw [if_neg q, if_pos rfl]
        exact p3), ker_swap (by omega) p2]
/-- The columns that are done. -/
theorem unit_rounds {A : Mat} (hA : byteM A) {n : Nat} : ∀ i, i ≤ n → goodM A n i = true → ∀ c, c < i → ∀ j, j < n → roundsM A n i j c = if j = c then 1 else 0
  | 0, _, _ => fun c hc => by omega
  | i + 1, hi, hg => by
    simp only [goodM, Bool.and_eq_true, decide_eq_true_eq] at hg
    obtain ⟨p1, p2, p3⟩ := pivK_lt (show i < n by omega) hg.2
    have hb := roundsM_byte hA n i
    have ih := unit_rounds hA i (by omega) hg.1
    intro c hc j hj
    show elimM (swapM (roundsM A n i) i (pivK (roundsM A n i) n i)) i n j c = _
    generalize hk : pivK (roundsM A n i) n i = k at *
    generalize hR : roundsM A n i = R at *
    have hsb := swapM_byte hb i k
    have hpiv : swapM R i k i i ≠ 0 := by
      unfold swapM
      by_cases q : i = k
      · rw [if_pos q]; rw [← q] at p3; exact p3
      · rw [if_neg q, if_pos rfl]; exact p3
    by_cases hci : c = i
    · subst hci
      have hdm := gdiv_mul (a := 1) (b := swapM R c k c c) (by decide) (hsb c c) hpiv
      unfold elimM unitR
      by_cases q : j = c
      · rw [if_pos q, if_pos q, hdm]
      · rw [if_neg q, if_neg q, if_pos hj, hdm, gmul_one (hsb j c)]
        exact Nat.xor_self _
    · have hc' : c < i := by omega
      have hs : ∀ j, j < n → swapM R i k j c = if j = c then 1 else 0 := fun j hj => by
        unfold swapM
        by_cases q : j = k
        · rw [if_pos q, ih c hc' i (by omega), if_neg (by omega), if_neg (by omega)]
        · rw [if_neg q]
          by_cases q2 : j = i
          · rw [if_pos q2, ih c hc' k p2, if_neg (by omega), if_neg (by omega)]
          · rw [if_neg q2, ih c hc' j hj]
      have hu0 : unitR (swapM R i k) i c = 0 := by
        unfold unitR
        rw [hs i (by omega), if_neg (by omega), gmul_zero]
      unfold elimM
      by_cases q : j = i
      · rw [if_pos q, hu0, if_neg (by omega)]
      · rw [if_neg q, if_pos hj, hu0, gmul_zero, xor0, hs j hj]
/-- A row of units. -/
theorem X_unit {f v : Nat → Nat} {n k : Nat} (hk : k < n) (hv : ∀ c, v c < 256) (h : ∀ c, c < n → f c = if k = c then 1 else 0) : X (fun c => gmul (f c) (v c)) n = v k := by
  rw [X_one (a := k) n hk fun c hc hne => by rw [h c hc, if_neg (by omega), gzero_mul (hv c)], h k hk, if_pos rfl, gone_mul (hv k)]
/-- A solution is the one that is found. -/
theorem sol_unique {A : Mat} (hA : byteM A) {n : Nat} {v : Nat → Nat} (hv : ∀ c, v c < 256) (h1 : v n = 1) (hg : goodM A n n = true) (h : kerV A n (n + 1) v) : ∀ k, k < n → v k = solN A n k := fun k hk => by
  have hR := (ker_rounds hA hv n (Nat.le_refl _) hg).2 h k hk
  have hu := unit_rounds hA n (Nat.le_refl _) hg
  have hb := roundsM_byte hA n n
  have hX : Nat.xor (X (fun c => gmul (roundsM A n n k c) (v c)) n) (gmul (roundsM A n n k n) (v n)) = 0 := hR
  rw [X_unit hk hv fun c hc => hu c hc k hk, h1, gmul_one (hb k n)] at hX
  show v k = roundsM A n n k n
  by_cases e : v k = roundsM A n n k n
  · exact e
  · exact (xor_ne e hX).elim
/-- What is found is a solution. -/
theorem sol_ker {A : Mat} (hA : byteM A) {n : Nat} (hg : goodM A n n = true) : kerV A n (n + 1) (fun c => if c < n then solN A n c else 1) := by
  have hb := roundsM_byte hA n n
  have hv : ∀ c, (fun c => if c < n then solN A n c else 1) c < 256 := fun c => by
    dsimp only
    split
    · exact hb _ _
    · decide
  refine (ker_rounds hA hv n (Nat.le_refl _) hg).1 fun k hk => ?_
  have hu := unit_rounds hA n (Nat.le_refl _) hg
  show Nat.xor (X (fun c => gmul (roundsM A n n k c) _) n) (gmul (roundsM A n n k n) _) = 0
  rw [X_unit hk hv fun c hc => hu c hc k hk]
  dsimp only
  rw [if_pos hk, if_neg (Nat.lt_irrefl _), gmul_one (hb k n)]
  exact Nat.xor_self _
/-- Where nothing but zero is sent to zero, each round finds a row. -/
theorem good_of {A : Mat} (hA : byteM A) {n : Nat} (h : ∀ v : Nat → Nat, (∀ c, v c < 256) → kerV A n n v → ∀ c, c < n → v c = 0) : ∀ i, i ≤ n → goodM A n i = true
  | 0, _ => rfl
  | i + 1, hi => by
    have ih := good_of hA h i (by omega)
    simp only [goodM, Bool.and_eq_true, decide_eq_true_eq]
    refine ⟨ih, ?_⟩
    by_cases q : 0 ≤ pivF (roundsM A n i) n i
    · exact q
    exfalso
    have hb := roundsM_byte hA n i
    have hu := unit_rounds hA i (by omega) ih
    have hn : noneTo (fun t => roundsM A n i (i + t) i != 0) (n - i) = true := by
      cases e : noneTo (fun t => roundsM A n i (i + t) i != 0) (n - i) with
      | true => rfl
      | false => exact absurd ((fstI_pos _ _).2 e) q
    have hz : ∀ j, i ≤ j → j < n → roundsM A n i j i = 0 := fun j h1 h2 => by
      have := noneTo_iff.1 hn (j - i) (by omega)
      rw [show i + (j - i) = j by omega] at this
      simpa using this
    have hv : ∀ c, (fun c => if c < i then roundsM A n i c i else if c = i then 1 else 0) c < 256 := fun c => by
      try dsimp only
      split
      · exact hb _ _
      · split <;> decide
    have hk : kerV (roundsM A n i) n n (fun c => if c < i then roundsM A n i c i else if c = i then 1 else 0) := fun j hj => by
      have e : X (fun c => gmul (roundsM A n i j c) ((fun c => if c < i then roundsM A n i c i else if c = i then 1 else 0) c)) n = X (fun c => gmul (roundsM A n i j c) ((fun c => if c < i then roundsM A n i c i else if c = i then 1 else 0) c)) (i + 1) :=
        X_tail (i + 1) n (by omega) fun c h1 h2 => by
          try dsimp only
          rw [if_neg (by omega), if_neg (by omega), gmul_zero]
      rw [e]
      show Nat.xor (X _ i) (gmul (roundsM A n i j i) _) = 0
      try dsimp only
      rw [if_neg (Nat.lt_irrefl _), if_pos rfl, gmul_one (hb j i)]
      by_cases hji : j < i
      · rw [X_unit (v := fun c => if c < i then roundsM A n i c i else if c = i then 1 else 0) hji hv fun c hc => hu c hc j hj]
        try dsimp only
        rw [if_pos hji]
        exact Nat.xor_self _
      · rw [hz j (by omega) hj, xor0, X_congr (g := fun _ => 0) i fun c hc => by rw [hu c hc j hj, if_neg (by omega), gzero_mul (hv c)], X_zero]
    have := h _ hv ((ker_rounds hA hv i (by omega) ih).1 hk) i (by omega)
    try dsimp only at this
    rw [if_neg (Nat.lt_irrefl _), if_pos rfl] at this
    cases this

/-! ### sums -/
theorem X_swap (f : Nat → Nat → Nat) (n : Nat) : ∀ m, X (fun j => X (fun k => f j k) n) m = X (fun k => X (fun j => f j k) m) n
  | 0 => (X_zero n).symm
  | m + 1 => by
    show Nat.xor (X (fun j => X (fun k => f j k) n) m) (X (fun k => f m k) n) = _
    rw [X_swap f n m, ← X_xor]
    rfl
theorem X_re {k : Nat → Nat} {L : Nat} : ∀ (m : Nat) (f : Nat → Nat), (∀ i, i < m → k i < L) → (∀ i j, i < m → j < m → k i = k j → i = j) → (∀ t, t < L → f t ≠ 0 → ∃ i, i < m ∧ k i = t) → X f L = X (fun i => f (k i)) m
  | 0, f, _, _, h => by
    rw [X_congr (g := fun _ => 0) L fun t ht => ?_, X_zero]
    · rfl
    · by_cases e : f t = 0
      · exact e
      · obtain ⟨i, hi, _⟩ := h t ht e
        omega
  | m + 1, f, hk, hj, h => by
    have ih := X_re m (fun t => if t = k m then 0 else f t) (fun i hi => hk i (by omega)) (fun i j hi hj' => hj i j (by omega) (by omega)) (fun t ht hne => by
      try dsimp only at hne
      by_cases e : t = k m
      · rw [if_pos e] at hne; exact absurd rfl hne
      · rw [if_neg e] at hne
        obtain ⟨i, hi, he⟩ := h t ht hne
        refine ⟨i, ?_, he⟩
        by_cases q : i = m
        · rw [q] at he; exact absurd he.symm e
        · omega)
    have e1 : X f L = Nat.xor (X (fun t => if t = k m then 0 else f t) L) (X (fun t => if t = k m then f t else 0) L) := by
      rw [← X_xor]
      exact X_congr L fun t _ => by
        by_cases e : t = k m
        · rw [if_pos e, if_pos e, xor0']
        · rw [if_neg e, if_neg e, xor0]
    have e2 : X (fun t => if t = k m then f t else 0) L = f (k m) := by
      rw [X_one (a := k m) L (hk m (by omega)) fun t _ hne => if_neg hne, if_pos rfl]
    rw [e1, e2, ih]
    show Nat.xor _ _ = Nat.xor _ _
    congr 1
    refine X_congr m fun i hi => ?_
    rw [if_neg fun e => by have := hj i m (by omega) (by omega) e; omega]
/-! ### Vandermonde -/
theorem gpow_succ (x j : Nat) : gpow x (j + 1) = gmul (gpow x j) x := rfl
theorem vn_T {F x : Nat → Nat} (hF : ∀ k, F k < 256) (hx : ∀ k, x k < 256) {n m : Nat} (h : ∀ j, j < m → X (fun k => gmul (F k) (gpow (x k) j)) n = 0) : ∀ (R : List Nat), (∀ r ∈ R, r < 256) → ∀ j, j + R.length < m →
    X (fun k => gmul (F k) (gmul (gpow (x k) j) (prR (x k) R))) n = 0
  | [], _, j, hj => by
    rw [← h j (by simpa using hj)]
    exact X_congr n fun k _ => by rw [show prR (x k) [] = 1 from rfl, gmul_one (gpow_lt _ _)]
  | r :: R, hR, j, hj => by
    have hr := fun s hs => hR s (List.mem_cons_of_mem r hs)
    have hrr := hR r (List.mem_cons_self ..)
    have h1 := vn_T hF hx h R hr (j + 1) (by simp only [List.length_cons] at hj; omega)
    have h2 := vn_T hF hx h R hr j (by simp only [List.length_cons] at hj; omega)
    have e : ∀ k, gmul (F k) (gmul (gpow (x k) j) (prR (x k) (r :: R))) = Nat.xor (gmul (F k) (gmul (gpow (x k) (j + 1)) (prR (x k) R))) (gmul r (gmul (F k) (gmul (gpow (x k) j) (prR (x k) R)))) := fun k => by
      have lQ := prR_lt (hx k) R hr
      have lk := hx k
      have lj := gpow_lt (x k) j
      show gmul (F k) (gmul (gpow (x k) j) (gmul (Nat.xor (x k) r) (prR (x k) R))) = _
      generalize prR (x k) R = Q at *
      rw [gmul_lin Q lk hrr, gmul_linr, gmul_linr, gpow_succ]
      congr 1
      · rw [gmul_assoc _ lj lk]
      · rw [gmul_assoc _ lj hrr, gmul_comm lj hrr, ← gmul_assoc _ hrr lj, gmul_assoc _ (hF k) hrr, gmul_comm (hF k) hrr, ← gmul_assoc _ hrr (hF k)]
    rw [X_congr n fun k _ => e k, X_xor, X_mul, h1, h2, gmul_zero]
    rfl
/-- Different points: few weights, no zero. -/
theorem vn {F x : Nat → Nat} (hF : ∀ k, F k < 256) (hx : ∀ k, x k < 256) {n m : Nat} (hi : ∀ i j, i < n → j < n → x i = x j → i = j) (P : List Nat) (hP : P.length ≤ m) (hs : ∀ k, k < n → F k ≠ 0 → k ∈ P) (h : ∀ j, j < m → X (fun k => gmul (F k) (gpow (x k) j)) n = 0) : ∀ k, k < n → F k = 0 := by
  intro i hin
  by_cases h0 : F i = 0
  · exact h0
  exfalso
  have hiP := hs i hin h0
  have hR : ∀ r ∈ ((P.filter fun k => decide (k ≠ i) && decide (k < n)).map x), r < 256 := fun r hr => by
    obtain ⟨k, -, rfl⟩ := List.mem_map.1 hr
    exact hx k
  have hlen : ((P.filter fun k => decide (k ≠ i) && decide (k < n)).map x).length < m := by
    rw [List.length_map]
    refine Nat.lt_of_lt_of_le ?_ hP
    apply Nat.lt_of_le_of_ne (List.length_filter_le ..)
    intro e
    have := List.length_filter_eq_length_iff.1 e i hiP
    simp at this
  have hT := vn_T hF hx h _ hR 0 (by omega)
  rw [X_one (a := i) n hin fun k hk hne => ?_] at hT
  · refine gmul_ne (hF i) (gmul_lt (gpow_lt _ _)) h0 ?_ hT
    refine gmul_ne (gpow_lt _ _) (prR_lt (hx _) _ hR) (by show 1 ≠ 0; decide) (prR_ne (hx _) _ hR fun hm => ?_)
    obtain ⟨k, hk, e⟩ := List.mem_map.1 hm
    have hk := List.mem_filter.1 hk
    have hk2 := hk.2
    rw [Bool.and_eq_true, decide_eq_true_eq, decide_eq_true_eq] at hk2
    exact hk2.1 (hi _ _ hk2.2 hin e)
  · by_cases hz : F k = 0
    · rw [hz, gzero_mul (gmul_lt (gpow_lt _ _))]
    · rw [prR_zero (hx _) _ hR (List.mem_map.2 ⟨k, List.mem_filter.2 ⟨hs k hk hz, by rw [Bool.and_eq_true, decide_eq_true_eq, decide_eq_true_eq]; exact ⟨hne, hk⟩⟩, rfl⟩), gmul_zero, gmul_zero]
/-- .. and for a polynomial with fewer coefficients than zeros. -/
theorem vn_poly {Y x : Nat → Nat} (hY : ∀ c, Y c < 256) (hx : ∀ k, x k < 256) {m : Nat} (hi : ∀ i j, i < m → j < m → x i = x j → i = j) (h : ∀ k, k < m → X (fun c => gmul (Y c) (gpow (x k) c)) m = 0) : ∀ c, c < m → Y c = 0 := by
  intro c0 hc0
  let A : Mat := fun j k => if k < m then gpow (x k) j else if j = c0 then 1 else 0
  have hA : byteM A := fun j k => by
    show (if k < m then gpow (x k) j else if j = c0 then 1 else 0) < 256
    split
    · exact gpow_lt _ _
    · split <;> decide
  have hg : goodM A m m = true := good_of hA (fun v hv hk => by
    refine vn (F := v) hv hx hi (List.range m) (m := m) (by simp) (fun k hk _ => List.mem_range.2 hk) fun j hj => ?_
    rw [← hk j hj]
    exact X_congr m fun k hkm => by
      show gmul (v k) (gpow (x k) j) = gmul (if k < m then gpow (x k) j else _) (v k)
      rw [if_pos hkm, gmul_comm (hv k) (gpow_lt _ _)]) m (Nat.le_refl _)
  have hs := sol_ker hA hg
  have hw : ∀ k, solN A m k < 256 := fun k => solN_lt hA m k
  have e1 : ∀ j, j < m → X (fun k => gmul (gpow (x k) j) (solN A m k)) m = if j = c0 then 1 else 0 := fun j hj => by
    have h1 : Nat.xor (X (fun k => gmul (A j k) (if k < m then solN A m k else 1)) m) (gmul (A j m) (if m < m then solN A m m else 1)) = 0 := hs j hj
    rw [if_neg (Nat.lt_irrefl _), gmul_one (hA j m)] at h1
    have h2 : A j m = if j = c0 then 1 else 0 := if_neg (Nat.lt_irrefl _)
    rw [h2] at h1
    have h3 : X (fun k => gmul (A j k) (if k < m then solN A m k else 1)) m = X (fun k => gmul (gpow (x k) j) (solN A m k)) m := X_congr m fun k hk => by
      rw [if_pos hk]
      show gmul (if k < m then gpow (x k) j else _) _ = _
      rw [if_pos hk]
    rw [h3] at h1
    by_cases e : X (fun k => gmul (gpow (x k) j) (solN A m k)) m = if j = c0 then 1 else 0
    · exact e
    · exact (xor_ne e h1).elim
  have e2 : X (fun j => gmul (Y j) (X (fun k => gmul (gpow (x k) j) (solN A m k)) m)) m = Y c0 := by
    rw [X_congr m fun j hj => by rw [e1 j hj], X_one (a := c0) m hc0 fun k _ hne => by rw [if_neg hne, gmul_zero], if_pos rfl, gmul_one (hY c0)]
  rw [← e2]
  have e3 : X (fun j => gmul (Y j) (X (fun k => gmul (gpow (x k) j) (solN A m k)) m)) m = X (fun j => X (fun k => gmul (solN A m k) (gmul (Y j) (gpow (x k) j))) m) m := X_congr m fun j hj => by
    rw [← X_mul]
    exact X_congr m fun k _ => by rw [gmul_assoc _ (hY j) (gpow_lt _ _), gmul_comm (gmul_lt (hY j)) (hw k)]
  rw [e3, X_swap, X_congr (g := fun _ => 0) m fun k hk => by rw [X_mul, h k hk, gmul_zero], X_zero]

theorem gm_a {d y q e : Nat} (hd : d < 256) (hy : y < 256) (hq : q < 256) (he : e < 256) : gmul (gmul d (gmul y q)) e = gmul (gmul d q) (gmul e y) := by
  rw [gmul_comm hy hq, gmul_assoc _ hd hq, ← gmul_assoc _ (gmul_lt hd) hy, gmul_comm hy he]
theorem gm_b {d x q e : Nat} (hd : d < 256) (hx : x < 256) (hq : q < 256) (he : e < 256) : gmul (gmul d (gmul x q)) e = gmul x (gmul (gmul d q) e) := by
  rw [gmul_comm hx hq, gmul_assoc _ hd hq, gmul_comm (gmul_lt hd) hx, ← gmul_assoc _ hx (gmul_lt hd)]
/-- The erased places' points. -/
def rlE (L : Nat) (er : Nat → Int) : Nat → List Nat
  | 0 => []
  | k + 1 => pwN ((L : Int) - 1 - er k) :: rlE L er k
theorem rlE_lt (L : Nat) (er : Nat → Int) : ∀ n, ∀ r ∈ rlE L er n, r < 256
  | 0, _, h => by cases h
  | n + 1, r, h => by
    rcases List.mem_cons.1 h with e | e
    · rw [e]; exact pwN_lt _
    · exact rlE_lt L er n r e
/-- The weights that are left. -/
def gwF (b c : List UInt8) (er : Nat → Int) (n k : Nat) : Nat := gmul (dfF b c k) (prR (gexp k) (rlE b.length er n))
theorem gwF_lt (b c : List UInt8) (er : Nat → Int) (n k : Nat) : gwF b c er n k < 256 := gmul_lt (dfF_lt _ _ _)
theorem synE_X {b c : List UInt8} (hl : c.length = b.length) (hc : ∀ j, j < 8 → syn0 c j = 0) (er : Nat → Int) : ∀ n j, n ≤ j → j < 8 → synE b er n j = syX (gwF b c er n) b.length (j - n)
  | 0, j, _, hj => by
    have h := df_syn hl (j := j) (by omega)
    rw [hc j hj, xor0] at h
    show syn0 b j = _
    rw [← h]
    unfold syX
    refine X_congr _ fun k _ => ?_
    show _ = gmul (gmul (dfF b c k) 1) _
    rw [gmul_one (dfF_lt _ _ _)]
    rfl
  | n + 1, j, h1, hj => by
    show stepS _ (synE b er n) j = _
    unfold stepS
    rw [if_neg (by omega), synE_X hl hc er n j (by omega) hj, synE_X hl hc er n (j - 1) (by omega) (by omega)]
    unfold syX
    rw [← X_mul, ← X_xor]
    refine X_congr _ fun k _ => ?_
    have hx := pwN_lt ((b.length : Int) - 1 - er n)
    have hQ := prR_lt (gexp_lt k) _ (rlE_lt b.length er n)
    have hd := dfF_lt b c k
    have hy := gexp_lt k
    have hE := gexp_lt ((j - 1 - n) * k)
    show _ = gmul (gmul (dfF b c k) (gmul (Nat.xor (gexp k) (pwN ((b.length : Int) - 1 - er n))) (prR (gexp k) (rlE b.length er n)))) (gexp ((j - (n + 1)) * k))
    unfold gwF
    rw [show j - (n + 1) = j - 1 - n by omega, show (j - n) * k = (j - 1 - n) * k + k by rw [show j - n = (j - 1 - n) + 1 by omega, Nat.succ_mul], gexp_add]
    generalize pwN ((b.length : Int) - 1 - er n) = x at *
    generalize prR (gexp k) (rlE b.length er n) = Q at *
    generalize gexp ((j - 1 - n) * k) = E at *
    rw [gmul_lin Q hy hx, gmul_linr, gmul_lin E (gmul_lt hd) (gmul_lt hd), gm_a hd hy hQ hE, gm_b hd hx hQ hE]
/-- Their places, from the front. -/
def pbL (b c : List UInt8) (er : Nat → Int) (n : Nat) : List Nat := (List.range b.length).filter fun p => decide (gwF b c er n (b.length - 1 - p) ≠ 0)
theorem X_rev (f : Nat → Nat) (m : Nat) : X (fun c => f (m - 1 - c)) m = X f m := (X_re m f (k := fun c => m - 1 - c) (fun i hi => by omega) (fun i j hi hj h => by omega) fun t ht _ => ⟨m - 1 - t, by omega, by omega⟩).symm
/-- What the equations say of the places. -/
theorem loc_gen {G : Nat → Nat} (hG : ∀ k, G k < 256) {L : Nat} (hL : L ≤ 255) {W : Nat → Nat} (hW : ∀ c, W c < 256) {e m : Nat} (P : List Nat) (hP : P.length ≤ e) (hs : ∀ k, k < L → G k ≠ 0 → k ∈ P)
    (h : ∀ r, r < e → X (fun c => gmul (W c) (syX G L (m - 1 + r - c))) m = 0) : ∀ k, k < L → G k ≠ 0 → X (fun c => gmul (W c) (gexp ((m - 1 - c) * k))) m = 0 := by
  intro k hk h0
  have hYl : ∀ k, X (fun c => gmul (W c) (gexp ((m - 1 - c) * k))) m < 256 := fun k => X_lt _ fun c _ => gmul_lt (hW c)
  have hv := van (F := fun k => gmul (G k) (X (fun c => gmul (W c) (gexp ((m - 1 - c) * k))) m)) (fun k => gmul_lt (hG k)) hL (m := e) P hP (fun k hk hne => hs k hk fun e0 => by
    try dsimp only at hne
    rw [e0, gzero_mul (hYl k)] at hne
    exact hne rfl) (fun r hr => by
    rw [← h r hr]
    unfold syX
    rw [X_congr m fun c _ => by rw [← X_mul]]
    rw [X_swap]
    refine X_congr L fun k _ => ?_
    try dsimp only
    have e1 : gmul (gmul (G k) (X (fun c => gmul (W c) (gexp ((m - 1 - c) * k))) m)) (gexp (r * k)) = X (fun c => gmul (gmul (G k) (gexp (r * k))) (gmul (W c) (gexp ((m - 1 - c) * k)))) m := by
      rw [X_mul, ← gmul_assoc _ (hG k) (hYl k), gmul_comm (hYl k) (gexp_lt _), gmul_assoc _ (hG k) (gexp_lt _)]
    rw [e1]
    refine X_congr m fun c hc => ?_
    rw [show (m - 1 + r - c) * k = r * k + (m - 1 - c) * k by rw [← Nat.add_mul]; congr 1; omega, gexp_add]
    have h1 := hG k
    have h2 := gexp_lt (r * k)
    have h3 := hW c
    have h4 := gexp_lt ((m - 1 - c) * k)
    rw [gmul4 h1 h2 h3 h4, gmul_comm h1 h3, ← gmul_assoc _ h3 h1]) k hk
  by_cases e : X (fun c => gmul (W c) (gexp ((m - 1 - c) * k))) m = 0
  · exact e
  · exact (gmul_ne (hG k) (hYl k) h0 e hv).elim

/-! ### the places -/
section
variable {b c : List UInt8} (hl : c.length = b.length) (hL : b.length ≤ 231) (hc : ∀ j, j < 8 → syn0 c j = 0) (er : Nat → Int) (n : Nat)
theorem pb_mem {b c : List UInt8} {er : Nat → Int} {n p : Nat} : p ∈ pbL b c er n ↔ p < b.length ∧ gwF b c er n (b.length - 1 - p) ≠ 0 := by
  unfold pbL
  rw [List.mem_filter, List.mem_range, decide_eq_true_eq]
def kkF (b c : List UInt8) (er : Nat → Int) (n i : Nat) : Nat := b.length - 1 - (pbL b c er n).getD i 0
theorem kk_facts {b c : List UInt8} {er : Nat → Int} {n : Nat} {i : Nat} (hi : i < (pbL b c er n).length) : kkF b c er n i < b.length ∧ gwF b c er n (kkF b c er n i) ≠ 0 := by
  have hm : (pbL b c er n).getD i 0 ∈ pbL b c er n := by
    rw [List.getD_eq_getElem?_getD, List.getElem?_eq_getElem hi]
    exact List.getElem_mem hi
  obtain ⟨h1, h2⟩ := pb_mem.1 hm
  exact ⟨by unfold kkF; omega, h2⟩
theorem kk_inj {b c : List UInt8} {er : Nat → Int} {n : Nat} {i j : Nat} (hi : i < (pbL b c er n).length) (hj : j < (pbL b c er n).length) (h : kkF b c er n i = kkF b c er n j) : i = j := by
  have hm : ∀ i, i < (pbL b c er n).length → (pbL b c er n).getD i 0 < b.length := fun i hi => by
    have hm : (pbL b c er n).getD i 0 ∈ pbL b c er n := by
      rw [List.getD_eq_getElem?_getD, List.getElem?_eq_getElem hi]
      exact List.getElem_mem hi
    exact (pb_mem.1 hm).1
  have a1 := hm i hi
  have a2 := hm j hj
  unfold kkF at h
  have e : (pbL b c er n).getD i 0 = (pbL b c er n).getD j 0 := by omega
  have hn : (pbL b c er n).Pairwise (· < ·) := List.Pairwise.filter _ List.pairwise_lt_range
  have hn := List.pairwise_iff_getElem.1 hn
  rw [List.getD_eq_getElem?_getD, List.getD_eq_getElem?_getD, List.getElem?_eq_getElem hi, List.getElem?_eq_getElem hj] at e
  have e : (pbL b c er n)[i] = (pbL b c er n)[j] := e
  rcases Nat.lt_trichotomy i j with q | q | q
  · have := hn i j hi hj q
    omega
  · exact q
  · have := hn j i hj hi q
    omega
theorem pb_behind {b c : List UInt8} {er : Nat → Int} {n : Nat} : ∀ k, k < b.length → gwF b c er n k ≠ 0 → k ∈ (pbL b c er n).map fun p => b.length - 1 - p := fun k hk h0 =>
  List.mem_map.2 ⟨b.length - 1 - k, pb_mem.2 ⟨by omega, by rw [show b.length - 1 - (b.length - 1 - k) = k by omega]; exact h0⟩, by omega⟩
include hl hc in
theorem wr_entry {e : Nat} (h8 : n + 2 * e ≤ 8) {r k : Nat} (hr : r < e) (hk : k < e) : wrongM b er n e r k = syX (gwF b c er n) b.length (e - 1 + r - k) := by
  unfold wrongM
  rw [if_pos hr, if_pos hk, synE_X hl hc er n _ (by omega) (by omega)]
  congr 1
  omega
include hl hc in
theorem wr_entry' {e : Nat} (h8 : n + 2 * e ≤ 8) {r : Nat} (hr : r < e) : wrongM b er n e r e = syX (gwF b c er n) b.length (e + r) := by
  unfold wrongM
  rw [if_pos hr, if_neg (Nat.lt_irrefl _), if_pos rfl, synE_X hl hc er n _ (by omega) (by omega)]
  congr 1
  omega
theorem syX_lt {G : Nat → Nat} (L j : Nat) (h : ∀ k, G k < 256) : syX G L j < 256 := X_lt _ fun k _ => gmul_lt (h k)
include hl hL hc in
/-- The equations can be solved. -/
theorem wr_good (h8 : n + 2 * (pbL b c er n).length ≤ 8) : wrGood b er n (pbL b c er n).length = true := by
  generalize he : (pbL b c er n).length = e at *
  refine good_of (wrongM_byte b er n e) (fun v hv hk => ?_) e (Nat.le_refl _)
  have h1 := loc_gen (gwF_lt b c er n) (by omega) hv (e := e) (m := e) ((pbL b c er n).map fun p => b.length - 1 - p) (by rw [List.length_map]; omega) pb_behind (fun r hr => by
    rw [← hk r hr]
    exact X_congr e fun k hke => by
      rw [wr_entry hl hc er n h8 hr hke, gmul_comm (hv k) (syX_lt _ _ (gwF_lt b c er n))])
  have h2 := vn_poly (Y := fun d => v (e - 1 - d)) (x := fun i => gexp (kkF b c er n i)) (fun d => hv _) (fun i => gexp_lt _) (m := e) (fun i j hi hj h => by
    obtain ⟨a1, _⟩ := kk_facts (b := b) (c := c) (er := er) (n := n) (i := i) (by omega)
    obtain ⟨a2, _⟩ := kk_facts (b := b) (c := c) (er := er) (n := n) (i := j) (by omega)
    exact kk_inj (by omega) (by omega) (gexp_inj (by omega) (by omega) h)) (fun i hi => by
    obtain ⟨a1, a2⟩ := kk_facts (b := b) (c := c) (er := er) (n := n) (i := i) (by omega)
    rw [← h1 _ a1 a2, ← X_rev]
    exact X_congr e fun d hd => by
      rw [gpow_gexp, show e - 1 - (e - 1 - d) = d by omega, Nat.mul_comm])
  intro k hk
  have := h2 (e - 1 - k) (by omega)
  rw [show e - 1 - (e - 1 - k) = k by omega] at this
  exact this
theorem loc_0 (b : List UInt8) (er : Nat → Int) (n e : Nat) : co (locL b er n e) 0 = 1 := rfl
theorem loc_s (b : List UInt8) (er : Nat → Int) (n : Nat) {e k : Nat} (hk : k < e) : co (locL b er n e) (k + 1) = solN (wrongM b er n e) e k := by
  unfold locL
  rw [co_app2 (l := [1]) (by simp)]
  exact byt_get (F := solN (wrongM b er n e) e) (fun k => solN_lt (wrongM_byte b er n e) e k) hk
/-- The locator's value at a place from behind, times a power. -/
def zLoc (b : List UInt8) (er : Nat → Int) (n e k : Nat) : Nat := X (fun t => gmul (co (locL b er n e) t) (gexp ((e - t) * k))) (e + 1)
include hl hL hc in
theorem wr_root (h8 : n + 2 * (pbL b c er n).length ≤ 8) : ∀ k, k < b.length → gwF b c er n k ≠ 0 → zLoc b er n (pbL b c er n).length k = 0 := by
  have hg := wr_good hl hL hc er n h8
  generalize he : (pbL b c er n).length = e at *
  have hs := sol_ker (wrongM_byte b er n e) hg
  have h1 := loc_gen (gwF_lt b c er n) (by omega) (W := co (locL b er n e)) (fun k => co_lt _ _) (e := e) (m := e + 1) ((pbL b c er n).map fun p => b.length - 1 - p) (by rw [List.length_map]; omega) pb_behind (fun r hr => by
    have h2 : Nat.xor (X (fun k => gmul (wrongM b er n e r k) (if k < e then solN (wrongM b er n e) e k else 1)) e) (gmul (wrongM b er n e r e) (if e < e then solN (wrongM b er n e) e e else 1)) = 0 := hs r hr
    rw [if_neg (Nat.lt_irrefl _), gmul_one (wrongM_byte b er n e r e), wr_entry' hl hc er n h8 hr] at h2
    have h3 := X_shift (fun t => gmul (co (locL b er n e) t) (syX (gwF b c er n) b.length (e + 1 - 1 + r - t))) e
    have h4 : X (fun t => gmul (co (locL b er n e) (t + 1)) (syX (gwF b c er n) b.length (e + 1 - 1 + r - (t + 1)))) e = X (fun k => gmul (wrongM b er n e r k) (if k < e then solN (wrongM b er n e) e k else 1)) e := X_congr e fun k hk => by
      rw [loc_s b er n hk, if_pos hk, wr_entry hl hc er n h8 hr hk, gmul_comm (solN_lt (wrongM_byte b er n e) e k) (syX_lt _ _ (gwF_lt b c er n)), show e + 1 - 1 + r - (k + 1) = e - 1 + r - k by omega]
    rw [h4, loc_0, gone_mul (syX_lt _ _ (gwF_lt b c er n)), show e + 1 - 1 + r - 0 = e + r by omega] at h3
    have h5 : Nat.xor (Nat.xor (X (fun t => gmul (co (locL b er n e) t) (syX (gwF b c er n) b.length (e + 1 - 1 + r - t))) (e + 1)) (syX (gwF b c er n) b.length (e + r))) (syX (gwF b c er n) b.length (e + r)) = 0 := by
      rw [← h3]; exact h2
    rw [xor_can] at h5
    exact h5)
  intro k hk h0
  exact h1 k hk h0
include hl hL hc in
theorem wr_only (h8 : n + 2 * (pbL b c er n).length ≤ 8) {k : Nat} (hk : k < b.length) (h0 : gwF b c er n k = 0) : zLoc b er n (pbL b c er n).length k ≠ 0 := by
  intro hz
  have hr := wr_root hl hL hc er n h8
  generalize he : (pbL b c er n).length = e at *
  have h2 := vn_poly (Y := fun d => co (locL b er n e) (e - d)) (x := fun i => gexp (if i < e then kkF b c er n i else k)) (fun d => co_lt _ _) (fun i => gexp_lt _) (m := e + 1) (fun i j hi hj h => by
    try dsimp only at h
    by_cases q1 : i < e
    · obtain ⟨a1, a3⟩ := kk_facts (b := b) (c := c) (er := er) (n := n) (i := i) (by omega)
      rw [if_pos q1] at h
      by_cases q2 : j < e
      · obtain ⟨a2, _⟩ := kk_facts (b := b) (c := c) (er := er) (n := n) (i := j) (by omega)
        rw [if_pos q2] at h
        exact kk_inj (by omega) (by omega) (gexp_inj (by omega) (by omega) h)
      · rw [if_neg q2] at h
        rw [gexp_inj (by omega) (by omega) h] at a3
        exact absurd h0 a3
    · rw [if_neg q1] at h
      by_cases q2 : j < e
      · obtain ⟨a2, a3⟩ := kk_facts (b := b) (c := c) (er := er) (n := n) (i := j) (by omega)
        rw [if_pos q2] at h
        rw [← gexp_inj (by omega) (by omega) h] at a3
        exact absurd h0 a3
      · omega) (fun i hi => by
    have hz' : zLoc b er n e (if i < e then kkF b c er n i else k) = 0 := by
      by_cases q : i < e
      · obtain ⟨a1, a3⟩ := kk_facts (b := b) (c := c) (er := er) (n := n) (i := i) (by omega)
        rw [if_pos q]
        exact hr _ a1 a3
      · rw [if_neg q]
        exact hz
    rw [← hz']
    unfold zLoc
    rw [← X_rev]
    exact X_congr (e + 1) fun d hd => by
      rw [gpow_gexp, show e + 1 - 1 - d = e - d by omega, show e - (e - d) = d by omega, Nat.mul_comm])
  have := h2 e (by omega)
  rw [Nat.sub_self, loc_0] at this
  cases this
end

theorem pwN_exp (z : Int) : pwN z = gexp (expI z) := by
  have h1 := powI_eq z
  unfold powI at h1
  rw [if_neg (by decide)] at h1
  have h2 : ((gpow (Int.toNat 2) (expI z) : Nat) : Int) = (pwN z : Nat) := h1
  have h3 : gpow 2 (expI z) = pwN z := by
    have : gpow (Int.toNat 2) (expI z) = pwN z := by omega
    exact this
  rw [← h3]
  have h4 := gpow_gexp 1 (expI z)
  rw [Nat.one_mul] at h4
  exact h4
theorem pwN_nat (k : Nat) : pwN (k : Nat) = gexp k := by
  rw [pwN_exp, ← gexp_mod k]
  rfl
theorem pwN_neg {k : Nat} (hk : k ≤ 255) {z : Int} (hz : z = -(k : Int)) : pwN z = gexp (255 - k) := by
  rw [pwN_exp, ← gexp_mod (255 - k)]
  congr 1
  unfold expI
  omega
theorem locL_len (b : List UInt8) (er : Nat → Int) (n e : Nat) : (locL b er n e).length = e + 1 := by
  unfold locL
  rw [List.length_append, byt_len]
  simp
  omega
theorem loc_eval {b : List UInt8} {er : Nat → Int} {n e p : Nat} (hp : p < b.length) (hL : b.length ≤ 231) : evalF (locL b er n e) (pwN ((p : Int) + 1 - b.length)) = 0 ↔ zLoc b er n e (b.length - 1 - p) = 0 := by
  obtain ⟨k, hk⟩ : ∃ k, b.length - 1 - p = k := ⟨_, rfl⟩
  rw [hk, pwN_neg (k := k) (by omega) (by omega), eval_N (gexp_lt _) (N := e + 1) fun j hj => co_over (by rw [locL_len]; exact hj)]
  have e1 : gmul (gexp (e * k)) (ev (co (locL b er n e)) (gexp (255 - k)) (e + 1)) = zLoc b er n e k := by
    unfold ev zLoc
    rw [← X_mul]
    refine X_congr _ fun j hj => ?_
    rw [gpow_gexp, gmul_assoc _ (gexp_lt _) (co_lt _ _), gmul_comm (gexp_lt _) (co_lt _ _), ← gmul_assoc _ (co_lt _ _) (gexp_lt _), ← gexp_add]
    congr 1
    have e2 : e * k + (255 - k) * j = (e - j) * k + 255 * j := by
      rw [Nat.sub_mul, Nat.sub_mul]
      have h1 : j * k ≤ e * k := Nat.mul_le_mul_right _ (by omega)
      have h2 : k * j ≤ 255 * j := Nat.mul_le_mul_right _ (by omega)
      have h3 : k * j = j * k := Nat.mul_comm _ _
      omega
    rw [e2, gexp_mul255]
  constructor
  · intro h
    rw [← e1, h, gmul_zero]
  · intro h
    rw [← e1] at h
    have hl : ev (co (locL b er n e)) (gexp (255 - k)) (e + 1) < 256 := ev_lt (fun k => co_lt _ _) _ _
    by_cases q : ev (co (locL b er n e)) (gexp (255 - k)) (e + 1) = 0
    · exact q
    · exact (gmul_ne (gexp_lt _) hl (gexp_ne _) q h).elim
theorem rlE_mem (L : Nat) (er : Nat → Int) : ∀ n i, i < n → pwN ((L : Int) - 1 - er i) ∈ rlE L er n
  | 0, i, h => by omega
  | n + 1, i, h => by
    by_cases q : i = n
    · rw [q]; exact List.mem_cons_self ..
    · exact List.mem_cons_of_mem _ (rlE_mem L er n i (by omega))
theorem rlE_out (L : Nat) (er : Nat → Int) : ∀ n r, r ∈ rlE L er n → ∃ i, i < n ∧ r = pwN ((L : Int) - 1 - er i)
  | 0, r, h => by cases h
  | n + 1, r, h => by
    rcases List.mem_cons.1 h with e | e
    · exact ⟨n, by omega, e⟩
    · obtain ⟨i, hi, he⟩ := rlE_out L er n r e
      exact ⟨i, by omega, he⟩
theorem inB_true {f : Nat → Int} {n : Nat} {v : Int} : inB f n v = true ↔ ∃ i, i < n ∧ f i = v := by
  unfold inB
  constructor
  · intro h
    have h : noneTo (fun k => v == f k) n = false := by simpa using h
    refine Classical.byContradiction fun hn => ?_
    rw [noneTo_iff.2 fun i hi => ?_] at h
    · cases h
    · have : ¬ v = f i := fun e => hn ⟨i, hi, e.symm⟩
      simpa using this
  · rintro ⟨i, hi, rfl⟩
    cases h : noneTo (fun k => f i == f k) n with
    | false => rfl
    | true => have := noneTo_iff.1 h i hi; simp at this
/-- Weights that are left: neither erased nor right. -/
theorem gw_ne {b c : List UInt8} {er : Nat → Int} {n p : Nat} (hL : b.length ≤ 231) (hr : ∀ i, i < n → 0 ≤ er i ∧ er i < b.length) (hp : p < b.length) : gwF b c er n (b.length - 1 - p) ≠ 0 ↔ dfF b c (b.length - 1 - p) ≠ 0 ∧ ∀ i, i < n → er i ≠ (p : Int) := by
  unfold gwF
  constructor
  · intro h
    refine ⟨fun e => h (by rw [e, gzero_mul (prR_lt (gexp_lt _) _ (rlE_lt _ _ _))]), fun i hi e => h ?_⟩
    rw [prR_zero (gexp_lt _) _ (rlE_lt _ _ _), gmul_zero]
    have := rlE_mem b.length er n i hi
    rw [e, show ((b.length : Int) - 1 - p) = ((b.length - 1 - p : Nat) : Int) by omega, pwN_nat] at this
    exact this
  · rintro ⟨h1, h2⟩
    refine gmul_ne (dfF_lt _ _ _) (prR_lt (gexp_lt _) _ (rlE_lt _ _ _)) h1 (prR_ne (gexp_lt _) _ (rlE_lt _ _ _) fun hm => ?_)
    obtain ⟨i, hi, e⟩ := rlE_out _ _ _ _ hm
    obtain ⟨r1, r2⟩ := hr i hi
    rw [show ((b.length : Int) - 1 - er i) = ((b.length - 1 - (er i).toNat : Nat) : Int) by omega, pwN_nat] at e
    have := gexp_inj (by omega) (by omega) e
    exact h2 i hi (by omega)
section
variable {b c : List UInt8} (hl : c.length = b.length) (h9 : 9 ≤ b.length) (hL : b.length ≤ 231) (hc : ∀ j, j < 8 → syn0 c j = 0) {er : Nat → Int} {n : Nat} (hr : ∀ i, i < n → 0 ≤ er i ∧ er i < b.length)
include hl hL hc hr in
/-- The places are found. -/
theorem pl_eq (h8 : n + 2 * (pbL b c er n).length ≤ 8) : plL b er n (pbL b c er n).length b.length = pbL b c er n := by
  have hroot := wr_root hl hL hc er n h8
  have honly := fun {k} hk h0 => wr_only hl hL hc er n h8 (k := k) hk h0
  have key : ∀ p ∈ List.range b.length, plP b er n (pbL b c er n).length p = decide (gwF b c er n (b.length - 1 - p) ≠ 0) := fun p hp => by
    have hp := List.mem_range.1 hp
    have hev := loc_eval (b := b) (er := er) (n := n) (e := (pbL b c er n).length) hp hL
    have hg := gw_ne (c := c) hL hr hp
    unfold plP
    by_cases h0 : gwF b c er n (b.length - 1 - p) = 0
    · rw [decide_eq_false (fun h => h h0)]
      have := honly (by omega) h0
      rw [beq_eq_false_iff_ne.2 fun e => this (hev.1 e), Bool.and_false]
    · rw [decide_eq_true h0, hev.2 (hroot _ (by omega) h0)]
      have : inB er n (p : Nat) = false := by
        cases e : inB er n (p : Nat) with
        | false => rfl
        | true =>
          obtain ⟨i, hi, e⟩ := inB_true.1 e
          exact absurd e ((hg.1 h0).2 i hi)
      rw [this]
      rfl
  exact List.filter_congr key
include hl hL hc hr in
theorem wr_ok (h8 : n + 2 * (pbL b c er n).length ≤ 8) : wrOk b er n (pbL b c er n).length = true := by
  unfold wrOk
  rw [wr_good hl hL hc er n h8, pl_eq hl hL hc hr h8, decide_eq_true rfl]
  rfl
end
/-! ### mending -/
theorem cw_enc {c : List UInt8} (h9 : 9 ≤ c.length) (hL : c.length ≤ 231) (hc : ∀ j, j < 8 → syn0 c j = 0) : encL (c.take (c.length - 8)) = c := by
  have ht : (c.take (c.length - 8)).length = c.length - 8 := by rw [List.length_take]; omega
  have le := encL_ln (d := c.take (c.length - 8)) (by omega) (by omega)
  refine code_pre (by omega) (by omega) (enc_syn (by omega) (by omega)) hc (fun k hk => ?_) (by omega)
  rw [encL_of (by omega) (by omega), co_app1 (by omega), co_take (by omega)]
theorem df_at {b c : List UInt8} (hl : c.length = b.length) {p : Nat} (hp : p < b.length) : dfF b c (b.length - 1 - p) = Nat.xor (co b p) (co c p) := by
  unfold dfF
  rw [co_rev (by omega), co_rev (by omega), hl, show b.length - 1 - (b.length - 1 - p) = p by omega]
section
variable {b c : List UInt8} (hl : c.length = b.length) (h9 : 9 ≤ b.length) (hL : b.length ≤ 231) (hc : ∀ j, j < 8 → syn0 c j = 0) {pl : Nat → Int} {m : Nat} (hm : m ≤ 8) (hr : ∀ i, i < m → 0 ≤ pl i ∧ pl i < b.length)
  (hi : ∀ i j, i < m → j < m → pl i = pl j → i = j) (hcov : ∀ p, p < b.length → co b p ≠ co c p → ∃ i, i < m ∧ pl i = (p : Int))
theorem fix_no (b : List UInt8) (pl : Nat → Int) (m : Nat) {p : Nat} : ∀ i, (∀ t, t < i → pl t ≠ (p : Int)) → fixF b pl m i p = co b p
  | 0, _ => rfl
  | i + 1, h => by
    unfold fixF
    rw [if_neg fun e => h i (by omega) e.symm, fix_no b pl m i fun t ht => h t (by omega)]
def kpF (b : List UInt8) (pl : Nat → Int) (i : Nat) : Nat := b.length - 1 - (pl i).toNat
include hr in
theorem md_entry {r i : Nat} (hrm : r < m) (him : i < m) : mendM b pl m r i = gpow (gexp (kpF b pl i)) r := by
  obtain ⟨r1, r2⟩ := hr i him
  unfold mendM
  rw [if_pos hrm, if_pos him, gpow_gexp, show ((b.length : Int) - 1 - pl i) = ((kpF b pl i : Nat) : Int) by unfold kpF; omega, show ((r : Nat) : Int) * ((kpF b pl i : Nat) : Int) = ((kpF b pl i * r : Nat) : Int) by rw [Nat.mul_comm, Int.natCast_mul], pwN_nat]
include hL hr hi in
theorem md_good : mdGood b pl m = true := by
  refine good_of (mendM_byte b pl m) (fun v hv hk => ?_) m (Nat.le_refl _)
  refine vn (F := v) (x := fun i => gexp (kpF b pl i)) hv (fun _ => gexp_lt _) (n := m) (m := m) (fun i j h1 h2 h => ?_) (List.range m) (by simp) (fun k hk _ => List.mem_range.2 hk) fun j hj => ?_
  · obtain ⟨a1, a2⟩ := hr i h1
    obtain ⟨a3, a4⟩ := hr j h2
    have := gexp_inj (by unfold kpF; omega) (by unfold kpF; omega) h
    unfold kpF at this
    exact hi i j h1 h2 (by omega)
  · rw [← hk j hj]
    exact X_congr m fun i him => by rw [md_entry hr hj him, gmul_comm (hv i) (gpow_lt _ _)]
include hl hL hc hm hr hi hcov in
theorem md_sol : ∀ i, i < m → dfF b c (kpF b pl i) = solN (mendM b pl m) m i := by
  have hv : ∀ t, (fun t => if t < m then dfF b c (kpF b pl t) else 1) t < 256 := fun t => by
    show (if t < m then dfF b c (kpF b pl t) else 1) < 256
    split
    · exact dfF_lt _ _ _
    · decide
  have h := sol_unique (mendM_byte b pl m) (n := m) hv (if_neg (Nat.lt_irrefl _)) (md_good hL hr hi) (fun r hrm => by
    show Nat.xor (X (fun t => gmul (mendM b pl m r t) (if t < m then dfF b c (kpF b pl t) else 1)) m) (gmul (mendM b pl m r m) (if m < m then dfF b c (kpF b pl m) else 1)) = 0
    have e0 : mendM b pl m r m = syn0 b r := by unfold mendM; rw [if_pos hrm, if_neg (Nat.lt_irrefl _), if_pos rfl]
    rw [if_neg (Nat.lt_irrefl _), gmul_one (mendM_byte b pl m r m), e0]
    have e1 := df_syn hl (j := r) (by omega)
    rw [hc r (by omega), xor0] at e1
    rw [← e1]
    unfold syX
    rw [X_re m (fun t => gmul (dfF b c t) (gexp (r * t))) (k := kpF b pl) (fun i him => by have := hr i him; unfold kpF; omega) (fun i j h1 h2 h => by
      obtain ⟨a1, a2⟩ := hr i h1
      obtain ⟨a3, a4⟩ := hr j h2
      unfold kpF at h
      exact hi i j h1 h2 (by omega)) fun t ht hne => by
      have hd : dfF b c t ≠ 0 := fun e => hne (by rw [e, gzero_mul (gexp_lt _)])
      have e2 := df_at hl (p := b.length - 1 - t) (by omega)
      rw [show b.length - 1 - (b.length - 1 - t) = t by omega] at e2
      obtain ⟨i, him, e3⟩ := hcov (b.length - 1 - t) (by omega) fun e => hd (by rw [e2, e]; exact Nat.xor_self _)
      exact ⟨i, him, by unfold kpF; omega⟩]
    rw [X_congr (g := fun i => gmul (dfF b c (kpF b pl i)) (gexp (r * kpF b pl i))) m fun t ht => by rw [if_pos ht, md_entry hr hrm ht, gpow_gexp, gmul_comm (gexp_lt _) (dfF_lt _ _ _), Nat.mul_comm]]
    exact Nat.xor_self _)
  intro i him
  rw [← h i him, if_pos him]
include hl hL hc hm hr hi hcov in
theorem fix_yes {p : Nat} (hp : p < b.length) : ∀ i, i ≤ m → (∃ t, t < i ∧ pl t = (p : Int)) → fixF b pl m i p = co c p
  | 0, _, h => by obtain ⟨t, ht, _⟩ := h; omega
  | i + 1, him, h => by
    unfold fixF
    by_cases q : (p : Int) = pl i
    · have hno : ∀ t, t < i → pl t ≠ (p : Int) := fun t ht e => by
        have := hi t i (by omega) (by omega) (by omega)
        omega
      rw [if_pos q, fix_no b pl m i hno, ← md_sol hl hL hc hm hr hi hcov i (by omega)]
      have : kpF b pl i = b.length - 1 - p := by unfold kpF; omega
      rw [this, df_at hl hp]
      show co b p ^^^ (co b p ^^^ co c p) = co c p
      rw [← Nat.xor_assoc, Nat.xor_self, Nat.zero_xor]
    · rw [if_neg q]
      obtain ⟨t, ht, e⟩ := h
      refine fix_yes hp i (by omega) ⟨t, ?_, e⟩
      by_cases q2 : t = i
      · rw [q2] at e; exact absurd e.symm q
      · omega
include hl hL hc hm hr hi hcov in
theorem fix_all {p : Nat} (hp : p < b.length) : fixF b pl m m p = co c p := by
  by_cases h : ∃ t, t < m ∧ pl t = (p : Int)
  · exact fix_yes hl hL hc hm hr hi hcov hp m (Nat.le_refl _) h
  · rw [fix_no b pl m m fun t ht e => h ⟨t, ht, e⟩]
    by_cases e : co b p = co c p
    · exact e
    · exact absurd (hcov p hp e) h
include hl h9 hL hc hm hr hi hcov in
/-- The word is mended. -/
theorem md_right : mdOk b pl m = true ∧ mdC b pl m = c := by
  have hg := md_good hL hr hi
  have hf := fun {p} hp => fix_all hl hL hc hm hr hi hcov (p := p) hp
  have h1 : ofN (fixF b pl m m) (b.length - 8) = c.take (c.length - 8) := by
    refine list_ext (by rw [ofN_len, List.length_take]; omega) fun k hk => ?_
    rw [ofN_len] at hk
    rw [byt_get (fun k => fixF_lt b pl m m k) hk, hf (by omega), co_take (by omega)]
  have h2 : ofN (fixF b pl m m) b.length = c := by
    refine list_ext (by rw [ofN_len]; exact hl.symm) fun k hk => ?_
    rw [ofN_len] at hk
    rw [byt_get (fun k => fixF_lt b pl m m k) hk, hf hk]
  have h3 : mdC b pl m = c := by
    unfold mdC
    rw [hg, if_pos rfl, h1]
    exact cw_enc (by omega) (by omega) hc
  refine ⟨?_, h3⟩
  unfold mdOk
  rw [hg, h3, h2]
  simp
end

/-! ### the decoder -/
section
variable {b c : List UInt8} (hl : c.length = b.length) (h9 : 9 ≤ b.length) (hL : b.length ≤ 231) (hc : ∀ j, j < 8 → syn0 c j = 0) {own : List Int} (hr : ∀ v ∈ own, 0 ≤ v ∧ v < (b.length : Int))
  (hnd : ∀ i j, i < own.length → j < own.length → gL own i = gL own j → i = j) (h8 : own.length + 2 * (pbL b c (gL own) own.length).length ≤ 8)
include hr in
theorem own_r : ∀ i, i < own.length → 0 ≤ gL own i ∧ gL own i < b.length := fun i hi => hr _ (gL_mem hi)
include hl hL hr in
/-- A place where they differ is erased or one of those that are wrong besides. -/
theorem df_place {p : Nat} (hp : p < b.length) (hne : co b p ≠ co c p) : (∃ i, i < own.length ∧ gL own i = (p : Int)) ∨ p ∈ pbL b c (gL own) own.length := by
  by_cases h : ∃ i, i < own.length ∧ gL own i = (p : Int)
  · exact Or.inl h
  · refine Or.inr (pb_mem.2 ⟨hp, (gw_ne hL (own_r hr) hp).2 ⟨?_, fun i hi e => h ⟨i, hi, e⟩⟩⟩)
    rw [df_at hl hp]
    exact xor_ne hne
theorem mem_getD {l : List Nat} {p : Nat} (h : p ∈ l) : ∃ i, i < l.length ∧ l.getD i 0 = p := by
  obtain ⟨i, hi, e⟩ := List.getElem_of_mem h
  exact ⟨i, hi, by rw [List.getD_eq_getElem?_getD, List.getElem?_eq_getElem hi]; exact e⟩
theorem getD_mem {l : List Nat} {i : Nat} (h : i < l.length) : l.getD i 0 ∈ l := by
  rw [List.getD_eq_getElem?_getD, List.getElem?_eq_getElem h]
  exact List.getElem_mem h
include hl h9 hL hc hr hnd h8 in
/-- With as many places as there are it works. -/
theorem try_right : decTry b own (pbL b c (gL own) own.length).length = some c := by
  have hown := own_r hr
  have hpl := pl_eq hl hL hc hown h8
  have hw := wr_ok hl hL hc hown h8
  have hal := allL2_len b own (pbL b c (gL own) own.length).length
  have hat := fun k => allL2_at (b := b) (own := own) (e := (pbL b c (gL own) own.length).length) (k := k)
  rw [hpl] at hal
  simp only [hpl] at hat
  have hin := allL2_in (e := (pbL b c (gL own) own.length).length) hr
  have hpg : ∀ {i}, i < (pbL b c (gL own) own.length).length → (pbL b c (gL own) own.length).getD i 0 < b.length ∧ ∀ t, t < own.length → gL own t ≠ (((pbL b c (gL own) own.length).getD i 0 : Nat) : Int) := fun {i} hi => by
    obtain ⟨a1, a2⟩ := pb_mem.1 (getD_mem hi)
    exact ⟨a1, ((gw_ne hL hown a1).1 a2).2⟩
  obtain ⟨m1, m2⟩ := md_right hl h9 hL hc (pl := gL (allL2 b own (pbL b c (gL own) own.length).length)) (m := (allL2 b own (pbL b c (gL own) own.length).length).length) (by omega)
    (fun i hi => hin _ (gL_mem hi)) (fun i j hi hj h => by
      rw [hat, hat] at h
      by_cases q1 : i < own.length
      · rw [if_pos q1] at h
        by_cases q2 : j < own.length
        · rw [if_pos q2] at h
          exact hnd i j q1 q2 h
        · rw [if_neg q2] at h
          exact absurd h ((hpg (i := j - own.length) (by omega)).2 i q1)
      · rw [if_neg q1] at h
        by_cases q2 : j < own.length
        · rw [if_pos q2] at h
          exact absurd h.symm ((hpg (i := i - own.length) (by omega)).2 j q2)
        · rw [if_neg q2] at h
          have e : (pbL b c (gL own) own.length).getD (i - own.length) 0 = (pbL b c (gL own) own.length).getD (j - own.length) 0 := by omega
          have := kk_inj (b := b) (c := c) (er := gL own) (n := own.length) (i := i - own.length) (j := j - own.length) (by omega) (by omega) (by unfold kkF; rw [e])
          omega) (fun p hp hne => by
      rcases df_place hl hL hr hp hne with ⟨i, hi, e⟩ | hm
      · exact ⟨i, by omega, by rw [hat, if_pos hi, e]⟩
      · obtain ⟨i, hi, e⟩ := mem_getD hm
        exact ⟨own.length + i, by omega, by rw [hat, if_neg (by omega), Nat.add_sub_cancel_left, e]⟩)
  unfold decTry
  rw [hw, m1, m2]
  rfl
include hl h9 hL hc hr h8 in
/-- Whatever it finds, it is the word. -/
theorem try_only {e : Nat} {c' : List UInt8} (he : own.length + 2 * e ≤ 8) (h : decTry b own e = some c') : c' = c := by
  unfold decTry at h
  split at h
  · rename_i hok
    rw [Bool.and_eq_true] at hok
    have hc' : mdC b (gL (allL2 b own e)) (allL2 b own e).length = c' := by cases h; rfl
    obtain ⟨hw, hmd⟩ := hok
    unfold wrOk at hw
    rw [Bool.and_eq_true] at hw
    have hple : (plL b (gL own) own.length e b.length).length = e := of_decide_eq_true hw.2
    unfold mdOk at hmd
    rw [Bool.and_eq_true, hc'] at hmd
    have hc2 : c' = ofN (fixF b (gL (allL2 b own e)) (allL2 b own e).length (allL2 b own e).length) b.length := by simpa using hmd.2
    have hc3 : encL (ofN (fixF b (gL (allL2 b own e)) (allL2 b own e).length (allL2 b own e).length) (b.length - 8)) = c' := by
      rw [← hc']
      unfold mdC
      rw [hmd.1, if_pos rfl]
    have l' : c'.length = b.length := by rw [hc2, ofN_len]
    have sy : ∀ j, j < 8 → syn0 c' j = 0 := by
      rw [← hc3]
      exact enc_syn (by rw [ofN_len]; omega) (by rw [ofN_len]; omega)
    refine df_eq (by omega) (van (dfF_lt c' c) (by omega) ((own.map Int.toNat ++ plL b (gL own) own.length e b.length ++ pbL b c (gL own) own.length).map fun p => b.length - 1 - p) (m := 8) ?_ (fun k hk h0 => ?_) fun j hj => ?_)
    · simp only [List.length_map, List.length_append]
      omega
    · have hp : b.length - 1 - k < b.length := by omega
      obtain ⟨p, hpe⟩ : ∃ p, b.length - 1 - k = p := ⟨_, rfl⟩
      rw [hpe] at hp
      have hne : co c' p ≠ co c p := fun e0 => h0 (by
        have := df_at (b := c') (c := c) (by omega) (p := p) (by omega)
        rw [show c'.length - 1 - p = k by omega, e0] at this
        rw [this]
        exact Nat.xor_self _)
      refine List.mem_map.2 ⟨p, ?_, by omega⟩
      rw [List.mem_append, List.mem_append]
      by_cases q : ∃ t, t < (allL2 b own e).length ∧ gL (allL2 b own e) t = (p : Int)
      · obtain ⟨t, ht, e1⟩ := q
        rw [allL2_at] at e1
        rw [allL2_len] at ht
        refine Or.inl ?_
        by_cases q2 : t < own.length
        · rw [if_pos q2] at e1
          exact Or.inl (List.mem_map.2 ⟨gL own t, gL_mem q2, by omega⟩)
        · rw [if_neg q2] at e1
          refine Or.inr ?_
          have : (plL b (gL own) own.length e b.length).getD (t - own.length) 0 = p := by omega
          rw [← this]
          exact getD_mem (by omega)
      · have e1 : co c' p = co b p := by
          rw [hc2, byt_get (fun k => fixF_lt b _ _ _ k) hp]
          exact fix_no b _ _ _ fun t ht e2 => q ⟨t, ht, e2⟩
        rw [e1] at hne
        rcases df_place hl hL hr hp hne with ⟨i, hi, e2⟩ | hm
        · exact Or.inl (Or.inl (List.mem_map.2 ⟨gL own i, gL_mem hi, by omega⟩))
        · exact Or.inr hm
    · rw [df_syn (by omega) (by omega), sy j hj, hc j hj]
      rfl
  · cases h
include hl h9 hL hc hr hnd h8 in
theorem decK_right : ∀ k e, e ≤ (pbL b c (gL own) own.length).length → (pbL b c (gL own) own.length).length < e + k → decK b own k e = some c
  | 0, e, h1, h2 => by omega
  | k + 1, e, h1, h2 => by
    show (if own.length + 2 * e ≤ 8 then (match decTry b own e with
      | some c => some c
      | none => decK b own k (e + 1)) else none) = some c
    rw [if_pos (by omega)]
    cases ht : decTry b own e with
    | some c' => rw [try_only hl h9 hL hc hr h8 (by omega) ht]
    | none =>
      refine decK_right k (e + 1) ?_ (by omega)
      have : e ≠ (pbL b c (gL own) own.length).length := fun q => by
        rw [q, try_right hl h9 hL hc hr hnd h8] at ht
        cases ht
      omega
include hl h9 hL hc hr hnd h8 in
/-- THE DECODER CORRECTS. -/
theorem dec_right : decR b own = some c := decK_right hl h9 hL hc hr hnd h8 5 0 (Nat.zero_le _) (by omega)
end
end Galois
