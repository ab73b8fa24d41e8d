/-
  OWN WORK. Block: what the elimination does, plainly.
-/
import Derived.Test.YtoefjmachoakpaaGreatDoorBK
namespace Galois
open Go Go.Proofs Eng
set_option linter.unusedVariables false
set_option linter.unusedSimpArgs false
set_option maxRecDepth 100000

/-- The rows' sums are zero. -/
def kerV (A : Mat) (n m : Nat) (v : Nat → Nat) : Prop := ∀ j, j < n → X (fun c => gmul (A j c) (v c)) m = 0
theorem ker_swap {A : Mat} {n m i k : Nat} {v : Nat → Nat} (hi : i < n) (hk : k < n) : kerV (swapM A i k) n m v ↔ kerV A n m v := by
  have e1 : ∀ j c, swapM A i k j c = A (if j = k then i else if j = i then k else j) c := fun j c => by
    unfold swapM
    split
    · rfl
    · split <;> rfl
  constructor
  · intro h j hj
    by_cases q : j = i
    · have := h k hk
      simp only [e1, if_true] at this
      rw [q]; exact this
    · by_cases q2 : j = k
      · have := h i hi
        simp only [e1] at this
        by_cases q3 : i = k
        · exact absurd (q2.trans q3.symm) q
        · rw [if_neg q3] at this
          simp only [if_true] at this
          rw [q2]; exact this
      · have := h j hj
        simp only [e1] at this
        rw [if_neg q2, if_neg q] at this
        exact this
  · intro h j hj
    simp only [e1]
    refine h _ ?_
    split
    · exact hi
    · split
      · exact hk
      · exact hj
theorem X_lt' {f : Nat → Nat} (h : ∀ j, f j < 256) (n : Nat) : X f n < 256 := X_lt n fun j _ => h j
theorem ker_elim {S : Mat} (hS : byteM S) {n m i : Nat} {v : Nat → Nat} (hv : ∀ c, v c < 256) (hi : i < n) (hp : S i i ≠ 0) : kerV (elimM S i n) n m v ↔ kerV S n m v := by
  have hd : gdiv 1 (S i i) < 256 := gdiv_lt _ _
  have hd0 : gdiv 1 (S i i) ≠ 0 := fun e => by
    have := gdiv_mul (a := 1) (b := S i i) (by decide) (hS i i) hp
    rw [e, gzero_mul (hS i i)] at this
    cases this
  have hu : X (fun c => gmul (unitR S i c) (v c)) m = gmul (gdiv 1 (S i i)) (X (fun c => gmul (S i c) (v c)) m) := by
    rw [← X_mul]
    exact X_congr m fun c _ => by unfold unitR; rw [gmul_assoc _ hd (hS i c)]
  have hul := fun c => unitR_lt hS i c
  have hj : ∀ j, j < n → j ≠ i → X (fun c => gmul (elimM S i n j c) (v c)) m = Nat.xor (X (fun c => gmul (S j c) (v c)) m) (gmul (S j i) (X (fun c => gmul (unitR S i c) (v c)) m)) := fun j hj q => by
    rw [← X_mul, ← X_xor]
    exact X_congr m fun c _ => by
      unfold elimM
      rw [if_neg q, if_pos hj, gmul_lin _ (hS j c) (gmul_lt (hS j i)), gmul_assoc _ (hS j i) (hul c)]
  have hi0 : X (fun c => gmul (elimM S i n i c) (v c)) m = X (fun c => gmul (unitR S i c) (v c)) m := X_congr m fun c _ => by unfold elimM; rw [if_pos rfl]
  have hXl : ∀ j, X (fun c => gmul (S j c) (v c)) m < 256 := fun j => X_lt' (fun c => gmul_lt (hS j c)) m
  constructor
  · intro h
    have h1 := h i hi
    rw [hi0, hu] at h1
    have h2 : X (fun c => gmul (S i c) (v c)) m = 0 := by
      by_cases e : X (fun c => gmul (S i c) (v c)) m = 0
      · exact e
      · exact (gmul_ne hd (hXl i) hd0 e h1).elim
    intro j hjn
    by_cases q : j = i
    · rw [q]; exact h2
    · have h3 := h j hjn
      rw [hj j hjn q, hu, h2, gmul_zero, gmul_zero, xor0] at h3
      exact h3
  · intro h j hjn
    by_cases q : j = i
    · rw [q, hi0, hu, h i hi, gmul_zero]
    · rw [hj j hjn q, hu, h i hi, gmul_zero, gmul_zero, xor0, h j hjn]
/-- Each round that finds a row keeps what is sent to zero. -/
theorem ker_rounds {A : Mat} (hA : byteM A) {n m : Nat} {v : Nat → Nat} (hv : ∀ c, v c < 256) : ∀ i, i ≤ n → goodM A n i = true → (kerV (roundsM A n i) n m v ↔ kerV A n m v)
  | 0, _, _ => Iff.rfl
  | i + 1, hi, hg => by
    simp only [goodM, Bool.and_eq_true, decide_eq_true_eq] at hg
    obtain ⟨p1, p2, p3⟩ := pivK_lt (show i < n by omega) hg.2
    have hb := roundsM_byte hA n i
    rw [← ker_rounds hA hv i (by omega) hg.1]
    show kerV (elimM (swapM (roundsM A n i) i (pivK (roundsM A n i) n i)) i n) n m v ↔ _
    rw [ker_elim (swapM_byte hb _ _) hv (by omega) (by
      unfold swapM
      by_cases q : i = pivK (roundsM A n i) n i
      · rw [if_pos q, q]
        rw [← q] at p3 ⊢
        exact p3
      · rw [if_neg q, if_pos rfl]
        exact p3), ker_swap (by omega) p2]
/-- The columns that are done. -/
theorem unit_rounds {A : Mat} (hA : byteM A) {n : Nat} : ∀ i, i ≤ n → goodM A n i = true → ∀ c, c < i → ∀ j, j < n → roundsM A n i j c = if j = c then 1 else 0
  | 0, _, _ => fun c hc => by omega
  | i + 1, hi, hg => by
    simp only [goodM, Bool.and_eq_true, decide_eq_true_eq] at hg
    obtain ⟨p1, p2, p3⟩ := pivK_lt (show i < n by omega) hg.2
    have hb := roundsM_byte hA n i
    have ih := unit_rounds hA i (by omega) hg.1
    intro c hc j hj
    show elimM (swapM (roundsM A n i) i (pivK (roundsM A n i) n i)) i n j c = _
    generalize hk : pivK (roundsM A n i) n i = k at *
    generalize hR : roundsM A n i = R at *
    have hsb := swapM_byte hb i k
    have hpiv : swapM R i k i i ≠ 0 := by
      unfold swapM
      by_cases q : i = k
      · rw [if_pos q]; rw [← q] at p3; exact p3
      · rw [if_neg q, if_pos rfl]; exact p3
    by_cases hci : c = i
    · subst hci
      have hdm := gdiv_mul (a := 1) (b := swapM R c k c c) (by decide) (hsb c c) hpiv
      unfold elimM unitR
      by_cases q : j = c
      · rw [if_pos q, if_pos q, hdm]
      · rw [if_neg q, if_neg q, if_pos hj, hdm, gmul_one (hsb j c)]
        exact Nat.xor_self _
    · have hc' : c < i := by omega
      have hs : ∀ j, j < n → swapM R i k j c = if j = c then 1 else 0 := fun j hj => by
        unfold swapM
        by_cases q : j = k
        · rw [if_pos q, ih c hc' i (by omega), if_neg (by omega), if_neg (by omega)]
        · rw [if_neg q]
          by_cases q2 : j = i
          · rw [if_pos q2, ih c hc' k p2, if_neg (by omega), if_neg (by omega)]
          · rw [if_neg q2, ih c hc' j hj]
      have hu0 : unitR (swapM R i k) i c = 0 := by
        unfold unitR
        rw [hs i (by omega), if_neg (by omega), gmul_zero]
      unfold elimM
      by_cases q : j = i
      · rw [if_pos q, hu0, if_neg (by omega)]
      · rw [if_neg q, if_pos hj, hu0, gmul_zero, xor0, hs j hj]
/-- A row of units. -/
theorem X_unit {f v : Nat → Nat} {n k : Nat} (hk : k < n) (hv : ∀ c, v c < 256) (h : ∀ c, c < n → f c = if k = c then 1 else 0) : X (fun c => gmul (f c) (v c)) n = v k := by
  rw [X_one (a := k) n hk fun c hc hne => by rw [h c hc, if_neg (by omega), gzero_mul (hv c)], h k hk, if_pos rfl, gone_mul (hv k)]
/-- A solution is the one that is found. -/
theorem sol_unique {A : Mat} (hA : byteM A) {n : Nat} {v : Nat → Nat} (hv : ∀ c, v c < 256) (h1 : v n = 1) (hg : goodM A n n = true) (h : kerV A n (n + 1) v) : ∀ k, k < n → v k = solN A n k := fun k hk => by
  have hR := (ker_rounds hA hv n (Nat.le_refl _) hg).2 h k hk
  have hu := unit_rounds hA n (Nat.le_refl _) hg
  have hb := roundsM_byte hA n n
  have hX : Nat.xor (X (fun c => gmul (roundsM A n n k c) (v c)) n) (gmul (roundsM A n n k n) (v n)) = 0 := hR
  rw [X_unit hk hv fun c hc => hu c hc k hk, h1, gmul_one (hb k n)] at hX
  show v k = roundsM A n n k n
  by_cases e : v k = roundsM A n n k n
  · exact e
  · exact (xor_ne e hX).elim
/-- Where nothing but zero is sent to zero, each round finds a row. -/
theorem good_of {A : Mat} (hA : byteM A) {n : Nat} (h : ∀ v : Nat → Nat, (∀ c, v c < 256) → kerV A n n v → ∀ c, c < n → v c = 0) : ∀ i, i ≤ n → goodM A n i = true
  | 0, _ => rfl
  | i + 1, hi => by
    have ih := good_of hA h i (by omega)
    simp only [goodM, Bool.and_eq_true, decide_eq_true_eq]
    refine ⟨ih, ?_⟩
    by_cases q : 0 ≤ pivF (roundsM A n i) n i
    · exact q
    exfalso
    have hb := roundsM_byte hA n i
    have hu := unit_rounds hA i (by omega) ih
    have hn : noneTo (fun t => roundsM A n i (i + t) i != 0) (n - i) = true := by
      cases e : noneTo (fun t => roundsM A n i (i + t) i != 0) (n - i) with
      | true => rfl
      | false => exact absurd ((fstI_pos _ _).2 e) q
    have hz : ∀ j, i ≤ j → j < n → roundsM A n i j i = 0 := fun j h1 h2 => by
      have := noneTo_iff.1 hn (j - i) (by omega)
      rw [show i + (j - i) = j by omega] at this
      simpa using this
    have hv : ∀ c, (fun c => if c < i then roundsM A n i c i else if c = i then 1 else 0) c < 256 := fun c => by
      try dsimp only
      split
      · exact hb _ _
      · split <;> decide
    have hk : kerV (roundsM A n i) n n (fun c => if c < i then roundsM A n i c i else if c = i then 1 else 0) := fun j hj => by
      have e : X (fun c => gmul (roundsM A n i j c) ((fun c => if c < i then roundsM A n i c i else if c = i then 1 else 0) c)) n = X (fun c => gmul (roundsM A n i j c) ((fun c => if c < i then roundsM A n i c i else if c = i then 1 else 0) c)) (i + 1) :=
        X_tail (i + 1) n (by omega) fun c h1 h2 => by
          try dsimp only
          rw [if_neg (by omega), if_neg (by omega), gmul_zero]
      rw [e]
      show Nat.xor (X _ i) (gmul (roundsM A n i j i) _) = 0
      try dsimp only
      rw [if_neg (Nat.lt_irrefl _), if_pos rfl, gmul_one (hb j i)]
      by_cases hji : j < i
      · rw [X_unit (v := fun c => if c < i then roundsM A n i c i else if c = i then 1 else 0) hji hv fun c hc => hu c hc j hj]
        try dsimp only
        rw [if_pos hji]
        exact Nat.xor_self _
      · rw [hz j (by omega) hj, xor0, X_congr (g := fun _ => 0) i fun c hc => by rw [hu c hc j hj, if_neg (by omega), gzero_mul (hv c)], X_zero]
    have := h _ hv ((ker_rounds hA hv i (by omega) ih).1 hk) i (by omega)
    try dsimp only at this
    rw [if_neg (Nat.lt_irrefl _), if_pos rfl] at this
    cases this

/-! ### sums -/
theorem X_re {k : Nat → Nat} {L : Nat} : ∀ (m : Nat) (f : Nat → Nat), (∀ i, i < m → k i < L) → (∀ i j, i < m → j < m → k i = k j → i = j) → (∀ t, t < L → f t ≠ 0 → ∃ i, i < m ∧ k i = t) → X f L = X (fun i => f (k i)) m
  | 0, f, _, _, h => by
    rw [X_congr (g := fun _ => 0) L fun t ht => ?_, X_zero]
    · rfl
    · by_cases e : f t = 0
      · exact e
      · obtain ⟨i, hi, _⟩ := h t ht e
        omega
  | m + 1, f, hk, hj, h => by
    have ih := X_re m (fun t => if t = k m then 0 else f t) (fun i hi => hk i (by omega)) (fun i j hi hj' => hj i j (by omega) (by omega)) (fun t ht hne => by
      try dsimp only at hne
      by_cases e : t = k m
      · rw [if_pos e] at hne; exact absurd rfl hne
      · rw [if_neg e] at hne
        obtain ⟨i, hi, he⟩ := h t ht hne
        refine ⟨i, ?_, he⟩
        by_cases q : i = m
        · rw [q] at he; exact absurd he.symm e
        · omega)
    have e1 : X f L = Nat.xor (X (fun t => if t = k m then 0 else f t) L) (X (fun t => if t = k m then f t else 0) L) := by
      rw [← X_xor]
      exact X_congr L fun t _ => by
        by_cases e : t = k m
        · rw [if_pos e, if_pos e, xor0']
        · rw [if_neg e, if_neg e, xor0]
    have e2 : X (fun t => if t = k m then f t else 0) L = f (k m) := by
      rw [X_one (a := k m) L (hk m (by omega)) fun t _ hne => if_neg hne, if_pos rfl]
    rw [e1, e2, ih]
    show Nat.xor _ _ = Nat.xor _ _
    congr 1
    refine X_congr m fun i hi => ?_
    rw [if_neg fun e => by have := hj i m (by omega) (by omega) e; omega]
/-! ### Vandermonde -/
theorem gpow_succ (x j : Nat) : gpow x (j + 1) = gmul (gpow x j) x := rfl
theorem vn_T {F x : Nat → Nat} (hF : ∀ k, F k < 256) (hx : ∀ k, x k < 256) {n m : Nat} (h : ∀ j, j < m → X (fun k => gmul (F k) (gpow (x k) j)) n = 0) : ∀ (R : List Nat), (∀ r ∈ R, r < 256) → ∀ j, j + R.length < m →
    X (fun k => gmul (F k) (gmul (gpow (x k) j) (prR (x k) R))) n = 0
  | [], _, j, hj => by
    rw [← h j (by simpa using hj)]
    exact X_congr n fun k _ => by rw [show prR (x k) [] = 1 from rfl, gmul_one (gpow_lt _ _)]
  | r :: R, hR, j, hj => by
    have hr := fun s hs => hR s (List.mem_cons_of_mem r hs)
    have hrr := hR r (List.mem_cons_self ..)
    have h1 := vn_T hF hx h R hr (j + 1) (by simp only [List.length_cons] at hj; omega)
    have h2 := vn_T hF hx h R hr j (by simp only [List.length_cons] at hj; omega)
    have e : ∀ k, gmul (F k) (gmul (gpow (x k) j) (prR (x k) (r :: R))) = Nat.xor (gmul (F k) (gmul (gpow (x k) (j + 1)) (prR (x k) R))) (gmul r (gmul (F k) (gmul (gpow (x k) j) (prR (x k) R)))) := fun k => by
      have lQ := prR_lt (hx k) R hr
      have lk := hx k
      have lj := gpow_lt (x k) j
      show gmul (F k) (gmul (gpow (x k) j) (gmul (Nat.xor (x k) r) (prR (x k) R))) = _
      generalize prR (x k) R = Q at *
      rw [gmul_lin Q lk hrr, gmul_linr, gmul_linr, gpow_succ]
      congr 1
      · rw [gmul_assoc _ lj lk]
      · rw [gmul_assoc _ lj hrr, gmul_comm lj hrr, ← gmul_assoc _ hrr lj, gmul_assoc _ (hF k) hrr, gmul_comm (hF k) hrr, ← gmul_assoc _ hrr (hF k)]
    rw [X_congr n fun k _ => e k, X_xor, X_mul, h1, h2, gmul_zero]
    rfl
/-- Different points: few weights, no zero. -/
theorem vn {F x : Nat → Nat} (hF : ∀ k, F k < 256) (hx : ∀ k, x k < 256) {n m : Nat} (hi : ∀ i j, i < n → j < n → x i = x j → i = j) (P : List Nat) (hP : P.length ≤ m) (hs : ∀ k, k < n → F k ≠ 0 → k ∈ P) (h : ∀ j, j < m → X (fun k => gmul (F k) (gpow (x k) j)) n = 0) : ∀ k, k < n → F k = 0 := by
  intro i hin
  by_cases h0 : F i = 0
  · exact h0
  exfalso
  have hiP := hs i hin h0
  have hR : ∀ r ∈ ((P.filter fun k => decide (k ≠ i) && decide (k < n)).map x), r < 256 := fun r hr => by
    obtain ⟨k, -, rfl⟩ := List.mem_map.1 hr
    exact hx k
  have hlen : ((P.filter fun k => decide (k ≠ i) && decide (k < n)).map x).length < m := by
    rw [List.length_map]
    refine Nat.lt_of_lt_of_le ?_ hP
    apply Nat.lt_of_le_of_ne (List.length_filter_le ..)
    intro e
    have := List.length_filter_eq_length_iff.1 e i hiP
    simp at this
  have hT := vn_T hF hx h _ hR 0 (by omega)
  rw [X_one (a := i) n hin fun k hk hne => ?_] at hT
  · refine gmul_ne (hF i) (gmul_lt (gpow_lt _ _)) h0 ?_ hT
    refine gmul_ne (gpow_lt _ _) (prR_lt (hx _) _ hR) (by show 1 ≠ 0; decide) (prR_ne (hx _) _ hR fun hm => ?_)
    obtain ⟨k, hk, e⟩ := List.mem_map.1 hm
    have hk := List.mem_filter.1 hk
    have hk2 := hk.2
    rw [Bool.and_eq_true, decide_eq_true_eq, decide_eq_true_eq] at hk2
    exact hk2.1 (hi _ _ hk2.2 hin e)
  · by_cases hz : F k = 0
    · rw [hz, gzero_mul (gmul_lt (gpow_lt _ _))]
    · rw [prR_zero (hx _) _ hR (List.mem_map.2 ⟨k, List.mem_filter.2 ⟨hs k hk hz, by rw [Bool.and_eq_true, decide_eq_true_eq, decide_eq_true_eq]; exact ⟨hne, hk⟩⟩, rfl⟩), gmul_zero, gmul_zero]
/-- The erased places' points. -/
def rlE (L : Nat) (er : Nat → Int) : Nat → List Nat
  | 0 => []
  | k + 1 => pwN ((L : Int) - 1 - er k) :: rlE L er k
/-- The weights that are left. -/
def gwF (b c : List UInt8) (er : Nat → Int) (n k : Nat) : Nat := gmul (dfF b c k) (prR (gexp k) (rlE b.length er n))
/-- Their places, from the front. -/
def pbL (b c : List UInt8) (er : Nat → Int) (n : Nat) : List Nat := (List.range b.length).filter fun p => decide (gwF b c er n (b.length - 1 - p) ≠ 0)
/-! ### the places -/
section
variable {b c : List UInt8} (hl : c.length = b.length) (hL : b.length ≤ 231) (hc : ∀ j, j < 8 → syn0 c j = 0) (er : Nat → Int) (n : Nat)
include hl hc in
include hl hc in
include hl hL hc in
include hl hL hc in
include hl hL hc in
end

theorem pwN_exp (z : Int) : pwN z = gexp (expI z) := by
  have h1 := powI_eq z
  unfold powI at h1
  rw [if_neg (by decide)] at h1
  have h2 : ((gpow (Int.toNat 2) (expI z) : Nat) : Int) = (pwN z : Nat) := h1
  have h3 : gpow 2 (expI z) = pwN z := by
    have : gpow (Int.toNat 2) (expI z) = pwN z := by omega
    exact this
  rw [← h3]
  have h4 := gpow_gexp 1 (expI z)
  rw [Nat.one_mul] at h4
  exact h4
theorem pwN_nat (k : Nat) : pwN (k : Nat) = gexp k := by
  rw [pwN_exp, ← gexp_mod k]
  rfl
theorem locL_len (b : List UInt8) (er : Nat → Int) (n e : Nat) : (locL b er n e).length = e + 1 := by
  unfold locL
  rw [List.length_append, byt_len]
  simp
  omega
theorem inB_true {f : Nat → Int} {n : Nat} {v : Int} : inB f n v = true ↔ ∃ i, i < n ∧ f i = v := by
  unfold inB
  constructor
  · intro h
    have h : noneTo (fun k => v == f k) n = false := by simpa using h
    refine Classical.byContradiction fun hn => ?_
    rw [noneTo_iff.2 fun i hi => ?_] at h
    · cases h
    · have : ¬ v = f i := fun e => hn ⟨i, hi, e.symm⟩
      simpa using this
  · rintro ⟨i, hi, rfl⟩
    cases h : noneTo (fun k => f i == f k) n with
    | false => rfl
    | true => have := noneTo_iff.1 h i hi; simp at this
section
variable {b c : List UInt8} (hl : c.length = b.length) (h9 : 9 ≤ b.length) (hL : b.length ≤ 231) (hc : ∀ j, j < 8 → syn0 c j = 0) {er : Nat → Int} {n : Nat} (hr : ∀ i, i < n → 0 ≤ er i ∧ er i < b.length)
include hl hL hc hr in
include hl hL hc hr in
end
/-! ### mending -/
theorem cw_enc {c : List UInt8} (h9 : 9 ≤ c.length) (hL : c.length ≤ 231) (hc : ∀ j, j < 8 → syn0 c j = 0) : encL (c.take (c.length - 8)) = c := by
  have ht : (c.take (c.length - 8)).length = c.length - 8 := by rw [List.length_take]; omega
  have le := encL_ln (d := c.take (c.length - 8)) (by omega) (by omega)
  refine code_pre (by omega) (by omega) (enc_syn (by omega) (by omega)) hc (fun k hk => ?_) (by omega)
  rw [encL_of (by omega) (by omega), co_app1 (by omega), co_take (by omega)]
theorem df_at {b c : List UInt8} (hl : c.length = b.length) {p : Nat} (hp : p < b.length) : dfF b c (b.length - 1 - p) = Nat.xor (co b p) (co c p) := by
  unfold dfF
  rw [co_rev (by omega), co_rev (by omega), hl, show b.length - 1 - (b.length - 1 - p) = p by omega]
section
variable {b c : List UInt8} (hl : c.length = b.length) (h9 : 9 ≤ b.length) (hL : b.length ≤ 231) (hc : ∀ j, j < 8 → syn0 c j = 0) {pl : Nat → Int} {m : Nat} (hm : m ≤ 8) (hr : ∀ i, i < m → 0 ≤ pl i ∧ pl i < b.length)
  (hi : ∀ i j, i < m → j < m → pl i = pl j → i = j) (hcov : ∀ p, p < b.length → co b p ≠ co c p → ∃ i, i < m ∧ pl i = (p : Int))
theorem fix_no (b : List UInt8) (pl : Nat → Int) (m : Nat) {p : Nat} : ∀ i, (∀ t, t < i → pl t ≠ (p : Int)) → fixF b pl m i p = co b p
  | 0, _ => rfl
  | i + 1, h => by
    unfold fixF
    rw [if_neg fun e => h i (by omega) e.symm, fix_no b pl m i fun t ht => h t (by omega)]
def kpF (b : List UInt8) (pl : Nat → Int) (i : Nat) : Nat := b.length - 1 - (pl i).toNat
include hr in
theorem md_entry {r i : Nat} (hrm : r < m) (him : i < m) : mendM b pl m r i = gpow (gexp (kpF b pl i)) r := by
  obtain ⟨r1, r2⟩ := hr i him
  unfold mendM
  rw [if_pos hrm, if_pos him, gpow_gexp, show ((b.length : Int) - 1 - pl i) = ((kpF b pl i : Nat) : Int) by unfold kpF; omega, show ((r : Nat) : Int) * ((kpF b pl i : Nat) : Int) = ((kpF b pl i * r : Nat) : Int) by rw [Nat.mul_comm, Int.natCast_mul], pwN_nat]
include hL hr hi in
theorem md_good : mdGood b pl m = true := by
  refine good_of (mendM_byte b pl m) (fun v hv hk => ?_) m (Nat.le_refl _)
  refine vn (F := v) (x := fun i => gexp (kpF b pl i)) hv (fun _ => gexp_lt _) (n := m) (m := m) (fun i j h1 h2 h => ?_) (List.range m) (by simp) (fun k hk _ => List.mem_range.2 hk) fun j hj => ?_
  · obtain ⟨a1, a2⟩ := hr i h1
    obtain ⟨a3, a4⟩ := hr j h2
    have := gexp_inj (by unfold kpF; omega) (by unfold kpF; omega) h
    unfold kpF at this
    exact hi i j h1 h2 (by omega)
  · rw [← hk j hj]
    exact X_congr m fun i him => by rw [md_entry hr hj him, gmul_comm (hv i) (gpow_lt _ _)]
include hl hL hc hm hr hi hcov in
theorem md_sol : ∀ i, i < m → dfF b c (kpF b pl i) = solN (mendM b pl m) m i := by
  have hv : ∀ t, (fun t => if t < m then dfF b c (kpF b pl t) else 1) t < 256 := fun t => by
    show (if t < m then dfF b c (kpF b pl t) else 1) < 256
    split
    · exact dfF_lt _ _ _
    · decide
  have h := sol_unique (mendM_byte b pl m) (n := m) hv (if_neg (Nat.lt_irrefl _)) (md_good hL hr hi) (fun r hrm => by
    show Nat.xor (X (fun t => gmul (mendM b pl m r t) (if t < m then dfF b c (kpF b pl t) else 1)) m) (gmul (mendM b pl m r m) (if m < m then dfF b c (kpF b pl m) else 1)) = 0
    have e0 : mendM b pl m r m = syn0 b r := by unfold mendM; rw [if_pos hrm, if_neg (Nat.lt_irrefl _), if_pos rfl]
    rw [if_neg (Nat.lt_irrefl _), gmul_one (mendM_byte b pl m r m), e0]
    have e1 := df_syn hl (j := r) (by omega)
    rw [hc r (by omega), xor0] at e1
    rw [← e1]
    unfold syX
    rw [X_re m (fun t => gmul (dfF b c t) (gexp (r * t))) (k := kpF b pl) (fun i him => by have := hr i him; unfold kpF; omega) (fun i j h1 h2 h => by
      obtain ⟨a1, a2⟩ := hr i h1
      obtain ⟨a3, a4⟩ := hr j h2
      unfold kpF at h
      exact hi i j h1 h2 (by omega)) fun t ht hne => by
      have hd : dfF b c t ≠ 0 := fun e => hne (by rw [e, gzero_mul (gexp_lt _)])
      have e2 := df_at hl (p := b.length - 1 - t) (by omega)
      rw [show b.length - 1 - (b.length - 1 - t) = t by omega] at e2
      obtain ⟨i, him, e3⟩ := hcov (b.length - 1 - t) (by omega) fun e => hd (by rw [e2, e]; exact Nat.xor_self _)
      exact ⟨i, him, by unfold kpF; omega⟩]
    rw [X_congr (g := fun i => gmul (dfF b c (kpF b pl i)) (gexp (r * kpF b pl i))) m fun t ht => by rw [if_pos ht, md_entry hr hrm ht, gpow_gexp, gmul_comm (gexp_lt _) (dfF_lt _ _ _), Nat.mul_comm]]
    exact Nat.xor_self _)
  intro i him
  rw [← h i him, if_pos him]
include hl hL hc hm hr hi hcov in
theorem fix_yes {p : Nat} (hp : p < b.length) : ∀ i, i ≤ m → (∃ t, t < i ∧ pl t = (p : Int)) → fixF b pl m i p = co c p
  | 0, _, h => by obtain ⟨t, ht, _⟩ := h; omega
  | i + 1, him, h => by
    unfold fixF
    by_cases q : (p : Int) = pl i
    · have hno : ∀ t, t < i → pl t ≠ (p : Int) := fun t ht e => by
        have := hi t i (by omega) (by omega) (by omega)
        omega
      rw [if_pos q, fix_no b pl m i hno, ← md_sol hl hL hc hm hr hi hcov i (by omega)]
      have : kpF b pl i = b.length - 1 - p := by unfold kpF; omega
      rw [this, df_at hl hp]
      show co b p ^^^ (co b p ^^^ co c p) = co c p
      rw [← Nat.xor_assoc, Nat.xor_self, Nat.zero_xor]
    · rw [if_neg q]
      obtain ⟨t, ht, e⟩ := h
      refine fix_yes hp i (by omega) ⟨t, ?_, e⟩
      by_cases q2 : t = i
      · rw [q2] at e; exact absurd e.symm q
      · omega
include hl hL hc hm hr hi hcov in
theorem fix_all {p : Nat} (hp : p < b.length) : fixF b pl m m p = co c p := by
  by_cases h : ∃ t, t < m ∧ pl t = (p : Int)
  · exact fix_yes hl hL hc hm hr hi hcov hp m (Nat.le_refl _) h
  · rw [fix_no b pl m m fun t ht e => h ⟨t, ht, e⟩]
    by_cases e : co b p = co c p
    · exact e
    · exact absurd (hcov p hp e) h
include hl h9 hL hc hm hr hi hcov in
/-- The word is mended. -/
theorem md_right : mdOk b pl m = true ∧ mdC b pl m = c := by
  have hg := md_good hL hr hi
  have hf := fun {p} hp => fix_all hl hL hc hm hr hi hcov (p := p) hp
  have h1 : ofN (fixF b pl m m) (b.length - 8) = c.take (c.length - 8) := by
    refine list_ext (by rw [ofN_len, List.length_take]; omega) fun k hk => ?_
    rw [ofN_len] at hk
    rw [byt_get (fun k => fixF_lt b pl m m k) hk, hf (by omega), co_take (by omega)]
  have h2 : ofN (fixF b pl m m) b.length = c := by
    refine list_ext (by rw [ofN_len]; exact hl.symm) fun k hk => ?_
    rw [ofN_len] at hk
    rw [byt_get (fun k => fixF_lt b pl m m k) hk, hf hk]
  have h3 : mdC b pl m = c := by
    unfold mdC
    rw [hg, if_pos rfl, h1]
    exact cw_enc (by omega) (by omega) hc
  refine ⟨?_, h3⟩
  unfold mdOk
  rw [hg, h3, h2]
  simp
end

/-! ### the decoder -/
section
variable {b c : List UInt8} (hl : c.length = b.length) (h9 : 9 ≤ b.length) (hL : b.length ≤ 231) (hc : ∀ j, j < 8 → syn0 c j = 0) {own : List Int} (hr : ∀ v ∈ own, 0 ≤ v ∧ v < (b.length : Int))
  (hnd : ∀ i j, i < own.length → j < own.length → gL own i = gL own j → i = j) (h8 : own.length + 2 * (pbL b c (gL own) own.length).length ≤ 8)
include hr in
include hl hL hr in
include hl h9 hL hc hr hnd h8 in
include hl h9 hL hc hr h8 in
include hl h9 hL hc hr hnd h8 in
include hl h9 hL hc hr hnd h8 in
end
end Galois
