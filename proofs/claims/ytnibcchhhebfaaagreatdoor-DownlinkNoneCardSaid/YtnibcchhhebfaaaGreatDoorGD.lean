/-
  OWN WORK. Galois: polynomials, plainly: products, values, derivatives, quotients.
-/
import Derived.Test.YtnibcchhhebfaaaGreatDoorG7
namespace Galois
open Go Go.Proofs Eng
set_option linter.unusedVariables false
set_option linter.unusedSimpArgs false

/-! ### sums of bytes -/
def X (f : Nat → Nat) : Nat → Nat
  | 0 => 0
  | n + 1 => Nat.xor (X f n) (f n)
theorem X_lt {f : Nat → Nat} : ∀ n, (∀ j, j < n → f j < 256) → X f n < 256
  | 0, _ => by show 0 < 256; decide
  | n + 1, h => xor_lt (X_lt n fun j hj => h j (by omega)) (h n (by omega))
theorem X_congr {f g : Nat → Nat} : ∀ n, (∀ j, j < n → f j = g j) → X f n = X g n
  | 0, _ => rfl
  | n + 1, h => by simp only [X]; rw [X_congr n fun j hj => h j (by omega), h n (by omega)]
theorem X_tail {f : Nat → Nat} (n : Nat) : ∀ m, n ≤ m → (∀ j, n ≤ j → j < m → f j = 0) → X f m = X f n
  | 0, h, _ => by obtain rfl : n = 0 := by omega
                  rfl
  | m + 1, h, hz => by
    by_cases e : n = m + 1
    · rw [e]
    · simp only [X]
      rw [hz m (by omega) (by omega), xor0, X_tail n m (by omega) fun j h1 h2 => hz j h1 (by omega)]
theorem xor_mix (a b c d : Nat) : Nat.xor (Nat.xor a b) (Nat.xor c d) = Nat.xor (Nat.xor a c) (Nat.xor b d) := by
  show (a ^^^ b) ^^^ (c ^^^ d) = (a ^^^ c) ^^^ (b ^^^ d)
  ac_rfl
theorem X_xor (f g : Nat → Nat) : ∀ n, X (fun j => Nat.xor (f j) (g j)) n = Nat.xor (X f n) (X g n)
  | 0 => by show 0 = Nat.xor 0 0; decide
  | n + 1 => by
    simp only [X]
    rw [X_xor f g n, xor_mix]
theorem X_mul (c : Nat) (f : Nat → Nat) : ∀ n, X (fun j => gmul c (f j)) n = gmul c (X f n)
  | 0 => (gmul_zero c).symm
  | n + 1 => by
    simp only [X]
    rw [X_mul c f n, gmul_linr]
theorem X_zero : ∀ n, X (fun _ => 0) n = 0
  | 0 => rfl
  | n + 1 => by simp only [X]; rw [X_zero n]; rfl
theorem X_shift (f : Nat → Nat) : ∀ n, X (fun j => f (j + 1)) n = Nat.xor (X f (n + 1)) (f 0)
  | 0 => by
    show 0 = Nat.xor (Nat.xor 0 (f 0)) (f 0)
    rw [xor0']
    exact (Nat.xor_self (f 0)).symm
  | n + 1 => by
    show Nat.xor (X (fun j => f (j + 1)) n) (f (n + 1)) = Nat.xor (Nat.xor (X f (n + 1)) (f (n + 1))) (f 0)
    rw [X_shift f n, xor_swap]
theorem X_at (a v : Nat) : ∀ n, X (fun j => if j = a then v else 0) n = if a < n then v else 0
  | 0 => by simp [X]
  | n + 1 => by
    simp only [X]
    rw [X_at a v n]
    by_cases h1 : n = a
    · subst h1
      rw [if_neg (by omega), if_pos rfl, if_pos (by omega), xor0']
    · rw [if_neg h1, xor0]
      by_cases h2 : a < n
      · rw [if_pos h2, if_pos (by omega)]
      · rw [if_neg h2, if_neg (by omega)]
theorem X_from {f : Nat → Nat} {a : Nat} (h : ∀ k, k < a → f k = 0) : ∀ m, X f (a + m) = X (fun j => f (a + j)) m
  | 0 => by
    show X f a = 0
    rw [X_congr (g := fun _ => 0) a h, X_zero]
  | m + 1 => by
    show Nat.xor (X f (a + m)) (f (a + m)) = Nat.xor (X (fun j => f (a + j)) m) (f (a + m))
    rw [X_from h m]
/-! ### products -/
def cv (F G : Nat → Nat) (k : Nat) : Nat := X (fun j => gmul (F j) (G (k - j))) (k + 1)
theorem cv_lt {F G : Nat → Nat} (h : ∀ k, F k < 256) (k : Nat) : cv F G k < 256 := X_lt _ fun j _ => gmul_lt (h j)
theorem prodF_X (p q : List UInt8) (k : Nat) : ∀ N, prodF p q N k = X (fun j => if j ≤ k then gmul (co p j) (co q (k - j)) else 0) N
  | 0 => rfl
  | N + 1 => by
    show (if N ≤ k then Nat.xor (prodF p q N k) (gmul (co p N) (co q (k - N))) else prodF p q N k) = Nat.xor (X _ N) (if N ≤ k then gmul (co p N) (co q (k - N)) else 0)
    rw [prodF_X p q k N]
    by_cases h : N ≤ k
    · rw [if_pos h, if_pos h]
    · rw [if_neg h, if_neg h, xor0]
theorem co_tl {p : List UInt8} {j : Nat} (h : tlen p ≤ j) : co p j = 0 := by
  rw [tlen_eq] at h
  by_cases h2 : j < p.length
  · exact tl_zero h h2
  · exact co_over (by omega)
theorem prodF_cv {p q : List UInt8} {N : Nat} (h : ∀ j, N ≤ j → co p j = 0) (k : Nat) : prodF p q N k = cv (co p) (co q) k := by
  rw [prodF_X]
  have e : cv (co p) (co q) k = X (fun j => if j ≤ k then gmul (co p j) (co q (k - j)) else 0) (k + 1) := X_congr _ fun j hj => by rw [if_pos (by omega)]
  rw [e]
  by_cases hN : N ≤ k + 1
  · refine (X_tail N (k + 1) hN fun j h1 h2 => ?_).symm
    rw [h j h1, gzero_mul (co_lt q _)]
    split <;> rfl
  · exact X_tail (k + 1) N (by omega) fun j h1 h2 => if_neg (by omega)
theorem cv_zero {F G : Nat → Nat} (hG : ∀ k, G k < 256) {n m k : Nat} (hF : ∀ j, n ≤ j → F j = 0) (hg : ∀ j, m ≤ j → G j = 0) (hk : n + m ≤ k) : cv F G k = 0 := by
  unfold cv
  rw [X_congr (g := fun _ => 0) _ fun j hj => ?_, X_zero]
  by_cases h : n ≤ j
  · rw [hF j h, gzero_mul (hG _)]
  · rw [hg (k - j) (by omega), gmul_zero]
theorem co_prod {p q : List UInt8} (h : prodB p q = false) (k : Nat) : co (prodL p q) k = cv (co p) (co q) k := by
  unfold prodL
  rw [h]
  show co (trimL (ofN (prodF p q (tlen p)) (tlen p + tlen q))) k = _
  have e : ∀ k, prodF p q (tlen p) k = cv (co p) (co q) k := prodF_cv fun j hj => co_tl hj
  rw [co_trim, co_ofN (prodF_lt p q _) (fun k hk => by rw [e]; exact cv_zero (co_lt q) (fun j hj => co_tl hj) (fun j hj => co_tl hj) hk), e]
theorem prodB_of {p q : List UInt8} (h : tlen p + tlen q ≤ 1025) : prodB p q = false := decide_eq_false (by omega)
/-- Lists without zeros at the end, by their coefficients. -/
theorem canon {F G : Nat → Nat} {n m : Nat} (hF : ∀ k, F k < 256) (e : ∀ k, F k = G k) (h1 : ∀ k, n ≤ k → F k = 0) (h2 : ∀ k, m ≤ k → G k = 0) : trimL (ofN F n) = trimL (ofN G m) := by
  have eG : F = G := funext e
  subst eG
  rw [trim_more hF hF (Nat.le_max_left n m) (fun _ _ => rfl) fun k h _ => h1 k h, trim_more hF hF (Nat.le_max_right n m) (fun _ _ => rfl) fun k h _ => h2 k h]
theorem co_sum (p q : List UInt8) (k : Nat) : co (sumL p q) k = Nat.xor (co p k) (co q k) := by
  unfold sumL
  rw [co_trim]
  exact co_ofN (F := fun k => Nat.xor (co p k) (co q k)) (fun k => xor_lt (co_lt p k) (co_lt q k)) (fun k hk => by
    rw [co_over (p := p) (by omega), co_over (p := q) (by omega)]
    rfl) k
theorem sum_canon {p q p' q' : List UInt8} (h : ∀ k, Nat.xor (co p k) (co q k) = Nat.xor (co p' k) (co q' k)) : sumL p q = sumL p' q' := by
  have z : ∀ (p q : List UInt8) k, max p.length q.length ≤ k → Nat.xor (co p k) (co q k) = 0 := fun p q k hk => by
    rw [co_over (p := p) (by omega), co_over (p := q) (by omega)]
    rfl
  exact canon (F := fun k => Nat.xor (co p k) (co q k)) (G := fun k => Nat.xor (co p' k) (co q' k)) (fun k => xor_lt (co_lt p k) (co_lt q k)) h (z p q) (z p' q')
/-! ### values -/
theorem gpow_add' {x : Nat} (hx : x < 256) (i : Nat) : ∀ j, gmul (gpow x i) (gpow x j) = gpow x (i + j)
  | 0 => gmul_one (gpow_lt x i)
  | j + 1 => by
    show gmul (gpow x i) (gmul (gpow x j) x) = gmul (gpow x (i + j)) x
    rw [gmul_assoc x (gpow_lt x i) (gpow_lt x j), gpow_add' hx i j]
theorem gmul4 {a b c d : Nat} (ha : a < 256) (hb : b < 256) (hc : c < 256) (hd : d < 256) : gmul (gmul a b) (gmul c d) = gmul (gmul a c) (gmul b d) := by
  rw [← gmul_assoc (gmul c d) ha hb, ← gmul_assoc (gmul b d) ha hc, gmul_assoc d hb hc, gmul_comm hb hc, ← gmul_assoc d hc hb]
def ev (F : Nat → Nat) (x N : Nat) : Nat := X (fun j => gmul (F j) (gpow x j)) N
theorem evA_X (p : List UInt8) (x : Nat) : ∀ n, evA p x n = ev (co p) x n
  | 0 => rfl
  | n + 1 => by
    show Nat.xor (evA p x n) _ = Nat.xor _ _
    rw [evA_X p x n]
    rfl
theorem ev_more {F : Nat → Nat} {x n m : Nat} (hx : x < 256) (h : n ≤ m) (hz : ∀ j, n ≤ j → F j = 0) : ev F x m = ev F x n :=
  X_tail n m h fun j h1 _ => by rw [hz j h1, gzero_mul (gpow_lt x j)]
theorem eval_N {p : List UInt8} {x N : Nat} (hx : x < 256) (h : ∀ j, N ≤ j → co p j = 0) : evalF p x = ev (co p) x N := by
  unfold evalF
  rw [evA_X]
  rcases Nat.le_total N p.length with h1 | h1
  · exact ev_more hx h1 h
  · exact (ev_more hx h1 fun j hj => co_over hj).symm
theorem ev_lt {F : Nat → Nat} (h : ∀ k, F k < 256) (x N : Nat) : ev F x N < 256 := X_lt _ fun j _ => gmul_lt (h j)
theorem ev_xor {F G : Nat → Nat} (hF : ∀ k, F k < 256) (hG : ∀ k, G k < 256) (x N : Nat) : ev (fun k => Nat.xor (F k) (G k)) x N = Nat.xor (ev F x N) (ev G x N) := by
  unfold ev
  rw [← X_xor]
  exact X_congr _ fun j _ => gmul_lin _ (hF j) (hG j)
theorem eval_sum {p q : List UInt8} {x : Nat} (hx : x < 256) : evalF (sumL p q) x = Nat.xor (evalF p x) (evalF q x) := by
  have e : ∀ r : List UInt8, r.length ≤ max p.length q.length → evalF r x = ev (co r) x (max p.length q.length) := fun r hr => eval_N hx fun j hj => co_over (by omega)
  rw [e p (Nat.le_max_left _ _), e q (Nat.le_max_right _ _), ← ev_xor (co_lt p) (co_lt q)]
  rw [eval_N (N := max p.length q.length) hx fun j hj => by rw [co_sum, co_over (p := p) (by omega), co_over (p := q) (by omega)]; rfl]
  exact X_congr _ fun j _ => by rw [co_sum]
/-- A row c x^a q in a product. -/
theorem ev_row {q : List UInt8} {x a c n : Nat} (hx : x < 256) (hc : c < 256) (hn : a + tlen q ≤ n) : ev (fun k => if a ≤ k then gmul c (co q (k - a)) else 0) x n = gmul (gmul c (gpow x a)) (evalF q x) := by
  obtain ⟨m, rfl⟩ : ∃ m, n = a + m := ⟨n - a, by omega⟩
  unfold ev
  rw [X_from (fun k hk => by dsimp only; rw [if_neg (by omega), gzero_mul (gpow_lt x k)]), eval_N (N := m) hx (fun j hj => co_tl (by omega))]
  unfold ev
  rw [← X_mul]
  refine X_congr _ fun j _ => ?_
  dsimp only
  rw [if_pos (by omega), show a + j - a = j by omega, ← gpow_add' hx, gmul4 hc (co_lt q j) (gpow_lt x a) (gpow_lt x j)]
theorem ev_prodF {p q : List UInt8} {x n : Nat} (hx : x < 256) : ∀ N, N + tlen q ≤ n + 1 → ev (prodF p q N) x n = gmul (ev (co p) x N) (evalF q x)
  | 0, _ => by
    show X (fun j => gmul 0 (gpow x j)) n = gmul 0 (evalF q x)
    rw [gzero_mul (show evalF q x < 256 from evA_lt q x _), X_congr (g := fun _ => 0) _ fun j _ => gzero_mul (gpow_lt x j), X_zero]
  | N + 1, h => by
    have hr : ∀ k, (if N ≤ k then gmul (co p N) (co q (k - N)) else 0) < 256 := fun k => by
      split
      · exact gmul_lt (co_lt p N)
      · decide
    have e : prodF p q (N + 1) = fun k => Nat.xor (prodF p q N k) (if N ≤ k then gmul (co p N) (co q (k - N)) else 0) := by
      funext k
      show spr _ _ _ _ k = _
      unfold spr
      by_cases h : N ≤ k
      · rw [if_pos h, if_pos h]
      · rw [if_neg h, if_neg h, xor0]
    rw [e, ev_xor (prodF_lt p q N) hr, ev_prodF hx N (by omega), ev_row hx (co_lt p N) (by omega)]
    show _ = gmul (Nat.xor (ev (co p) x N) (gmul (co p N) (gpow x N))) _
    rw [gmul_lin _ (ev_lt (co_lt p) x N) (gmul_lt (co_lt p N))]
theorem eval_prod {p q : List UInt8} {x : Nat} (hx : x < 256) (h : prodB p q = false) : evalF (prodL p q) x = gmul (evalF p x) (evalF q x) := by
  have e : ∀ k, co (prodL p q) k = prodF p q (tlen p) k := fun k => by rw [co_prod h, prodF_cv fun j hj => co_tl hj]
  rw [eval_N (p := prodL p q) (N := tlen p + tlen q) hx fun j hj => by rw [co_prod h]; exact cv_zero (co_lt q) (fun j hj => co_tl hj) (fun j hj => co_tl hj) hj]
  rw [eval_N (p := p) (N := tlen p) hx fun j hj => co_tl hj, ← ev_prodF hx (tlen p) (Nat.le_succ_of_le (Nat.le_refl (tlen p + tlen q)))]
  exact X_congr _ fun j _ => by rw [e]
/-! ### derivatives -/
theorem co_der (p : List UInt8) (k : Nat) : co (derL p) k = derN p k := by
  unfold derL
  rw [co_trim]
  exact co_ofN (derN_lt p) (fun k hk => derN_over (by omega)) k
theorem der_rule (F G : Nat → Nat) (hF : ∀ k, F k < 256) (hG : ∀ k, G k < 256) (k : Nat) :
    (if k % 2 = 0 then cv F G (k + 1) else 0) = Nat.xor (cv (fun j => if j % 2 = 0 then F (j + 1) else 0) G k) (cv F (fun j => if j % 2 = 0 then G (j + 1) else 0) k) := by
  -- all as sums over i < k + 2
  have e1 : cv (fun j => if j % 2 = 0 then F (j + 1) else 0) G k = X (fun i => if i % 2 = 1 then gmul (F i) (G (k + 1 - i)) else 0) (k + 2) := by
    have := X_shift (fun i => if i % 2 = 1 then gmul (F i) (G (k + 1 - i)) else 0) (k + 1)
    rw [show (if 0 % 2 = 1 then gmul (F 0) (G (k + 1 - 0)) else 0) = 0 from rfl, xor0] at this
    rw [← this]
    refine X_congr _ fun j hj => ?_
    dsimp only
    by_cases h : j % 2 = 0
    · rw [if_pos h, if_pos (by omega), show k + 1 - (j + 1) = k - j by omega]
    · rw [if_neg h, if_neg (by omega), gzero_mul (hG _)]
  have e2 : cv F (fun j => if j % 2 = 0 then G (j + 1) else 0) k = X (fun i => if (k + i) % 2 = 0 then gmul (F i) (G (k + 1 - i)) else 0) (k + 2) := by
    show _ = Nat.xor (X (fun i => if (k + i) % 2 = 0 then gmul (F i) (G (k + 1 - i)) else 0) (k + 1)) (if (k + (k + 1)) % 2 = 0 then gmul (F (k + 1)) (G (k + 1 - (k + 1))) else 0)
    rw [if_neg (by omega), xor0]
    refine X_congr _ fun j hj => ?_
    dsimp only
    by_cases h : (k + j) % 2 = 0
    · rw [if_pos h, if_pos (by omega), show k - j + 1 = k + 1 - j by omega]
    · rw [if_neg h, if_neg (by omega), gmul_zero]
  rw [e1, e2, ← X_xor]
  by_cases hk : k % 2 = 0
  · rw [if_pos hk]
    refine X_congr _ fun i _ => ?_
    by_cases h : i % 2 = 1
    · rw [if_pos h, if_neg (by omega), xor0]
    · rw [if_neg h, if_pos (by omega), xor0']
  · rw [if_neg hk]
    refine Eq.symm ((X_congr (g := fun _ => 0) _ fun i _ => ?_).trans (X_zero _))
    by_cases h : i % 2 = 1
    · rw [if_pos h, if_pos (by omega)]
      exact Nat.xor_self _
    · rw [if_neg h, if_neg (by omega)]
      rfl
theorem cv_congr {F G F' G' : Nat → Nat} (h1 : ∀ k, F k = F' k) (h2 : ∀ k, G k = G' k) (k : Nat) : cv F G k = cv F' G' k := X_congr _ fun j _ => by rw [h1, h2]
theorem der_prod {p q : List UInt8} (h : prodB p q = false) (h1 : prodB (derL p) q = false) (h2 : prodB p (derL q) = false) : derL (prodL p q) = sumL (prodL (derL p) q) (prodL p (derL q)) := by
  have e : ∀ k, derN (prodL p q) k = Nat.xor (co (prodL (derL p) q) k) (co (prodL p (derL q)) k) := fun k => by
    rw [co_prod h1, co_prod h2, cv_congr (co_der p) (fun _ => rfl), cv_congr (F := co p) (G := co (derL q)) (fun _ => rfl) (co_der q)]
    have := der_rule (co p) (co q) (co_lt p) (co_lt q) k
    unfold derN
    rw [co_prod h]
    exact this
  refine canon (F := derN (prodL p q)) (derN_lt _) e (fun k hk => derN_over (by omega)) fun k hk => ?_
  rw [co_over (by omega), co_over (by omega)]
  rfl
/-! ### quotients -/
theorem cv_add {F G : Nat → Nat} {a c : Nat} (hF : ∀ k, F k < 256) (hc : c < 256) (hG : ∀ k, G k < 256) (h0 : F a = 0) (k : Nat) :
    cv (fun j => if j = a then c else F j) G k = Nat.xor (cv F G k) (if a ≤ k then gmul c (G (k - a)) else 0) := by
  have e : (if a ≤ k then gmul c (G (k - a)) else 0) = X (fun j => if j = a then gmul c (G (k - a)) else 0) (k + 1) := by
    rw [X_at]
    by_cases h : a ≤ k
    · rw [if_pos h, if_pos (by omega)]
    · rw [if_neg h, if_neg (by omega)]
  rw [e]
  unfold cv
  rw [← X_xor]
  refine X_congr _ fun j _ => ?_
  dsimp only
  by_cases h : j = a
  · subst h
    rw [if_pos rfl, if_pos rfl, h0, gzero_mul (hG _), xor0']
  · rw [if_neg h, if_neg h, xor0]
theorem qst_inv (p q : List UInt8) {L : Nat} : ∀ t, t + (tlen q - 1) ≤ L → ∀ k, co p k = Nat.xor (cv (qst p q L t).2 (co q) k) ((qst p q L t).1 k)
  | 0, _, k => by
    show co p k = Nat.xor (cv (fun _ => 0) (co q) k) (co p k)
    have : cv (fun _ => 0) (co q) k = 0 := by
      unfold cv
      rw [X_congr (g := fun _ => 0) _ fun j _ => gzero_mul (co_lt q _), X_zero]
    rw [this, xor0']
  | t + 1, ht, k => by
    have ih := qst_inv p q (L := L) t (by omega) k
    have hz := qst_zero p q L t (L - 1 - t - (tlen q - 1)) (by omega) (by omega)
    show co p k = Nat.xor (cv (fun j => if j = L - 1 - t - (tlen q - 1) then qc q (L - 1 - t) (qst p q L t) else (qst p q L t).2 j) (co q) k) (spr (qst p q L t).1 q (L - 1 - t - (tlen q - 1)) (qc q (L - 1 - t) (qst p q L t)) k)
    rw [cv_add (fun k => (qst_lt p q L t k).2) (qc_lt q _ _) (co_lt q) hz, ih]
    unfold spr
    by_cases h : L - 1 - t - (tlen q - 1) ≤ k
    · rw [if_pos h, if_pos h]
      show _ = Nat.xor (Nat.xor (cv (qst p q L t).2 (co q) k) _) (Nat.xor ((qst p q L t).1 k) _)
      rw [xor_mix, show ∀ u : Nat, Nat.xor u u = 0 from Nat.xor_self, xor0]
    · rw [if_neg h, if_neg h, xor0]
/-- What was done with is 0. -/
theorem qst_done (p q : List UInt8) {L : Nat} (hL : tlen p ≤ L) (hq : tlen q ≠ 0) : ∀ t, t + (tlen q - 1) ≤ L → ∀ k, L - t ≤ k → (qst p q L t).1 k = 0
  | 0, _, k, hk => co_tl (by omega)
  | t + 1, ht, k, hk => by
    show spr (qst p q L t).1 q (L - 1 - t - (tlen q - 1)) (qc q (L - 1 - t) (qst p q L t)) k = 0
    unfold spr
    rw [if_pos (by omega)]
    by_cases e : k = L - 1 - t
    · subst e
      rw [show L - 1 - t - (L - 1 - t - (tlen q - 1)) = tlen q - 1 by omega]
      unfold qc
      rw [gdiv_mul (qst_lt p q L t _).1 (co_lt q _) (lead_ne hq)]
      exact Nat.xor_self _
    · rw [qst_done p q hL hq t (by omega) k (by omega), co_tl (by omega), gmul_zero]
      rfl
theorem quot_facts {p q : List UInt8} (hq : tlen q ≠ 0) : (∀ k, co p k = Nat.xor (cv (co (quoL p q)) (co q) k) (co (resL p q) k)) ∧ tlen (resL p q) ≤ tlen q - 1 := by
  have hlt := fun k => qst_lt p q (tlen p) (tlen p - (tlen q - 1)) k
  have hov : ∀ k, tlen p ≤ k → (qfin p q (tlen p)).1 k = 0 ∧ (qfin p q (tlen p)).2 k = 0 := fun k hk => by
    unfold qfin
    by_cases h : tlen q - 1 ≤ tlen p
    · exact qst_over p q (Nat.le_refl _) (by omega) _ (by omega) k hk
    · rw [show tlen p - (tlen q - 1) = 0 by omega]
      exact ⟨co_tl hk, rfl⟩
  have hd : ∀ k, tlen q - 1 ≤ k → (qfin p q (tlen p)).1 k = 0 := fun k hk => by
    unfold qfin
    by_cases h : tlen q - 1 ≤ tlen p
    · exact qst_done p q (Nat.le_refl _) hq _ (by omega) k (by omega)
    · rw [show tlen p - (tlen q - 1) = 0 by omega]
      exact co_tl (by omega)
  have c1 : ∀ k, co (quoL p q) k = (qfin p q (tlen p)).2 k := fun k => by
    unfold quoL
    rw [if_neg hq, co_trim]
    exact co_ofN (fun k => (hlt k).2) (fun k hk => (hov k hk).2) k
  have c2 : ∀ k, co (resL p q) k = (qfin p q (tlen p)).1 k := fun k => by
    unfold resL
    rw [if_neg hq, co_trim]
    exact co_ofN (fun k => (hlt k).1) (fun k hk => (hov k hk).1) k
  refine ⟨fun k => ?_, ?_⟩
  · rw [cv_congr c1 fun _ => rfl, c2]
    unfold qfin
    by_cases h : tlen q - 1 ≤ tlen p
    · exact qst_inv p q _ (by omega) k
    · rw [show tlen p - (tlen q - 1) = 0 by omega]
      exact qst_inv p q (L := tlen q - 1) 0 (by omega) k
  · have e := tlen_eq (resL p q)
    apply Nat.le_of_not_lt
    intro h
    have := tl_ne (F := co (resL p q)) (n := (resL p q).length) (by omega)
    rw [← e, c2, hd _ (by omega)] at this
    exact this rfl
end Galois
