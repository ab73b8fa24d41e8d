/-
  OWN WORK. Galois: polynomials, plainly: products, values, derivatives, quotients.
-/
import Derived.Test.YtnibcchhhebfaaaGreatDoorG7
namespace Galois
open Go Go.Proofs Eng
set_option linter.unusedVariables false
set_option linter.unusedSimpArgs false

/-! ### sums of bytes -/
def X (f : Nat → Nat) : Nat → Nat
  | 0 => 0
  | n + 1 => Nat.xor (X f n) (f n)
theorem X_congr {f g : Nat → Nat} : ∀ n, (∀ j, j < n → f j = g j) → X f n = X g n
  | 0, _ => rfl
  | n + 1, h => by simp only [X]; rw [X_congr n fun j hj => h j (by omega), h n (by omega)]
theorem xor_mix (a b c d : Nat) : Nat.xor (Nat.xor a b) (Nat.xor c d) = Nat.xor (Nat.xor a c) (Nat.xor b d) := by
  show (a ^^^ b) ^^^ (c ^^^ d) = (a ^^^ c) ^^^ (b ^^^ d)
  ac_rfl
theorem X_xor (f g : Nat → Nat) : ∀ n, X (fun j => Nat.xor (f j) (g j)) n = Nat.xor (X f n) (X g n)
  | 0 => by show 0 = Nat.xor 0 0; decide
  | n + 1 => by
    simp only [X]
    rw [X_xor f g n, xor_mix]
theorem X_zero : ∀ n, X (fun _ => 0) n = 0
  | 0 => rfl
  | n + 1 => by simp only [X]; rw [X_zero n]; rfl
theorem X_at (a v : Nat) : ∀ n, X (fun j => if j = a then v else 0) n = if a < n then v else 0
  | 0 => by simp [X]
  | n + 1 => by
    simp only [X]
    rw [X_at a v n]
    by_cases h1 : n = a
    · subst h1
      rw [if_neg (by omega), if_pos rfl, if_pos (by omega), xor0']
    · rw [if_neg h1, xor0]
      by_cases h2 : a < n
      · rw [if_pos h2, if_pos (by omega)]
      · rw [if_neg h2, if_neg (by omega)]
/-! ### products -/
def cv (F G : Nat → Nat) (k : Nat) : Nat := X (fun j => gmul (F j) (G (k - j))) (k + 1)
theorem co_tl {p : List UInt8} {j : Nat} (h : tlen p ≤ j) : co p j = 0 := by
  rw [tlen_eq] at h
  by_cases h2 : j < p.length
  · exact tl_zero h h2
  · exact co_over (by omega)
/-! ### values -/
def ev (F : Nat → Nat) (x N : Nat) : Nat := X (fun j => gmul (F j) (gpow x j)) N
/-! ### derivatives -/
theorem cv_congr {F G F' G' : Nat → Nat} (h1 : ∀ k, F k = F' k) (h2 : ∀ k, G k = G' k) (k : Nat) : cv F G k = cv F' G' k := X_congr _ fun j _ => by rw [h1, h2]
/-! ### quotients -/
theorem cv_add {F G : Nat → Nat} {a c : Nat} (hF : ∀ k, F k < 256) (hc : c < 256) (hG : ∀ k, G k < 256) (h0 : F a = 0) (k : Nat) :
    cv (fun j => if j = a then c else F j) G k = Nat.xor (cv F G k) (if a ≤ k then gmul c (G (k - a)) else 0) := by
  have e : (if a ≤ k then gmul c (G (k - a)) else 0) = X (fun j => if j = a then gmul c (G (k - a)) else 0) (k + 1) := by
    rw [X_at]
    by_cases h : a ≤ k
    · rw [if_pos h, if_pos (by omega)]
    · rw [if_neg h, if_neg (by omega)]
  rw [e]
  unfold cv
  rw [← X_xor]
  refine X_congr _ fun j _ => ?_
  dsimp only
  by_cases h : j = a
  · subst h
    rw [if_pos rfl, if_pos rfl, h0, gzero_mul (hG _), xor0']
  · rw [if_neg h, if_neg h, xor0]
theorem qst_inv (p q : List UInt8) {L : Nat} : ∀ t, t + (tlen q - 1) ≤ L → ∀ k, co p k = Nat.xor (cv (qst p q L t).2 (co q) k) ((qst p q L t).1 k)
  | 0, _, k => by
    show co p k = Nat.xor (cv (fun _ => 0) (co q) k) (co p k)
    have : cv (fun _ => 0) (co q) k = 0 := by
      unfold cv
      rw [X_congr (g := fun _ => 0) _ fun j _ => gzero_mul (co_lt q _), X_zero]
    rw [this, xor0']
  | t + 1, ht, k => by
    have ih := qst_inv p q (L := L) t (by omega) k
    have hz := qst_zero p q L t (L - 1 - t - (tlen q - 1)) (by omega) (by omega)
    show co p k = Nat.xor (cv (fun j => if j = L - 1 - t - (tlen q - 1) then qc q (L - 1 - t) (qst p q L t) else (qst p q L t).2 j) (co q) k) (spr (qst p q L t).1 q (L - 1 - t - (tlen q - 1)) (qc q (L - 1 - t) (qst p q L t)) k)
    rw [cv_add (fun k => (qst_lt p q L t k).2) (qc_lt q _ _) (co_lt q) hz, ih]
    unfold spr
    by_cases h : L - 1 - t - (tlen q - 1) ≤ k
    · rw [if_pos h, if_pos h]
      show _ = Nat.xor (Nat.xor (cv (qst p q L t).2 (co q) k) _) (Nat.xor ((qst p q L t).1 k) _)
      rw [xor_mix, show ∀ u : Nat, Nat.xor u u = 0 from Nat.xor_self, xor0]
    · rw [if_neg h, if_neg h, xor0]
/-- What was done with is 0. -/
theorem qst_done (p q : List UInt8) {L : Nat} (hL : tlen p ≤ L) (hq : tlen q ≠ 0) : ∀ t, t + (tlen q - 1) ≤ L → ∀ k, L - t ≤ k → (qst p q L t).1 k = 0
  | 0, _, k, hk => co_tl (by omega)
  | t + 1, ht, k, hk => by
    show spr (qst p q L t).1 q (L - 1 - t - (tlen q - 1)) (qc q (L - 1 - t) (qst p q L t)) k = 0
    unfold spr
    rw [if_pos (by omega)]
    by_cases e : k = L - 1 - t
    · subst e
      rw [show L - 1 - t - (L - 1 - t - (tlen q - 1)) = tlen q - 1 by omega]
      unfold qc
      rw [gdiv_mul (qst_lt p q L t _).1 (co_lt q _) (lead_ne hq)]
      exact Nat.xor_self _
    · rw [qst_done p q hL hq t (by omega) k (by omega), co_tl (by omega), gmul_zero]
      rfl
theorem quot_facts {p q : List UInt8} (hq : tlen q ≠ 0) : (∀ k, co p k = Nat.xor (cv (co (quoL p q)) (co q) k) (co (resL p q) k)) ∧ tlen (resL p q) ≤ tlen q - 1 := by
  have hlt := fun k => qst_lt p q (tlen p) (tlen p - (tlen q - 1)) k
  have hov : ∀ k, tlen p ≤ k → (qfin p q (tlen p)).1 k = 0 ∧ (qfin p q (tlen p)).2 k = 0 := fun k hk => by
    unfold qfin
    by_cases h : tlen q - 1 ≤ tlen p
    · exact qst_over p q (Nat.le_refl _) (by omega) _ (by omega) k hk
    · rw [show tlen p - (tlen q - 1) = 0 by omega]
      exact ⟨co_tl hk, rfl⟩
  have hd : ∀ k, tlen q - 1 ≤ k → (qfin p q (tlen p)).1 k = 0 := fun k hk => by
    unfold qfin
    by_cases h : tlen q - 1 ≤ tlen p
    · exact qst_done p q (Nat.le_refl _) hq _ (by omega) k (by omega)
    · rw [show tlen p - (tlen q - 1) = 0 by omega]
      exact co_tl (by omega)
  have c1 : ∀ k, co (quoL p q) k = (qfin p q (tlen p)).2 k := fun k => by
    unfold quoL
    rw [if_neg hq, co_trim]
    exact co_ofN (fun k => (hlt k).2) (fun k hk => (hov k hk).2) k
  have c2 : ∀ k, co (resL p q) k = (qfin p q (tlen p)).1 k := fun k => by
    unfold resL
    rw [if_neg hq, co_trim]
    exact co_ofN (fun k => (hlt k).1) (fun k hk => (hov k hk).1) k
  refine ⟨fun k => ?_, ?_⟩
  · rw [cv_congr c1 fun _ => rfl, c2]
    unfold qfin
    by_cases h : tlen q - 1 ≤ tlen p
    · exact qst_inv p q _ (by omega) k
    · rw [show tlen p - (tlen q - 1) = 0 by omega]
      exact qst_inv p q (L := tlen q - 1) 0 (by omega) k
  · have e := tlen_eq (resL p q)
    apply Nat.le_of_not_lt
    intro h
    have := tl_ne (F := co (resL p q)) (n := (resL p q).length) (by omega)
    rw [← e, c2, hd _ (by omega)] at this
    exact this rfl
end Galois
