/-
  OWN WORK. Galois: the field, plainly.
-/
import Derived.KernelRfl
namespace Galois
set_option linter.unusedVariables false
set_option linter.unusedSimpArgs false
set_option maxRecDepth 100000

/-- All numbers below n. -/
def allN (p : Nat → Bool) : Nat → Bool
  | 0 => true
  | n + 1 => match p n with
    | true => allN p n
    | false => false
theorem allN_true {p : Nat → Bool} : ∀ {n : Nat}, allN p n = true → ∀ i, i < n → p i = true
  | 0, _, i, hi => by omega
  | n + 1, h, i, hi => by
    simp only [allN] at h
    split at h
    · rename_i hp
      by_cases e : i = n
      · rw [e]; exact hp
      · exact allN_true h i (by omega)
    · cases h
def xt (a : Nat) : Nat := match Nat.blt a 128 with
  | true => 2 * a
  | false => Nat.xor (2 * a) 285
def gmK : Nat → Nat → Nat → Nat
  | 0, _, _ => 0
  | k + 1, a, b => match Nat.beq (b % 2) 1 with
    | true => Nat.xor a (gmK k (xt a) (b / 2))
    | false => gmK k (xt a) (b / 2)
def gmul (a b : Nat) : Nat := gmK 8 a b
theorem xt_lt {a : Nat} (h : a < 256) : xt a < 256 := by
  have : allN (fun a => Nat.blt (xt a) 256) 256 = true := by kernel_rfl
  have := allN_true this a h
  simpa using this
theorem xt_xor {a b : Nat} (ha : a < 256) (hb : b < 256) : xt (a ^^^ b) = xt a ^^^ xt b := by
  have : allN (fun a => allN (fun b => Nat.beq (xt (Nat.xor a b)) (Nat.xor (xt a) (xt b))) 256) 256 = true := by kernel_rfl
  have := allN_true (allN_true this a ha) b hb
  simpa using this
theorem xt_xor' {a b : Nat} (ha : a < 256) (hb : b < 256) : xt (Nat.xor a b) = Nat.xor (xt a) (xt b) := xt_xor ha hb
theorem xor_lt {a b : Nat} (ha : a < 256) (hb : b < 256) : Nat.xor a b < 256 := Nat.xor_lt_two_pow (n := 8) ha hb
theorem gmK_lt : ∀ (k : Nat) {a : Nat} (b : Nat), a < 256 → gmK k a b < 256
  | 0, _, _, _ => by show 0 < 256; decide
  | k + 1, a, b, h => by
    simp only [gmK]
    split
    · exact xor_lt h (gmK_lt k _ (xt_lt h))
    · exact gmK_lt k _ (xt_lt h)
theorem gmul_lt {a b : Nat} (h : a < 256) : gmul a b < 256 := gmK_lt 8 b h
theorem gmK_zero : ∀ (k a : Nat), gmK k a 0 = 0
  | 0, _ => rfl
  | k + 1, a => by simp only [gmK]; exact gmK_zero k (xt a)
theorem xor0 (a : Nat) : Nat.xor a 0 = a := Nat.xor_zero a
theorem xor0' (a : Nat) : Nat.xor 0 a = a := Nat.zero_xor a
theorem gmK_stab : ∀ (k a b : Nat), b < 2 ^ k → gmK (k + 1) a b = gmK k a b
  | 0, a, b, h => by
    obtain rfl : b = 0 := by omega
    rfl
  | k + 1, a, b, h => by
    have := gmK_stab k (xt a) (b / 2) (by rw [Nat.pow_succ] at h; omega)
    simp only [gmK] at this ⊢
    rw [this]
theorem gmul_step {a b : Nat} (h : b < 256) : gmul a b = match Nat.beq (b % 2) 1 with
    | true => Nat.xor a (gmul (xt a) (b / 2))
    | false => gmul (xt a) (b / 2) := by
  unfold gmul
  rw [← gmK_stab 8 a b h]
  rfl
theorem gmK_lin : ∀ (k : Nat) {a a' : Nat} (b : Nat), a < 256 → a' < 256 → gmK k (Nat.xor a a') b = Nat.xor (gmK k a b) (gmK k a' b)
  | 0, _, _, _, _, _ => by show 0 = Nat.xor 0 0; decide
  | k + 1, a, a', b, h, h' => by
    simp only [gmK]
    rw [xt_xor' h h', gmK_lin k _ (xt_lt h) (xt_lt h')]
    split
    · show (a ^^^ a') ^^^ (_ ^^^ _) = (a ^^^ _) ^^^ (a' ^^^ _)
      ac_rfl
    · rfl
theorem gmul_lin {a a' : Nat} (b : Nat) (h : a < 256) (h' : a' < 256) : gmul (Nat.xor a a') b = Nat.xor (gmul a b) (gmul a' b) := gmK_lin 8 b h h'
theorem gmK_xt : ∀ (k : Nat) {a : Nat} (b : Nat), a < 256 → gmK k (xt a) b = xt (gmK k a b)
  | 0, _, _, _ => rfl
  | k + 1, a, b, h => by
    simp only [gmK]
    rw [gmK_xt k _ (xt_lt h)]
    split
    · rw [xt_xor' h (gmK_lt k _ (xt_lt h))]
    · rfl
theorem xor_half (b b' : Nat) : Nat.xor b b' / 2 = Nat.xor (b / 2) (b' / 2) := by
  show (b ^^^ b') / 2 = (b / 2) ^^^ (b' / 2)
  have h : ∀ x : Nat, x / 2 = x >>> 1 := fun x => by rw [Nat.shiftRight_eq_div_pow, Nat.pow_one]
  rw [h, h, h, Nat.shiftRight_xor_distrib]
theorem xor_par (b b' : Nat) : Nat.xor b b' % 2 = (b % 2 + b' % 2) % 2 := by
  show (b ^^^ b') % 2 = _
  have := Nat.xor_mod_two_pow (a := b) (b := b') (n := 1)
  simp only [Nat.pow_one] at this
  rw [this]
  rcases Nat.mod_two_eq_zero_or_one b with h | h <;> rcases Nat.mod_two_eq_zero_or_one b' with h' | h' <;> rw [h, h'] <;> rfl
theorem gmK_linr : ∀ (k a b b' : Nat), gmK k a (Nat.xor b b') = Nat.xor (gmK k a b) (gmK k a b')
  | 0, _, _, _ => by show 0 = Nat.xor 0 0; decide
  | k + 1, a, b, b' => by
    simp only [gmK]
    rw [xor_par, xor_half, gmK_linr k]
    have t0 : Nat.beq 0 1 = false := rfl
    have t1 : Nat.beq 1 1 = true := rfl
    rcases Nat.mod_two_eq_zero_or_one b with h | h <;> rcases Nat.mod_two_eq_zero_or_one b' with h' | h' <;> rw [h, h'] <;> simp only [Nat.reduceAdd, Nat.reduceMod, t0, t1]
    · show a ^^^ (_ ^^^ _) = _ ^^^ (a ^^^ _); ac_rfl
    · show a ^^^ (_ ^^^ _) = (a ^^^ _) ^^^ _; ac_rfl
    · show _ ^^^ _ = (a ^^^ _) ^^^ (a ^^^ _)
      rw [show ∀ x y : Nat, (a ^^^ x) ^^^ (a ^^^ y) = (a ^^^ a) ^^^ (x ^^^ y) from fun x y => by ac_rfl, Nat.xor_self, Nat.zero_xor]
theorem gmul_linr (a b b' : Nat) : gmul a (Nat.xor b b') = Nat.xor (gmul a b) (gmul a b') := gmK_linr 8 a b b'
theorem gmul_comm {a b : Nat} (ha : a < 256) (hb : b < 256) : gmul a b = gmul b a := by
  have : allN (fun a => allN (fun b => Nat.beq (gmul a b) (gmul b a)) a) 256 = true := by kernel_rfl
  rcases Nat.lt_trichotomy a b with h | h | h
  · have := allN_true (allN_true this b hb) a h
    exact (Nat.eq_of_beq_eq_true this).symm
  · rw [h]
  · have := allN_true (allN_true this a ha) b h
    exact Nat.eq_of_beq_eq_true this
theorem gmul_xtr {a b : Nat} (ha : a < 256) (hb : b < 256) : gmul a (xt b) = xt (gmul a b) := by
  rw [gmul_comm ha (xt_lt hb), gmul_comm ha hb]
  exact gmK_xt 8 a hb
theorem gmul_assocK {a : Nat} (ha : a < 256) : ∀ (k : Nat) {b : Nat} (c : Nat), b < 256 → gmul a (gmK k b c) = gmK k (gmul a b) c
  | 0, _, _, _ => gmK_zero 8 a
  | k + 1, b, c, hb => by
    simp only [gmK]
    rw [← gmul_xtr ha hb]
    split
    · rw [gmul_linr, gmul_assocK ha k _ (xt_lt hb)]
    · exact gmul_assocK ha k _ (xt_lt hb)
theorem gmul_assoc {a b : Nat} (c : Nat) (ha : a < 256) (hb : b < 256) : gmul a (gmul b c) = gmul (gmul a b) c := gmul_assocK ha 8 c hb
theorem gmul_one {a : Nat} (ha : a < 256) : gmul a 1 = a := by
  have : allN (fun a => Nat.beq (gmul a 1) a) 256 = true := by kernel_rfl
  exact Nat.eq_of_beq_eq_true (allN_true this a ha)
theorem gmul_zero (a : Nat) : gmul a 0 = 0 := gmK_zero 8 a
theorem gzero_mul {a : Nat} (ha : a < 256) : gmul 0 a = 0 := by rw [gmul_comm (by decide) ha, gmul_zero]
/-! ### powers of 2 -/
def gexp : Nat → Nat
  | 0 => 1
  | k + 1 => gmul (gexp k) 2
theorem gexp_lt : ∀ k, gexp k < 256
  | 0 => by decide
  | k + 1 => gmul_lt (gexp_lt k)
theorem gexp_add (i : Nat) : ∀ j, gexp (i + j) = gmul (gexp i) (gexp j)
  | 0 => (gmul_one (gexp_lt i)).symm
  | j + 1 => by
    show gmul (gexp (i + j)) 2 = gmul (gexp i) (gmul (gexp j) 2)
    rw [gexp_add i j, gmul_assoc 2 (gexp_lt i) (gexp_lt j)]
/-- The logarithm, by search: x is 2^k. -/
def logA : Nat → Nat → Nat → Nat → Nat
  | 0, _, k, _ => k
  | n + 1, x, k, b => match Nat.beq x b with
    | true => k
    | false => logA n (gmul x 2) (k + 1) b
def glog (b : Nat) : Nat := logA 255 1 0 b
theorem logA_spec : ∀ n k b, logA n (gexp k) k b < k + n → gexp (logA n (gexp k) k b) = b
  | 0, k, b, h => by simp only [logA] at h; omega
  | n + 1, k, b, h => by
    simp only [logA] at h ⊢
    split
    · rename_i hb; exact Nat.eq_of_beq_eq_true hb
    · rename_i hb
      rw [hb] at h
      exact logA_spec n (k + 1) b (by show logA n (gexp (k + 1)) (k + 1) b < k + 1 + n; have h' : logA n (gmul (gexp k) 2) (k + 1) b < k + (n + 1) := h; show logA n (gmul (gexp k) 2) (k + 1) b < _; omega)
theorem glog_lt {b : Nat} (h0 : b ≠ 0) (h : b < 256) : glog b < 255 := by
  have : allN (fun b => Nat.beq b 0 || Nat.blt (glog b) 255) 256 = true := by kernel_rfl
  have := allN_true this b h
  simp only [Bool.or_eq_true] at this
  rcases this with h1 | h1
  · exact absurd (Nat.eq_of_beq_eq_true h1) h0
  · simpa using h1
theorem gexp_glog {b : Nat} (h0 : b ≠ 0) (h : b < 256) : gexp (glog b) = b := logA_spec 255 0 b (by have := glog_lt h0 h; simpa [glog, gexp] using this)
theorem gexp_255 : gexp 255 = 1 := by kernel_rfl
theorem gexp_period (k : Nat) : gexp (k + 255) = gexp k := by rw [gexp_add, gexp_255, gmul_one (gexp_lt k)]
theorem gexp_mul255 (k : Nat) : ∀ m, gexp (k + 255 * m) = gexp k
  | 0 => rfl
  | m + 1 => by rw [show k + 255 * (m + 1) = k + 255 * m + 255 by omega, gexp_period, gexp_mul255 k m]
theorem gexp_mod (k : Nat) : gexp (k % 255) = gexp k := by
  have := gexp_mul255 (k % 255) (k / 255)
  rw [Nat.mod_add_div] at this
  exact this.symm
theorem gexp_ne (k : Nat) : gexp k ≠ 0 := by
  rw [← gexp_mod]
  have : allN (fun k => match Nat.beq (gexp k) 0 with | true => false | false => true) 255 = true := by kernel_rfl
  have := allN_true this (k % 255) (Nat.mod_lt _ (by decide))
  intro h
  rw [h] at this
  cases this
theorem glog_gexp {k : Nat} (h : k < 255) : glog (gexp k) = k := by
  have : allN (fun k => Nat.beq (glog (gexp k)) k) 255 = true := by kernel_rfl
  exact Nat.eq_of_beq_eq_true (allN_true this k h)
/-! ### quotients, powers -/
def gdiv (a b : Nat) : Nat := match Nat.beq a 0 with
  | true => 0
  | false => gexp ((glog a + 255 - glog b) % 255)
theorem gdiv_lt (a b : Nat) : gdiv a b < 256 := by
  unfold gdiv
  split
  · decide
  · exact gexp_lt _
theorem gdiv_mul {a b : Nat} (ha : a < 256) (hb : b < 256) (h0 : b ≠ 0) : gmul (gdiv a b) b = a := by
  unfold gdiv
  split
  · rename_i h; rw [Nat.eq_of_beq_eq_true h, gzero_mul hb]
  · rename_i h
    have ha0 : a ≠ 0 := fun h' => by subst h'; cases h
    have h1 := glog_lt ha0 ha
    have h2 := glog_lt h0 hb
    have e : gmul (gexp ((glog a + 255 - glog b) % 255)) b = gmul (gexp (glog a + 255 - glog b)) (gexp (glog b)) := by rw [gexp_mod, gexp_glog h0 hb]
    rw [e, ← gexp_add, show glog a + 255 - glog b + glog b = glog a + 255 by omega, gexp_period, gexp_glog ha0 ha]
def gpow (a : Nat) : Nat → Nat
  | 0 => 1
  | k + 1 => gmul (gpow a k) a
theorem gpow_lt (a : Nat) : ∀ k, gpow a k < 256
  | 0 => by show 1 < 256; decide
  | k + 1 => gmul_lt (gpow_lt a k)
theorem gpow_gexp (l : Nat) : ∀ k, gpow (gexp l) k = gexp (l * k)
  | 0 => rfl
  | k + 1 => by
    show gmul (gpow (gexp l) k) (gexp l) = gexp (l * k + l)
    rw [gpow_gexp l k, gexp_add]
theorem gpow_log {a : Nat} (h0 : a ≠ 0) (h : a < 256) (k : Nat) : gpow a k = gexp (glog a * k % 255) := by
  rw [gexp_mod, ← gpow_gexp, gexp_glog h0 h]
end Galois
