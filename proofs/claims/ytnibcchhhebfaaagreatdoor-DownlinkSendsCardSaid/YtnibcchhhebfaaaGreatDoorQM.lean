/-
  OWN WORK. The convolutional code and the best way through its trellis, in plain Lean.
-/
import Derived.Test.YtnibcchhhebfaaaGreatDoorEngN
namespace Vt
/-- The parity of seven bits. -/
def par (n : Nat) : Nat := (n % 2 + n / 2 % 2 + n / 4 % 2 + n / 8 % 2 + n / 16 % 2 + n / 32 % 2 + n / 64 % 2) % 2
def reg (s b : Nat) : Nat := 64 * b + s
def nxt (s b : Nat) : Nat := reg s b / 2
def fs (s b : Nat) : Nat := par (Nat.land (reg s b) 121)
def sc (s b : Nat) : Nat := 1 - par (Nat.land (reg s b) 91)
theorem par_le (n : Nat) : par n ≤ 1 := by unfold par; omega
theorem fs_le (s b : Nat) : fs s b ≤ 1 := par_le _
theorem sc_le (s b : Nat) : sc s b ≤ 1 := by unfold sc; omega
theorem nxt_lt {s b : Nat} (hs : s < 64) (hb : b < 2) : nxt s b < 64 := by unfold nxt reg; omega
theorem flip_all : ∀ s < 64, fs s 0 + fs s 1 = 1 ∧ sc s 0 + sc s 1 = 1 := by decide
/-- The other bit turns both symbols. -/
theorem flip {s b c : Nat} (hs : s < 64) (hb : b < 2) (hc : c < 2) (h : b ≠ c) : fs s b + fs s c = 1 ∧ sc s b + sc s c = 1 := by
  have := flip_all s hs
  rcases (by omega : b = 0 ∧ c = 1 ∨ b = 1 ∧ c = 0) with ⟨rfl, rfl⟩ | ⟨rfl, rfl⟩
  · exact this
  · omega
/-- The states that bits lead through. -/
def stAt (bt : Nat → Nat) : Nat → Nat
  | 0 => 0
  | i + 1 => nxt (stAt bt i) (bt i)
theorem stAt_lt {bt : Nat → Nat} (h : ∀ i, bt i < 2) : ∀ i, stAt bt i < 64
  | 0 => (by decide : (0 : Nat) < 64)
  | i + 1 => nxt_lt (stAt_lt h i) (h i)
/-- Symbol k of what bits are encoded to. -/
def sym (bt : Nat → Nat) (k : Nat) : Nat := if k % 2 = 0 then fs (stAt bt (k / 2)) (bt (k / 2)) else sc (stAt bt (k / 2)) (bt (k / 2))
theorem sym_le (bt : Nat → Nat) (k : Nat) : sym bt k ≤ 1 := by unfold sym; split <;> first | exact fs_le _ _ | exact sc_le _ _
/-- Soft values without noise. -/
def sft (c : Nat) : Int := if c = 0 then -7 else 7
/-- The sum of the true way. -/
def sumAt (bt : Nat → Nat) : Nat → Int
  | 0 => 0
  | i + 1 => sumAt bt i + (7 * (fs (stAt bt i) (bt i) : Int) + 7 * (sc (stAt bt i) (bt i) : Int))
theorem sumAt_bd (bt : Nat → Nat) : ∀ i : Nat, 0 ≤ sumAt bt i ∧ sumAt bt i ≤ 14 * (i : Int)
  | 0 => by simp [sumAt]
  | i + 1 => by
    have := sumAt_bd bt i
    have := fs_le (stAt bt i) (bt i)
    have := sc_le (stAt bt i) (bt i)
    simp only [sumAt]
    omega
/-- What a step adds. -/
def gain (f g : Nat) (x y : Int) : Int := (f : Int) * x + (g : Int) * y
theorem gain_true {bt : Nat → Nat} (i : Nat) : gain (fs (stAt bt i) (bt i)) (sc (stAt bt i) (bt i)) (sft (fs (stAt bt i) (bt i))) (sft (sc (stAt bt i) (bt i))) = sumAt bt (i + 1) - sumAt bt i := by
  have h1 := fs_le (stAt bt i) (bt i)
  have h2 := sc_le (stAt bt i) (bt i)
  simp only [sumAt, gain]
  generalize fs (stAt bt i) (bt i) = f at h1 ⊢
  generalize sc (stAt bt i) (bt i) = g at h2 ⊢
  rcases (by omega : f = 0 ∨ f = 1) with rfl | rfl <;> rcases (by omega : g = 0 ∨ g = 1) with rfl | rfl <;> simp [sft] <;> omega
/-- No step adds more than the true one. -/
theorem gain_le {f g p q : Nat} (hf : f ≤ 1) (hg : g ≤ 1) (hp : p ≤ 1) (hq : q ≤ 1) : gain f g (sft p) (sft q) ≤ gain p q (sft p) (sft q) ∧ (f + p = 1 → g + q = 1 → gain f g (sft p) (sft q) = gain p q (sft p) (sft q) - 14) ∧ -14 ≤ gain f g (sft p) (sft q) ∧ gain f g (sft p) (sft q) ≤ 14 := by
  rcases (by omega : f = 0 ∨ f = 1) with rfl | rfl <;> rcases (by omega : g = 0 ∨ g = 1) with rfl | rfl <;> rcases (by omega : p = 0 ∨ p = 1) with rfl | rfl <;> rcases (by omega : q = 0 ∨ q = 1) with rfl | rfl <;> simp [gain, sft] <;> omega
def least : Int := -1099511627776
/-- What is known of the survivors' sums behind i steps. -/
def Good (bt : Nat → Nat) (i : Nat) (u : Nat → Int) : Prop := u (stAt bt i) = sumAt bt i ∧ ∀ s, s < 64 → (s ≠ stAt bt i → u s ≤ sumAt bt i - 14) ∧ least - 14 * (i : Int) ≤ u s
theorem good_zero {bt : Nat → Nat} {u : Nat → Int} (h0 : u 0 = 0) (h : ∀ s, s < 64 → s ≠ 0 → u s = least) : Good bt 0 u := by
  refine ⟨h0, fun s hs => ⟨fun hn => ?_, ?_⟩⟩
  · rw [h s hs hn]; exact (by decide : least ≤ (0 : Int) - 14)
  · by_cases q : s = 0
    · subst q; rw [h0]; decide
    · rw [h s hs q]; decide
/-- The sum of a way to t over the state before it number k. -/
def frm (t k : Nat) : Nat := 2 * (t % 32) + k
def cand (n8 i : Nat) (u : Nat → Int) (x y : Int) (t k : Nat) : Int := if n8 ≤ i ∧ 32 ≤ t then least else u (frm t k) + gain (fs (frm t k) (t / 32)) (sc (frm t k) (t / 32)) x y
theorem frm_lt {t k : Nat} (hk : k < 2) : frm t k < 64 := by unfold frm; omega
theorem frm_nxt {s b : Nat} (hs : s < 64) (_ : b < 2) : nxt s b / 32 = b ∧ frm (nxt s b) (s % 2) = s := by unfold frm nxt reg; omega
theorem nxt_frm {t k : Nat} (_ : t < 64) (hk : k < 2) : nxt (frm t k) (t / 32) = t := by unfold frm nxt reg; omega
theorem cand_le {bt : Nat → Nat} {n8 i : Nat} {u : Nat → Int} (hb : ∀ i, bt i < 2) (ht0 : ∀ i, n8 ≤ i → bt i = 0) (hG : Good bt i u) {t k : Nat} (ht : t < 64) (hk : k < 2) (hi : i ≤ 1000000) :
    let v := cand n8 i u (sft (sym bt (2 * i))) (sft (sym bt (2 * i + 1))) t k
    (least - 14 * ((i : Int) + 1) ≤ v) ∧ (t = stAt bt (i + 1) → frm t k = stAt bt i → v = sumAt bt (i + 1)) ∧ (¬ (t = stAt bt (i + 1) ∧ frm t k = stAt bt i) → v ≤ sumAt bt (i + 1) - 14) := by
  intro v
  have hs := stAt_lt hb i
  have hbi := hb i
  have e1 : sym bt (2 * i) = fs (stAt bt i) (bt i) := by unfold sym; rw [if_pos (by omega), show 2 * i / 2 = i by omega]
  have e2 : sym bt (2 * i + 1) = sc (stAt bt i) (bt i) := by unfold sym; rw [if_neg (by omega), show (2 * i + 1) / 2 = i by omega]
  have hl : least ≤ sumAt bt (i + 1) - 14 := by have := (sumAt_bd bt (i + 1)).1; unfold least; omega
  have hf := frm_lt (t := t) hk
  have hg := gain_true (bt := bt) i
  have hgl := gain_le (fs_le (frm t k) (t / 32)) (sc_le (frm t k) (t / 32)) (fs_le (stAt bt i) (bt i)) (sc_le (stAt bt i) (bt i))
  have hv : v = if n8 ≤ i ∧ 32 ≤ t then least else u (frm t k) + gain (fs (frm t k) (t / 32)) (sc (frm t k) (t / 32)) (sft (fs (stAt bt i) (bt i))) (sft (sc (stAt bt i) (bt i))) := by
    show cand _ _ _ _ _ _ _ = _
    rw [e1, e2]; rfl
  have hst : stAt bt (i + 1) = nxt (stAt bt i) (bt i) := rfl
  obtain ⟨g1, g2⟩ := hG
  have g3 := g2 _ hf
  by_cases q : n8 ≤ i ∧ 32 ≤ t
  · rw [if_pos q] at hv
    rw [hv]
    refine ⟨by unfold least; omega, fun h1 _ => ?_, fun _ => hl⟩
    have := (frm_nxt hs hbi).1
    rw [← hst, ← h1, ht0 i q.1] at this
    omega
  · rw [if_neg q] at hv
    refine ⟨by rw [hv]; omega, fun h1 h2 => ?_, fun hn => ?_⟩
    · have hb2 : t / 32 = bt i := by rw [h1, hst]; exact (frm_nxt hs hbi).1
      rw [hv, h2, hb2, hg, g1]
      omega
    · by_cases q2 : frm t k = stAt bt i
      · have hne : t / 32 ≠ bt i := fun h => hn ⟨by rw [hst, ← q2, ← h]; exact (nxt_frm ht hk).symm, q2⟩
        obtain ⟨f1, f2⟩ := flip hs (by omega : t / 32 < 2) hbi hne
        rw [q2] at hgl hv
        have := hgl.2.1 f1 f2
        rw [hv, this, hg, g1]
        omega
      · have := g3.1 q2
        rw [hv]
        omega
theorem good_step {bt : Nat → Nat} {n8 i : Nat} {u w : Nat → Int} {fr : Nat → Nat} (hb : ∀ i, bt i < 2) (ht0 : ∀ i, n8 ≤ i → bt i = 0) (hG : Good bt i u) (hi : i ≤ 1000000)
    (hw : ∀ t, t < 64 → ∃ k, k < 2 ∧ w t = cand n8 i u (sft (sym bt (2 * i))) (sft (sym bt (2 * i + 1))) t k ∧ fr t = frm t k ∧ ∀ j, j < 2 → cand n8 i u (sft (sym bt (2 * i))) (sft (sym bt (2 * i + 1))) t j ≤ w t) :
    Good bt (i + 1) w ∧ fr (stAt bt (i + 1)) = stAt bt i := by
  have hs := stAt_lt hb i
  have hs1 := stAt_lt hb (i + 1)
  obtain ⟨k, k1, k2, k3, k4⟩ := hw _ hs1
  have hfr : frm (stAt bt (i + 1)) (stAt bt i % 2) = stAt bt i := (frm_nxt hs (hb i)).2
  have hc := (cand_le hb ht0 hG hs1 (by omega : stAt bt i % 2 < 2) hi).2.1 rfl hfr
  have h4 := k4 (stAt bt i % 2) (by omega)
  obtain ⟨_, c2, c3⟩ := cand_le hb ht0 hG hs1 k1 hi
  have hk : frm (stAt bt (i + 1)) k = stAt bt i := by
    by_cases q : frm (stAt bt (i + 1)) k = stAt bt i
    · exact q
    · have := c3 fun h => q h.2
      omega
  refine ⟨⟨k2.trans (c2 rfl hk), fun t ht => ?_⟩, k3.trans hk⟩
  obtain ⟨k, k1, k2, _, _⟩ := hw t ht
  obtain ⟨c1, _, c3⟩ := cand_le hb ht0 hG ht k1 hi
  rw [k2]
  exact ⟨fun hn => c3 fun h => hn h.1, by rw [show ((i + 1 : Nat) : Int) = (i : Int) + 1 from rfl]; exact c1⟩
/-- The bits of a message, the first one the highest, and zeros behind it. -/
def bitsOf (l : List UInt8) (i : Nat) : Nat := if i < 8 * l.length then (l.getD (i / 8) 0).toNat / 2 ^ (7 - i % 8) % 2 else 0
theorem bitsOf_lt (l : List UInt8) (i : Nat) : bitsOf l i < 2 := by unfold bitsOf; split <;> omega
theorem bitsOf_tail (l : List UInt8) (i : Nat) (h : 8 * l.length ≤ i) : bitsOf l i = 0 := if_neg (by omega)
/-- Six zeros lead to the state 0. -/
theorem st_end {bt : Nat → Nat} (hb : ∀ i, bt i < 2) {n : Nat} (h : ∀ i, n ≤ i → bt i = 0) : stAt bt (n + 6) = 0 := by
  have h0 := stAt_lt hb n
  have e0 : stAt bt (n + 1) = stAt bt n / 2 := by show nxt _ _ = _; rw [h n (by omega)]; unfold nxt reg; omega
  have e1 : stAt bt (n + 2) = stAt bt (n + 1) / 2 := by show nxt _ _ = _; rw [h (n + 1) (by omega)]; unfold nxt reg; omega
  have e2 : stAt bt (n + 3) = stAt bt (n + 2) / 2 := by show nxt _ _ = _; rw [h (n + 2) (by omega)]; unfold nxt reg; omega
  have e3 : stAt bt (n + 4) = stAt bt (n + 3) / 2 := by show nxt _ _ = _; rw [h (n + 3) (by omega)]; unfold nxt reg; omega
  have e4 : stAt bt (n + 5) = stAt bt (n + 4) / 2 := by show nxt _ _ = _; rw [h (n + 4) (by omega)]; unfold nxt reg; omega
  have e5 : stAt bt (n + 6) = stAt bt (n + 5) / 2 := by show nxt _ _ = _; rw [h (n + 5) (by omega)]; unfold nxt reg; omega
  omega
/-- The last bit stands at the state's top. -/
theorem st_bit {bt : Nat → Nat} (hb : ∀ i, bt i < 2) (i : Nat) : stAt bt (i + 1) / 32 = bt i := (frm_nxt (stAt_lt hb i) (hb i)).1
end Vt
