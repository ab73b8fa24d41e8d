/-
  OWN WORK. Checksums: the register's step is linear; a byte at a time by a table.
-/
import Derived.Test.YtfmbmiiioojbeaaGreatEngN
namespace Rc
open Go
set_option linter.unusedVariables false
set_option linter.unusedSimpArgs false
theorem xor_lt {a b n : Nat} (ha : a < 2 ^ n) (hb : b < 2 ^ n) : a ^^^ b < 2 ^ n := Nat.xor_lt_two_pow ha hb
theorem xor_e (a b : Nat) : Nat.xor a b = a ^^^ b := rfl
def allB (p : Nat → Bool) : Nat → Bool
  | 0 => true
  | n + 1 => p n && allB p n
theorem allB_true {p : Nat → Bool} : ∀ {n : Nat}, allB p n = true → ∀ i, i < n → p i = true
  | n + 1, h, i, hi => by
    simp only [allB, Bool.and_eq_true] at h
    by_cases e : i = n
    · rw [e]; exact h.1
    · exact allB_true h.2 i (by omega)
def itn (f : Nat → Nat) : Nat → Nat → Nat
  | 0, x => x
  | j + 1, x => f (itn f j x)
theorem itn_lin {f : Nat → Nat} (h : ∀ x y, f (x ^^^ y) = f x ^^^ f y) (x y : Nat) : ∀ j, itn f j (x ^^^ y) = itn f j x ^^^ itn f j y
  | 0 => rfl
  | j + 1 => by simp only [itn]; rw [itn_lin h x y j, h]
theorem xor4 (a b c d : Nat) : (a ^^^ b) ^^^ (c ^^^ d) = (a ^^^ c) ^^^ (b ^^^ d) := by
  rw [Nat.xor_assoc, Nat.xor_assoc, ← Nat.xor_assoc b c d, Nat.xor_comm b c, Nat.xor_assoc c b d]

/-! ### 16 bits -/
def s16 (x : Nat) : Nat := (2 * x) % 65536 ^^^ (if x / 32768 % 2 = 1 then 4129 else 0)
theorem top_xor (x y k : Nat) : (x ^^^ y) / 2 ^ k % 2 = (x / 2 ^ k % 2 + y / 2 ^ k % 2) % 2 := by
  have h := Nat.testBit_xor x y k
  rw [Nat.testBit_eq_decide_div_mod_eq, Nat.testBit_eq_decide_div_mod_eq, Nat.testBit_eq_decide_div_mod_eq] at h
  have h1 := Nat.mod_two_eq_zero_or_one (x / 2 ^ k)
  have h2 := Nat.mod_two_eq_zero_or_one (y / 2 ^ k)
  have h3 := Nat.mod_two_eq_zero_or_one ((x ^^^ y) / 2 ^ k)
  rcases h1 with h1 | h1 <;> rcases h2 with h2 | h2 <;> rcases h3 with h3 | h3 <;> simp [h1, h2, h3] at h ⊢
theorem two_xor (x y : Nat) : 2 * (x ^^^ y) = 2 * x ^^^ 2 * y := by
  have := Nat.shiftLeft_xor_distrib (a := x) (b := y) (i := 1)
  simp only [Nat.shiftLeft_eq, Nat.pow_one] at this
  rw [Nat.mul_comm 2, Nat.mul_comm 2, Nat.mul_comm 2]; exact this
theorem if_lin {c a b : Prop} [Decidable c] [Decidable a] [Decidable b] (P : Nat) (h : c ↔ ¬ (a ↔ b)) : (if c then P else 0) = (if a then P else 0) ^^^ (if b then P else 0) := by
  by_cases ha : a <;> by_cases hb : b <;> simp [h, ha, hb]
theorem s16_lin (x y : Nat) : s16 (x ^^^ y) = s16 x ^^^ s16 y := by
  unfold s16
  rw [xor4, two_xor, show (65536 : Nat) = 2 ^ 16 from rfl, Nat.xor_mod_two_pow]
  congr 1
  refine if_lin _ ?_
  have := top_xor x y 15
  simp only [show (2 : Nat) ^ 15 = 32768 from rfl] at this
  omega
theorem s16_lt (x : Nat) : s16 x < 65536 := by
  unfold s16
  exact xor_lt (n := 16) (Nat.mod_lt _ (by decide)) (by split <;> decide)
/-- The reference's step by a bit. -/
def b16 (r bit : Nat) : Nat := if r / 32768 = bit then (2 * r) % 65536 else Nat.xor ((2 * r) % 65536) 4129
theorem b16_s {r bit : Nat} (hr : r < 65536) (hb : bit < 2) : b16 r bit = s16 (r ^^^ bit * 32768) := by
  rw [s16_lin]
  have h0 : r / 32768 < 2 := by omega
  unfold b16 s16
  rcases (show bit = 0 ∨ bit = 1 by omega) with rfl | rfl <;> rcases (show r / 32768 = 0 ∨ r / 32768 = 1 by omega) with h | h <;> simp [h, xor_e]
  rw [Nat.xor_assoc, Nat.xor_self, Nat.xor_zero]
def c16 (s b : Nat) : Nat → Nat
  | 0 => s
  | j + 1 => b16 (c16 s b j) (b / 2 ^ (7 - j) % 2)
theorem rem16 : ∀ b, b < 256 → ∀ j, j < 8 → s16 ((b % 2 ^ (8 - j)) * 2 ^ (8 + j) ^^^ (b / 2 ^ (7 - j) % 2) * 32768) = (b % 2 ^ (8 - (j + 1))) * 2 ^ (8 + (j + 1)) := by
  have h : allB (fun b => allB (fun j => Nat.beq (s16 ((b % 2 ^ (8 - j)) * 2 ^ (8 + j) ^^^ (b / 2 ^ (7 - j) % 2) * 32768)) ((b % 2 ^ (8 - (j + 1))) * 2 ^ (8 + (j + 1)))) 8) 256 = true := by kernel_rfl
  intro b hb j hj
  exact Nat.eq_of_beq_eq_true (allB_true (allB_true h b hb) j hj)
theorem rem16_lt {b j : Nat} (hj : j ≤ 8) : (b % 2 ^ (8 - j)) * 2 ^ (8 + j) < 65536 := by
  have h1 : b % 2 ^ (8 - j) < 2 ^ (8 - j) := Nat.mod_lt _ (Nat.pow_pos (by decide))
  have h2 : 2 ^ (8 - j) * 2 ^ (8 + j) = 65536 := by rw [← Nat.pow_add, show 8 - j + (8 + j) = 16 from by omega]
  calc _ < 2 ^ (8 - j) * 2 ^ (8 + j) := Nat.mul_lt_mul_of_pos_right h1 (Nat.pow_pos (by decide))
    _ = _ := h2
theorem itn16_lt {x : Nat} (h : x < 65536) : ∀ j, itn s16 j x < 65536
  | 0 => h
  | j + 1 => s16_lt _
theorem c16_eq {s b : Nat} (hs : s < 65536) (hb : b < 256) : ∀ j, j ≤ 8 → c16 s b j = itn s16 j (s ^^^ b * 256) ^^^ (b % 2 ^ (8 - j)) * 2 ^ (8 + j)
  | 0, _ => by
    rw [c16, itn, show (8 - 0) = 8 from rfl, show (8 + 0) = 8 from rfl, show (2 : Nat) ^ 8 = 256 from rfl, Nat.mod_eq_of_lt hb, Nat.xor_assoc, Nat.xor_self, Nat.xor_zero]
  | j + 1, h => by
    have hx : s ^^^ b * 256 < 65536 := xor_lt (n := 16) hs (by omega)
    rw [c16, c16_eq hs hb j (by omega), b16_s (xor_lt (n := 16) (itn16_lt hx j) (rem16_lt (by omega))) (Nat.mod_lt _ (by decide)), Nat.xor_assoc, s16_lin, rem16 b hb j (by omega)]
    rfl
theorem low16 : ∀ l, l < 256 → itn s16 8 l = l * 256 := by
  have h : allB (fun l => Nat.beq (itn s16 8 l) (l * 256)) 256 = true := by kernel_rfl
  intro l hl
  exact Nat.eq_of_beq_eq_true (allB_true h l hl)
/-- The table. -/
def t16 (i : Nat) : Nat := itn s16 8 (i * 256)
/-- A byte. -/
def C16 (s b : Nat) : Nat := c16 s b 8
theorem C16_lt {s b : Nat} (hs : s < 65536) (hb : b < 256) : C16 s b < 65536 := by
  unfold C16
  rw [c16_eq hs hb 8 (Nat.le_refl _)]
  exact xor_lt (n := 16) (itn16_lt (xor_lt (n := 16) hs (by omega)) _) (rem16_lt (Nat.le_refl _))
theorem split256 (s : Nat) : s = s % 256 ^^^ s / 256 * 256 := by
  have h := Nat.two_pow_add_eq_or_of_lt (i := 8) (b := s % 256) (Nat.mod_lt _ (by decide)) (s / 256)
  have h2 : (2 ^ 8 * (s / 256)) ^^^ (s % 256) = (2 ^ 8 * (s / 256)) ||| (s % 256) := by
    apply Nat.eq_of_testBit_eq
    intro i
    rw [Nat.testBit_xor, Nat.testBit_or]
    by_cases hi : i < 8
    · rw [Nat.testBit_two_pow_mul, decide_eq_false (by omega)]; simp
    · rw [Nat.testBit_lt_two_pow (x := s % 256) (i := i) (Nat.lt_of_lt_of_le (Nat.mod_lt _ (by decide)) (show 2 ^ 8 ≤ 2 ^ i from Nat.pow_le_pow_right (by decide) (by omega)))]; simp
  rw [Nat.xor_comm, Nat.mul_comm (s / 256) 256, show (256 : Nat) = 2 ^ 8 from rfl, h2, ← h, Nat.div_add_mod]
theorem C16_tab {s b : Nat} (hs : s < 65536) (hb : b < 256) : C16 s b = (s * 256) % 65536 ^^^ t16 (s / 256 ^^^ b) := by
  unfold C16 t16
  rw [c16_eq hs hb 8 (Nat.le_refl _), show (8 - 8) = 0 from rfl, show (2 : Nat) ^ 0 = 1 from rfl, Nat.mod_one, Nat.zero_mul, Nat.xor_zero]
  have e : s ^^^ b * 256 = s % 256 ^^^ (s / 256 ^^^ b) * 256 := by
    have := Nat.shiftLeft_xor_distrib (a := s / 256) (b := b) (i := 8)
    simp only [Nat.shiftLeft_eq, show (2 : Nat) ^ 8 = 256 from rfl] at this
    rw [this, ← Nat.xor_assoc, ← split256]
  rw [e, itn_lin s16_lin, low16 _ (Nat.mod_lt _ (by decide))]
  congr 1
  omega
def n16 (s : Nat) : List UInt8 → Nat
  | [] => s
  | b :: r => n16 (C16 s b.toNat) r
theorem n16_lt : ∀ {l : List UInt8} {s : Nat}, s < 65536 → n16 s l < 65536
  | [], s, h => h
  | b :: r, s, h => n16_lt (l := r) (C16_lt h b.toNat_lt)
theorem n16_snoc (b : UInt8) : ∀ (l : List UInt8) (s : Nat), n16 s (l ++ [b]) = C16 (n16 s l) b.toNat
  | [], s => rfl
  | a :: r, s => n16_snoc b r _

/-! ### 32 bits -/
def s32 (x : Nat) : Nat := x / 2 ^^^ (if x % 2 = 1 then 3988292384 else 0)
theorem half_xor (x y : Nat) : (x ^^^ y) / 2 = x / 2 ^^^ y / 2 := by
  have := Nat.shiftRight_xor_distrib (a := x) (b := y) (i := 1)
  simpa [Nat.shiftRight_eq_div_pow] using this
theorem s32_lin (x y : Nat) : s32 (x ^^^ y) = s32 x ^^^ s32 y := by
  unfold s32
  rw [xor4, half_xor]
  congr 1
  refine if_lin _ ?_
  have := top_xor x y 0
  simp only [Nat.pow_zero, Nat.div_one] at this
  omega
theorem s32_lt {x : Nat} (h : x < 4294967296) : s32 x < 4294967296 := by
  unfold s32
  exact xor_lt (n := 32) (by omega) (by split <;> decide)
def b32 (r bit : Nat) : Nat := if r % 2 = bit then r / 2 else Nat.xor (r / 2) 3988292384
theorem b32_s {r bit : Nat} (hb : bit < 2) : b32 r bit = s32 (r ^^^ bit) := by
  rw [s32_lin]
  unfold b32 s32
  rcases (show bit = 0 ∨ bit = 1 by omega) with rfl | rfl <;> rcases (show r % 2 = 0 ∨ r % 2 = 1 by omega) with h | h <;> simp [h, xor_e]
  rw [Nat.xor_assoc, Nat.xor_self, Nat.xor_zero]
def c32 (s b : Nat) : Nat → Nat
  | 0 => s
  | j + 1 => b32 (c32 s b j) (b / 2 ^ j % 2)
theorem rem32 (b j : Nat) : s32 (b / 2 ^ j ^^^ b / 2 ^ j % 2) = b / 2 ^ (j + 1) := by
  rw [Nat.pow_succ, ← Nat.div_div_eq_div_mul]
  generalize b / 2 ^ j = x
  rw [s32_lin]
  unfold s32
  rcases Nat.mod_two_eq_zero_or_one x with h | h <;> simp [h]
  rw [Nat.xor_assoc, Nat.xor_self, Nat.xor_zero]
theorem c32_eq {s b : Nat} : ∀ j, c32 s b j = itn s32 j (s ^^^ b) ^^^ b / 2 ^ j
  | 0 => by rw [c32, itn, Nat.pow_zero, Nat.div_one, Nat.xor_assoc, Nat.xor_self, Nat.xor_zero]
  | j + 1 => by
    rw [c32, c32_eq j, b32_s (Nat.mod_lt _ (by decide)), Nat.xor_assoc, s32_lin, rem32]
    rfl
theorem itn32_lt {x : Nat} (h : x < 4294967296) : ∀ j, itn s32 j x < 4294967296
  | 0 => h
  | j + 1 => s32_lt (itn32_lt h j)
theorem high32 (h : Nat) : itn s32 8 (h * 256) = h := by
  have e : ∀ x, s32 (2 * x) = x := fun x => by unfold s32; simp
  simp only [itn]
  rw [show h * 256 = 2 * (2 * (2 * (2 * (2 * (2 * (2 * (2 * h))))))) from by omega]
  simp only [e]
def t32 (i : Nat) : Nat := itn s32 8 i
def C32 (s b : Nat) : Nat := c32 s b 8
theorem C32_lt {s b : Nat} (hs : s < 4294967296) (hb : b < 256) : C32 s b < 4294967296 := by
  unfold C32
  rw [c32_eq]
  exact xor_lt (n := 32) (itn32_lt (xor_lt (n := 32) hs (by omega)) _) (by omega)
theorem C32_tab {s b : Nat} (hb : b < 256) : C32 s b = s / 256 ^^^ t32 (s % 256 ^^^ b) := by
  unfold C32 t32
  rw [c32_eq, show (2 : Nat) ^ 8 = 256 from rfl, Nat.div_eq_of_lt hb, Nat.xor_zero]
  have e : s ^^^ b = s / 256 * 256 ^^^ (s % 256 ^^^ b) := by
    rw [← Nat.xor_assoc, Nat.xor_comm (s / 256 * 256), ← split256]
  rw [e, itn_lin s32_lin, high32]
def n32 (s : Nat) : List UInt8 → Nat
  | [] => s
  | b :: r => n32 (C32 s b.toNat) r
theorem n32_lt : ∀ {l : List UInt8} {s : Nat}, s < 4294967296 → n32 s l < 4294967296
  | [], s, h => h
  | b :: r, s, h => n32_lt (l := r) (C32_lt h b.toNat_lt)
theorem n32_snoc (b : UInt8) : ∀ (l : List UInt8) (s : Nat), n32 s (l ++ [b]) = C32 (n32 s l) b.toNat
  | [], s => rfl
  | a :: r, s => n32_snoc b r _
def crc16 (l : List UInt8) : Int := (n16 65535 l : Nat)
def crc32 (l : List UInt8) : Int := (4294967295 - n32 4294967295 l : Nat)
end Rc
