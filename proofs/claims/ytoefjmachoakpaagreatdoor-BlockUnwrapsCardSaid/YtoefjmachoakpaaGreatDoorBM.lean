/-
  OWN WORK. Block: linear equations over the field: what solve does.
-/
import Derived.Test.YtoefjmachoakpaaGreatDoorB6
namespace Galois
open Go Go.Proofs Eng
set_option linter.unusedVariables false
set_option linter.unusedSimpArgs false
set_option maxHeartbeats 4000000
set_option maxRecDepth 100000

abbrev Mat := Nat → Nat → Nat
/-- The first row from i on with something in column i, counted from i on; or -1. -/
def pivF (A : Mat) (n i : Nat) : Int := fstI (fun t => A (i + t) i != 0) (n - i)
/-- .. its number. -/
def pivK (A : Mat) (n i : Nat) : Nat := i + (pivF A n i).toNat
/-- Two rows exchanged. -/
def swapM (A : Mat) (i k : Nat) : Mat := fun j c => if j = k then A i c else if j = i then A k c else A j c
/-- Row i with 1 in its column i. -/
def unitR (A : Mat) (i : Nat) : Nat → Nat := fun c => gmul (gdiv 1 (A i i)) (A i c)
/-- Behind the rows below r: column i is cleared there. -/
def elimM (S : Mat) (i r : Nat) : Mat := fun j c => if j = i then unitR S i c else if j < r then Nat.xor (S j c) (gmul (S j i) (unitR S i c)) else S j c
/-- Round i. -/
def roundM (A : Mat) (n i : Nat) : Mat := elimM (swapM A i (pivK A n i)) i n
/-- The first i rounds. -/
def roundsM (A : Mat) (n : Nat) : Nat → Mat
  | 0 => A
  | i + 1 => roundM (roundsM A n i) n i
/-- They find a row each. -/
def goodM (A : Mat) (n : Nat) : Nat → Bool
  | 0 => true
  | i + 1 => goodM A n i && decide (0 ≤ pivF (roundsM A n i) n i)
theorem goodM_mono {A : Mat} {n : Nat} : ∀ {i j : Nat}, i ≤ j → goodM A n j = true → goodM A n i = true
  | i, 0, h, g => by rw [show i = 0 by omega]; rfl
  | i, j + 1, h, g => by
    by_cases q : i = j + 1
    · rw [q]; exact g
    · simp only [goodM, Bool.and_eq_true] at g
      exact goodM_mono (by omega) g.1
/-- All are bytes. -/
def byteM (A : Mat) : Prop := ∀ j c, A j c < 256
theorem unitR_lt {A : Mat} (h : byteM A) (i c : Nat) : unitR A i c < 256 := gmul_lt (gdiv_lt _ _)
theorem swapM_byte {A : Mat} (h : byteM A) (i k : Nat) : byteM (swapM A i k) := fun j c => by
  unfold swapM
  split
  · exact h _ _
  · split
    · exact h _ _
    · exact h _ _
theorem elimM_byte {A : Mat} (h : byteM A) (i r : Nat) : byteM (elimM A i r) := fun j c => by
  unfold elimM
  split
  · exact unitR_lt h _ _
  · split
    · exact xor_lt (h _ _) (gmul_lt (h _ _))
    · exact h _ _
theorem roundsM_byte {A : Mat} (h : byteM A) (n : Nat) : ∀ i, byteM (roundsM A n i)
  | 0 => h
  | i + 1 => elimM_byte (swapM_byte (roundsM_byte h n i) _ _) _ _
theorem fstI_lt {p : Nat → Bool} : ∀ {n : Nat}, 0 ≤ fstI p n → fstI p n < n ∧ p (fstI p n).toNat = true ∧ noneTo p (fstI p n).toNat = true
  | 0, h => by have : (0 : Int) ≤ -1 := h; omega
  | n + 1, h => by
    simp only [fstI] at h ⊢
    by_cases q : 0 ≤ fstI p n
    · rw [if_pos q]
      obtain ⟨h1, h2, h3⟩ := fstI_lt q
      exact ⟨by omega, h2, h3⟩
    · rw [if_neg q] at h ⊢
      by_cases q2 : p n = true
      · rw [if_pos q2]
        refine ⟨by omega, by simpa using q2, ?_⟩
        cases hn : noneTo p n with
        | true => simpa using hn
        | false => exact absurd ((fstI_pos p n).2 hn) q
      · rw [if_neg q2] at h
        omega
theorem pivK_lt {A : Mat} {n i : Nat} (hi : i < n) (h : 0 ≤ pivF A n i) : i ≤ pivK A n i ∧ pivK A n i < n ∧ A (pivK A n i) i ≠ 0 := by
  obtain ⟨h1, h2, _⟩ := fstI_lt h
  unfold pivK pivF
  refine ⟨by omega, by omega, ?_⟩
  simpa using h2
end Galois
