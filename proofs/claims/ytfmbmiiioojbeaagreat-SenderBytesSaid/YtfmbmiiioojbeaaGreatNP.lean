/-
  OWN WORK. Sender: what is due, in plain Lean.
-/
import Derived.Test.YtfmbmiiioojbeaaGreatNA
namespace Rc
open Go
set_option linter.unusedVariables false
set_option linter.unusedSimpArgs false
/-- What is due is what stands in the spans. -/
def dueI (len : Nat) (f : Nat → Int) (L : List P2) : Prop := ∀ k : Nat, k < len → (f k = 1 ∧ inL L k) ∨ (f k = 0 ∧ ¬ inL L k)
def gpI (len : Nat) (gs : List P2) (f : Nat → Int) : Prop := ∀ k : Nat, k < len → (f k = 1 ∧ inG len gs k) ∨ (f k = 0 ∧ ¬ inG len gs k)
def cnt (f : Nat → Int) : Nat → Nat
  | 0 => 0
  | k + 1 => cnt f k + (f k).toNat
theorem cnt_le {f : Nat → Int} : ∀ n, (∀ k, k < n → f k ≤ 1) → cnt f n ≤ n
  | 0, _ => Nat.le_refl _
  | n + 1, h => by
    have := cnt_le n fun k hk => h k (by omega)
    have := h n (by omega)
    simp only [cnt]
    omega
theorem cnt_take {f g : Nat → Int} {a m : Int} (h0 : 0 ≤ a) (ham : a ≤ m) : ∀ n : Nat, (∀ k : Nat, k < n → f k = g k - if a ≤ k ∧ (k : Int) < m then 1 else 0) → (∀ k : Nat, k < n → a ≤ k → (k : Int) < m → g k = 1) → cnt f n + (min m n - min a n).toNat = cnt g n
  | 0, _, _ => by simp only [cnt]; omega
  | n + 1, h1, h2 => by
    have ih := cnt_take h0 ham n (fun k hk => h1 k (by omega)) (fun k hk => h2 k (by omega))
    have e1 := h1 n (by omega)
    have e2 := h2 n (by omega)
    simp only [cnt]
    by_cases q : a ≤ n ∧ (n : Int) < m
    · rw [if_pos q] at e1
      have := e2 q.1 q.2
      omega
    · rw [if_neg q] at e1
      have : f n = g n := by omega
      rw [this]
      omega
theorem due_bd {len : Nat} {f : Nat → Int} {L : List P2} (h : dueI len f L) (k : Nat) (hk : k < len) : 0 ≤ f k ∧ f k ≤ 1 := by
  rcases h k hk with q | q <;> omega
theorem due_take {len : Nat} {f g : Nat → Int} {a e m : Int} {r : List P2} (hS : Sp len ((a, e) :: r)) (hm : m = min e (a + 160)) (hd : dueI len g ((a, e) :: r)) (hf : ∀ k : Nat, f k = g k - if a ≤ k ∧ (k : Int) < m then 1 else 0) :
    dueI len f (if e ≤ m then r else (m, e) :: r) ∧ cnt f len < cnt g len := by
  obtain ⟨_, d1, d2, d3, _, d5, d6⟩ := drop_is hS m hm
  refine ⟨fun k hk => ?_, ?_⟩
  · rw [hf k]
    have e5 := d5 k
    have e6 := d6 k
    by_cases q : a ≤ k ∧ (k : Int) < m
    · rw [if_pos q]
      rcases hd k hk with ⟨h1, _⟩ | ⟨_, h2⟩
      · exact .inr ⟨by omega, e6 q.1 q.2⟩
      · exact absurd (e5.2 (.inl q)) h2
    · rw [if_neg q]
      rcases hd k hk with ⟨h1, h2⟩ | ⟨h1, h2⟩
      · exact .inl ⟨by omega, (e5.1 h2).resolve_left q⟩
      · exact .inr ⟨by omega, fun h => h2 (e5.2 (.inr h))⟩
  · have := cnt_take (f := f) (g := g) (a := a) (m := m) d1 (by omega) len (fun k _ => hf k) (fun k hk h1 h2 => by
      rcases hd k hk with ⟨q, _⟩ | ⟨_, q⟩
      · exact q
      · exact absurd ((d5 k).2 (.inl ⟨h1, h2⟩)) q)
    omega
theorem due_gap {len : Nat} {f : Nat → Int} {L : List P2} {gs : List P2} (h : ∀ z, inL L z ↔ inL [] z ∨ inG len gs z) (hg : gpI len gs f) : dueI len f L := fun k hk => by
  have e := h k
  rcases hg k hk with ⟨h1, h2⟩ | ⟨h1, h2⟩
  · exact .inl ⟨h1, e.2 (.inr h2)⟩
  · exact .inr ⟨h1, fun q => (e.1 q).elim (inL_nil _) h2⟩
theorem gp_nil {len : Nat} {f : Nat → Int} (h : ∀ k, k < len → f k = 0) : gpI len [] f := fun k hk => .inr ⟨h k hk, fun ⟨_, q, _⟩ => by cases q⟩
/-- One gap more. -/
theorem gp_step {len : Nat} {f g : Nat → Int} {gs : List P2} {i : Nat} (hi : i < gs.length) (hg : gpI len (gs.take i) g) {j : Nat} (hj : min (gs.getD i (0, 0)).2 len ≤ (gs.getD i (0, 0)).1 + j) (hj2 : j = 0 ∨ (gs.getD i (0, 0)).1 + j ≤ min (gs.getD i (0, 0)).2 len)
    (hf : ∀ k : Nat, f k = if (gs.getD i (0, 0)).1 ≤ k ∧ (k : Int) < (gs.getD i (0, 0)).1 + j then 1 else g k) : gpI len (gs.take (i + 1)) f := fun k hk => by
  have e := inG_succ len gs i hi k
  rw [hf k]
  by_cases q : (gs.getD i (0, 0)).1 ≤ k ∧ (k : Int) < (gs.getD i (0, 0)).1 + j
  · rw [if_pos q]
    exact .inl ⟨rfl, e.2 (.inr ⟨q.1, by omega⟩)⟩
  · rw [if_neg q]
    rcases hg k hk with ⟨h1, h2⟩ | ⟨h1, h2⟩
    · exact .inl ⟨h1, e.2 (.inl h2)⟩
    · refine .inr ⟨h1, fun h => ?_⟩
      rcases e.1 h with h | h
      · exact h2 h
      · exact q ⟨h.1, by omega⟩
end Rc
