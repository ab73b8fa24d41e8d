/-
  OWN WORK. Block: what Decode answers where few bytes are wrong, plainly.
-/
import Derived.Test.YtoefjmachoakpaaGreatDoorBO
namespace Galois
open Go Go.Proofs Eng
set_option linter.unusedVariables false
set_option linter.unusedSimpArgs false
set_option maxRecDepth 100000

theorem difN_succ (s t : List UInt8) (k : Nat) : difN s t (k + 1) = if co s k = co t k then difN s t k else difN s t k + 1 := rfl
theorem gL_at {l : List Int} {i : Nat} (h : i < l.length) : gL l i = l[i] := by
  unfold gL
  rw [List.getD_eq_getElem?_getD, List.getElem?_eq_getElem h]
  rfl
theorem sortF_mono {n : Nat} {f : Nat → Int} {i j : Nat} (hij : i < j) (hj : j < n) : sortF n f i ≤ sortF n f j := by
  have h : (sortL n f).Pairwise fun x y => decide (x ≤ y) = true := by
    unfold sortL
    exact List.pairwise_mergeSort (le := fun x y : Int => decide (x ≤ y)) (fun a b c h1 h2 => decide_eq_true (Int.le_trans (of_decide_eq_true h1) (of_decide_eq_true h2))) (fun a b => by rcases Int.le_total a b with h | h <;> simp [h]) _
  have hl := sortL_len n f
  have := of_decide_eq_true (List.pairwise_iff_getElem.1 h i j (by omega) (by omega) hij)
  unfold sortF
  rw [if_pos (by omega), if_pos hj]
  simp only [List.getD_eq_getElem?_getD]
  rw [List.getElem?_eq_getElem (by omega), List.getElem?_eq_getElem (by omega)]
  exact this
theorem dd_facts {f : Nat → Int} : ∀ n, (∀ i j, i < j → j < n → f i ≤ f j) → (ddL f n).Pairwise (· < ·) ∧ (∀ v ∈ ddL f n, 0 < n ∧ v ≤ f (n - 1)) ∧ ∀ k, k < n → f k ∈ ddL f n
  | 0, _ => ⟨List.Pairwise.nil, (fun v h => by cases h), (fun k h => by omega)⟩
  | n + 1, hm => by
    obtain ⟨h1, h2, h3⟩ := dd_facts n fun i j h1 h2 => hm i j h1 (by omega)
    by_cases q : n = 0 ∨ f n ≠ f (n - 1)
    · rw [ddL_yes q]
      refine ⟨List.pairwise_append.2 ⟨h1, List.pairwise_singleton _ _, fun a ha b hb => ?_⟩, fun v hv => ⟨by omega, ?_⟩, fun k hk => ?_⟩
      · rw [List.mem_singleton] at hb
        subst hb
        obtain ⟨n0, hle⟩ := h2 a ha
        have := hm (n - 1) n (by omega) (by omega)
        rcases q with q | q
        · omega
        · omega
      · rcases List.mem_append.1 hv with hv | hv
        · obtain ⟨n0, hle⟩ := h2 v hv
          have := hm (n - 1) n (by omega) (by omega)
          show v ≤ f n
          omega
        · rw [List.mem_singleton] at hv
          rw [hv]
          exact Int.le_refl _
      · by_cases e : k = n
        · rw [e]; exact List.mem_append_right _ (List.mem_singleton.2 rfl)
        · exact List.mem_append_left _ (h3 k (by omega))
    · have e : ddL f (n + 1) = ddL f n := by rw [ddL, if_neg q]
      have hn : n ≠ 0 := fun h => q (Or.inl h)
      have hf : f n = f (n - 1) := Classical.byContradiction fun h => q (Or.inr h)
      rw [e]
      refine ⟨h1, fun v hv => ⟨by omega, ?_⟩, fun k hk => ?_⟩
      · show v ≤ f n
        rw [hf]
        exact (h2 v hv).2
      · by_cases e : k = n
        · rw [e, hf]; exact h3 _ (by omega)
        · exact h3 k (by omega)
theorem ownL_lt (er : Nat → Int) (n : Nat) : (ownL er n).Pairwise (· < ·) := (dd_facts n fun i j h1 h2 => sortF_mono h1 h2).1
theorem ownL_all {er : Nat → Int} {n j : Nat} (hj : j < n) : er j ∈ ownL er n := by
  have hm : er j ∈ sortL n er := by
    unfold sortL
    rw [List.mem_mergeSort]
    exact List.mem_map.2 ⟨j, List.mem_range.2 hj, rfl⟩
  obtain ⟨k, hk, e⟩ := List.getElem_of_mem hm
  have hl := sortL_len n er
  have h := (dd_facts n (f := sortF n er) fun i j h1 h2 => sortF_mono h1 h2).2.2 k (by omega)
  have e2 : sortF n er k = er j := by
    unfold sortF
    rw [if_pos (by omega), List.getD_eq_getElem?_getD, List.getElem?_eq_getElem hk]
    exact e
  rw [e2] at h
  exact h
end Galois
