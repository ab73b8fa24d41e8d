/-
  OWN WORK. Block: what Decode answers where few bytes are wrong, plainly.
-/
import Derived.Test.YtoefjmachoakpaaDoorBO
namespace Galois
open Go Go.Proofs Eng
set_option linter.unusedVariables false
set_option linter.unusedSimpArgs false
set_option maxRecDepth 100000

theorem difN_zero (s t : List UInt8) : difN s t 0 = 0 := rfl
theorem difN_succ (s t : List UInt8) (k : Nat) : difN s t (k + 1) = if co s k = co t k then difN s t k else difN s t k + 1 := rfl
theorem take_enc {a : List UInt8} (h1 : 1 ≤ a.length) (h2 : a.length ≤ 223) : (encL a).take a.length = a := by
  rw [encL_of h1 h2, List.take_left]
theorem encE_of {d : List UInt8} (h1 : 1 ≤ d.length) (h2 : d.length ≤ 223) : encE d = 0 := by
  unfold encE
  rw [encB_of h1 h2]
  rfl
theorem gL_at {l : List Int} {i : Nat} (h : i < l.length) : gL l i = l[i] := by
  unfold gL
  rw [List.getD_eq_getElem?_getD, List.getElem?_eq_getElem h]
  rfl
theorem sortF_mono {n : Nat} {f : Nat → Int} {i j : Nat} (hij : i < j) (hj : j < n) : sortF n f i ≤ sortF n f j := by
  have h : (sortL n f).Pairwise fun x y => decide (x ≤ y) = true := by
    unfold sortL
    exact List.pairwise_mergeSort (le := fun x y : Int => decide (x ≤ y)) (fun a b c h1 h2 => decide_eq_true (Int.le_trans (of_decide_eq_true h1) (of_decide_eq_true h2))) (fun a b => by rcases Int.le_total a b with h | h <;> simp [h]) _
  have hl := sortL_len n f
  have := of_decide_eq_true (List.pairwise_iff_getElem.1 h i j (by omega) (by omega) hij)
  unfold sortF
  rw [if_pos (by omega), if_pos hj]
  simp only [List.getD_eq_getElem?_getD]
  rw [List.getElem?_eq_getElem (by omega), List.getElem?_eq_getElem (by omega)]
  exact this
theorem dd_facts {f : Nat → Int} : ∀ n, (∀ i j, i < j → j < n → f i ≤ f j) → (ddL f n).Pairwise (· < ·) ∧ (∀ v ∈ ddL f n, 0 < n ∧ v ≤ f (n - 1)) ∧ ∀ k, k < n → f k ∈ ddL f n
  | 0, _ => ⟨List.Pairwise.nil, (fun v h => by cases h), (fun k h => by omega)⟩
  | n + 1, hm => by
    obtain ⟨h1, h2, h3⟩ := dd_facts n fun i j h1 h2 => hm i j h1 (by omega)
    by_cases q : n = 0 ∨ f n ≠ f (n - 1)
    · rw [ddL_yes q]
      refine ⟨List.pairwise_append.2 ⟨h1, List.pairwise_singleton _ _, fun a ha b hb => ?_⟩, fun v hv => ⟨by omega, ?_⟩, fun k hk => ?_⟩
      · rw [List.mem_singleton] at hb
        subst hb
        obtain ⟨n0, hle⟩ := h2 a ha
        have := hm (n - 1) n (by omega) (by omega)
        rcases q with q | q
        · omega
        · omega
      · rcases List.mem_append.1 hv with hv | hv
        · obtain ⟨n0, hle⟩ := h2 v hv
          have := hm (n - 1) n (by omega) (by omega)
          show v ≤ f n
          omega
        · rw [List.mem_singleton] at hv
          rw [hv]
          exact Int.le_refl _
      · by_cases e : k = n
        · rw [e]; exact List.mem_append_right _ (List.mem_singleton.2 rfl)
        · exact List.mem_append_left _ (h3 k (by omega))
    · have e : ddL f (n + 1) = ddL f n := by rw [ddL, if_neg q]
      have hn : n ≠ 0 := fun h => q (Or.inl h)
      have hf : f n = f (n - 1) := Classical.byContradiction fun h => q (Or.inr h)
      rw [e]
      refine ⟨h1, fun v hv => ⟨by omega, ?_⟩, fun k hk => ?_⟩
      · show v ≤ f n
        rw [hf]
        exact (h2 v hv).2
      · by_cases e : k = n
        · rw [e, hf]; exact h3 _ (by omega)
        · exact h3 k (by omega)
theorem ownL_lt (er : Nat → Int) (n : Nat) : (ownL er n).Pairwise (· < ·) := (dd_facts n fun i j h1 h2 => sortF_mono h1 h2).1
theorem ownL_all {er : Nat → Int} {n j : Nat} (hj : j < n) : er j ∈ ownL er n := by
  have hm : er j ∈ sortL n er := by
    unfold sortL
    rw [List.mem_mergeSort]
    exact List.mem_map.2 ⟨j, List.mem_range.2 hj, rfl⟩
  obtain ⟨k, hk, e⟩ := List.getElem_of_mem hm
  have hl := sortL_len n er
  have h := (dd_facts n (f := sortF n er) fun i j h1 h2 => sortF_mono h1 h2).2.2 k (by omega)
  have e2 : sortF n er k = er j := by
    unfold sortF
    rw [if_pos (by omega), List.getD_eq_getElem?_getD, List.getElem?_eq_getElem hk]
    exact e
  rw [e2] at h
  exact h
theorem sorted_eq : ∀ {l m : List Int}, l.Pairwise (· < ·) → m.Pairwise (· < ·) → (∀ x, x ∈ l ↔ x ∈ m) → l = m
  | [], [], _, _, _ => rfl
  | [], b :: m, _, _, h => by have := (h b).2 (List.mem_cons_self ..); cases this
  | a :: l, [], _, _, h => by have := (h a).1 (List.mem_cons_self ..); cases this
  | a :: l, b :: m, h1, h2, h => by
    rw [List.pairwise_cons] at h1 h2
    have hab : a = b := by
      have e1 := List.mem_cons.1 ((h a).1 (List.mem_cons_self ..))
      have e2 := List.mem_cons.1 ((h b).2 (List.mem_cons_self ..))
      rcases e1 with e1 | e1
      · exact e1
      · rcases e2 with e2 | e2
        · exact e2.symm
        · have q1 := h2.1 a e1
          have q2 := h1.1 b e2
          omega
    subst hab
    rw [sorted_eq h1.2 h2.2 fun x => ?_]
    constructor
    · intro hx
      rcases List.mem_cons.1 ((h x).1 (List.mem_cons_of_mem _ hx)) with e | e
      · have := h1.1 x hx; omega
      · exact e
    · intro hx
      rcases List.mem_cons.1 ((h x).2 (List.mem_cons_of_mem _ hx)) with e | e
      · have := h2.1 x hx; omega
      · exact e
/-- Is place p told? -/
def lsB (own : List Int) (p : Nat) : Bool := inB (gL own) own.length (p : Nat)
/-- How many of the first places are told? -/
def ownN (own : List Int) : Nat → Nat
  | 0 => 0
  | p + 1 => if lsB own p then ownN own p + 1 else ownN own p
/-- How many of the first places are wrong and not told? -/
def besN (b c : List UInt8) (own : List Int) : Nat → Nat
  | 0 => 0
  | p + 1 => if co b p ≠ co c p ∧ lsB own p = false then besN b c own p + 1 else besN b c own p
theorem ownN_le (own : List Int) : ∀ p, ownN own p ≤ p
  | 0 => Nat.le_refl _
  | p + 1 => by
    have := ownN_le own p
    unfold ownN
    split <;> omega
theorem besN_le (b c : List UInt8) (own : List Int) : ∀ p, besN b c own p ≤ p
  | 0 => Nat.le_refl _
  | p + 1 => by
    have := besN_le b c own p
    unfold besN
    split <;> omega
theorem ownN_filter (own : List Int) : ∀ k, ownN own k = ((List.range k).filter fun p => lsB own p).length
  | 0 => rfl
  | k + 1 => by
    rw [List.range_succ, List.filter_append, List.length_append, ← ownN_filter own k]
    show (if lsB own k then ownN own k + 1 else ownN own k) = _
    cases h : lsB own k <;> simp [h]
theorem besN_filter (b c : List UInt8) (own : List Int) : ∀ k, besN b c own k = ((List.range k).filter fun p => decide (co b p ≠ co c p ∧ lsB own p = false)).length
  | 0 => rfl
  | k + 1 => by
    rw [List.range_succ, List.filter_append, List.length_append, ← besN_filter b c own k]
    show (if co b k ≠ co c k ∧ lsB own k = false then besN b c own k + 1 else besN b c own k) = _
    by_cases h : co b k ≠ co c k ∧ lsB own k = false
    · rw [if_pos h]
      simp only [List.filter_cons, List.filter_nil, decide_eq_true h]
      rfl
    · rw [if_neg h]
      simp only [List.filter_cons, List.filter_nil, decide_eq_false h]
      rfl
theorem lsB_iff {own : List Int} {p : Nat} : lsB own p = true ↔ ((p : Nat) : Int) ∈ ownL (gL own) own.length := by
  unfold lsB
  rw [inB_true]
  constructor
  · rintro ⟨i, hi, e⟩
    rw [← e]
    exact ownL_all hi
  · intro h
    obtain ⟨j, hj, e⟩ := ownL_mem h
    exact ⟨j, hj, e.symm⟩
/-- FEW WRONG BYTES ARE CORRECTED. -/
theorem corrects {b c : List UInt8} (hl : c.length = b.length) (h9 : 9 ≤ b.length) (hL : b.length ≤ 231) (hc : ∀ j, j < 8 → syn0 c j = 0) {own : List Int} (hr : ∀ v ∈ own, 0 ≤ v ∧ v < (b.length : Int)) (h8 : ownN own b.length + 2 * besN b c own b.length ≤ 8) :
    decL b (gL own) own.length = c.take (b.length - 8) ∧ decN b (gL own) own.length = (difN b c b.length : Nat) ∧ decE b (gL own) own.length = 0 := by
  have hlt := ownL_lt (gL own) own.length
  have hin : ∀ v ∈ ownL (gL own) own.length, 0 ≤ v ∧ v < (b.length : Int) := fun v hv => by
    obtain ⟨j, hj, e⟩ := ownL_mem hv
    rw [e]
    exact hr _ (gL_mem hj)
  have hn1 : (ownL (gL own) own.length).length = ownN own b.length := by
    have e : ownL (gL own) own.length = ((List.range b.length).filter fun p => lsB own p).map fun p => ((p : Nat) : Int) := by
      refine sorted_eq hlt ?_ fun x => ?_
      · refine List.pairwise_map.2 ((List.Pairwise.filter _ List.pairwise_lt_range).imp fun h => ?_)
        omega
      · constructor
        · intro hx
          obtain ⟨x1, x2⟩ := hin x hx
          refine List.mem_map.2 ⟨x.toNat, List.mem_filter.2 ⟨List.mem_range.2 (by omega), lsB_iff.2 ?_⟩, by omega⟩
          rw [show ((x.toNat : Nat) : Int) = x by omega]
          exact hx
        · intro hx
          obtain ⟨p, hp, e⟩ := List.mem_map.1 hx
          rw [← e]
          exact lsB_iff.1 (List.mem_filter.1 hp).2
    rw [ownN_filter]
    calc (ownL (gL own) own.length).length = _ := congrArg List.length e
      _ = _ := List.length_map ..
  have hgl : ∀ {i}, i < (ownL (gL own) own.length).length → gL (ownL (gL own) own.length) i ∈ ownL (gL own) own.length := fun hi => gL_mem hi
  have hn2 : (pbL b c (gL (ownL (gL own) own.length)) (ownL (gL own) own.length).length).length = besN b c own b.length := by
    rw [besN_filter]
    unfold pbL
    congr 1
    refine List.filter_congr fun p hp => ?_
    have hp := List.mem_range.1 hp
    rw [decide_eq_decide, gw_ne hL (fun i hi => hin _ (gL_mem hi)) hp, df_at hl hp]
    constructor
    · rintro ⟨a1, a2⟩
      refine ⟨fun e => a1 (by rw [e]; exact Nat.xor_self _), ?_⟩
      cases e : lsB own p with
      | false => rfl
      | true =>
        obtain ⟨i, hi, e2⟩ := List.getElem_of_mem (lsB_iff.1 e)
        refine absurd ?_ (a2 i hi)
        rw [gL_at hi]
        exact e2
    · rintro ⟨a1, a2⟩
      refine ⟨xor_ne a1, fun i hi e => ?_⟩
      have := gL_mem hi
      rw [e] at this
      rw [lsB_iff.2 this] at a2
      cases a2
  have hd : decR b (ownL (gL own) own.length) = some c := dec_right hl h9 hL hc hin (fun i j hi hj h => by
    have hp := List.pairwise_iff_getElem.1 hlt
    rw [gL_at hi, gL_at hj] at h
    rcases Nat.lt_trichotomy i j with q | q | q
    · have := hp i j hi hj q
      omega
    · exact q
    · have := hp j i hj hi q
      omega) (by rw [hn2, hn1]; exact h8)
  have hB : decB b (gL own) own.length = false := by
    unfold decB
    rw [decide_eq_false (by omega), decide_eq_false (by omega)]
    have : noneTo (outP (gL own) b.length) own.length = true := noneTo_iff.2 fun k hk => by
      obtain ⟨a1, a2⟩ := hr _ (gL_mem hk)
      unfold outP
      rw [decide_eq_false (by omega), decide_eq_false (by omega)]
      rfl
    rw [this]
    rfl
  unfold decL decN decE
  rw [hB, hd]
  exact ⟨rfl, rfl, rfl⟩
end Galois
