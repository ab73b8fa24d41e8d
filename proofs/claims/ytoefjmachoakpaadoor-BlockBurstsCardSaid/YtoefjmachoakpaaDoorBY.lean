/-
  OWN WORK. Block: bursts, plainly.
-/
import Derived.Test.YtoefjmachoakpaaDoorBX
import Derived.Test.YtoefjmachoakpaaDoorBT
namespace Galois
open Go Go.Proofs Eng
set_option linter.unusedVariables false
set_option linter.unusedSimpArgs false
set_option maxRecDepth 100000

theorem difN_range {b c : List UInt8} {p0 m : Nat} : ∀ k, (∀ p, p < k → co b p ≠ co c p → p0 ≤ p ∧ p < p0 + m) → difN b c k ≤ m ∧ difN b c k ≤ k - p0
  | 0, _ => ⟨Nat.zero_le _, Nat.zero_le _⟩
  | k + 1, h => by
    obtain ⟨h1, h2⟩ := difN_range k fun p hp => h p (by omega)
    rw [difN_succ]
    by_cases e : co b k = co c k
    · rw [if_pos e]
      exact ⟨h1, by omega⟩
    · rw [if_neg e]
      obtain ⟨h3, h4⟩ := h k (by omega) e
      omega
theorem besN_nil (b c : List UInt8) : ∀ k, besN b c [] k = difN b c k
  | 0 => rfl
  | k + 1 => by
    rw [difN_succ, ← besN_nil b c k]
    show (if co b k ≠ co c k ∧ lsB [] k = false then besN b c [] k + 1 else besN b c [] k) = _
    by_cases e : co b k = co c k
    · rw [if_pos e, if_neg fun q => q.1 e]
    · rw [if_neg e, if_pos ⟨e, rfl⟩]
theorem ownN_nil : ∀ k, ownN [] k = 0
  | 0 => rfl
  | k + 1 => by
    show (if lsB [] k then ownN [] k + 1 else ownN [] k) = 0
    rw [ownN_nil k]
    rfl
/-- A word with four wrong bytes at most. -/
theorem four {b c : List UInt8} (hl : c.length = b.length) (h9 : 9 ≤ b.length) (hL : b.length ≤ 231) (hc : ∀ j, j < 8 → syn0 c j = 0) (h : difN b c b.length ≤ 4) :
    decL b er0 0 = c.take (b.length - 8) ∧ 0 ≤ decN b er0 0 ∧ decE b er0 0 = 0 := by
  obtain ⟨c1, c2, c3⟩ := corrects hl h9 hL hc (own := []) (fun v hv => by cases hv) (by rw [ownN_nil, besN_nil]; omega)
  have e : gL [] = er0 := funext fun k => rfl
  rw [e] at c1 c2 c3
  exact ⟨c1, by rw [show decN b er0 0 = _ from c2]; omega, c3⟩
theorem co_part {l : List UInt8} {j n p : Nat} (hp : p < partN l.length j n) : co (partL l j n) p = co l (j + p * n) := byt_get (F := fun k => co l (j + k * n)) (fun k => co_lt _ _) hp
theorem uW_at {b : List UInt8} {n j p m : Nat} (hj : j < n) (hm : b.length = m + 8 * n) (hp : p < partN m j n + 8) : co (uW b n j) p = if p < partN m j n then co b (j + p * n) else co b (m + (j + (p - partN m j n) * n)) := by
  unfold uW
  rw [show b.length - 8 * n = m by omega]
  have h1 : (b.take m).length = m := by rw [List.length_take]; omega
  have h2 : (b.drop m).length = 8 * n := by rw [List.length_drop]; omega
  have h3 : (partL (b.take m) j n).length = partN m j n := by rw [partL_len, h1]
  by_cases q : p < partN m j n
  · rw [if_pos q, co_app1 (by omega), co_part (by rw [h1]; exact q), co_take ((partN_iff (by omega) p).1 q)]
  · rw [if_neg q, co_app2 (by omega), h3, co_part (by rw [h2, partN_8 hj]; omega)]
    unfold co
    rw [List.getD_eq_getElem?_getD, List.getElem?_drop, List.getD_eq_getElem?_getD]
/-- A burst touches each word in four places at most. -/
theorem burst_four {b c : List UInt8} {n m t0 : Nat} (hb : b.length = m + 8 * n) (hc : c.length = m + 8 * n) (h : ∀ i, i < m + 8 * n → co b i ≠ co c i → t0 ≤ i ∧ i < t0 + 4 * n)
    (hd : (∀ i, i < m + 8 * n → co b i ≠ co c i → i < m) ∨ (∀ i, i < m + 8 * n → co b i ≠ co c i → m ≤ i)) {j : Nat} (hj : j < n) : difN (uW b n j) (uW c n j) (partN m j n + 8) ≤ 4 := by
  have hp8 : ∀ p, p < partN m j n + 8 → ¬ p < partN m j n → j + (p - partN m j n) * n < 8 * n := fun p h1 h2 => by
    have : (p - partN m j n) * n ≤ 7 * n := Nat.mul_le_mul_right _ (by omega)
    omega
  have key : ∀ s q, s ≤ j + q * n → j + q * n < s + 4 * n → partN s j n ≤ q ∧ q < partN s j n + 4 := fun s q h1 h2 => by
    have a1 : ¬ q < partN s j n := fun e => by have := (partN_iff (by omega) q).1 e; omega
    refine ⟨by omega, Nat.lt_of_not_le fun e => ?_⟩
    have a2 : ¬ q - 4 < partN s j n := by omega
    have a3 : ¬ j + (q - 4) * n < s := fun e => a2 ((partN_iff (by omega) _).2 e)
    have a4 : q * n = (q - 4) * n + 4 * n := by rw [← Nat.add_mul]; congr 1; omega
    omega
  rcases hd with hd | hd
  · refine (difN_range (p0 := partN t0 j n) (m := 4) _ fun p hp hne => ?_).1
    rw [uW_at hj hb hp, uW_at hj hc hp] at hne
    by_cases q : p < partN m j n
    · rw [if_pos q, if_pos q] at hne
      have hi := (partN_iff (n := m) (j := j) (d := n) (by omega) p).1 q
      obtain ⟨a1, a2⟩ := h _ (by omega) hne
      exact key _ _ a1 a2
    · rw [if_neg q, if_neg q] at hne
      have := hp8 p hp q
      have := hd _ (by omega) hne
      omega
  · refine (difN_range (p0 := partN m j n + partN (t0 - m) j n) (m := 4) _ fun p hp hne => ?_).1
    rw [uW_at hj hb hp, uW_at hj hc hp] at hne
    by_cases q : p < partN m j n
    · rw [if_pos q, if_pos q] at hne
      have hi := (partN_iff (n := m) (j := j) (d := n) (by omega) p).1 q
      have := hd _ (by omega) hne
      omega
    · rw [if_neg q, if_neg q] at hne
      have := hp8 p hp q
      obtain ⟨a1, a2⟩ := h _ (by omega) hne
      have := key (t0 - m) (p - partN m j n) (by omega) (by omega)
      omega
/-- BURSTS ARE CORRECTED. -/
theorem bursts {d b : List UInt8} {n : Int} {t0 : Nat} (h : wB d n = false) (hb : b.length = d.length + 8 * n.toNat) (hr : ∀ i, i < d.length + 8 * n.toNat → co b i ≠ co (wrapL d n) i → t0 ≤ i ∧ i < t0 + 4 * n.toNat)
    (hd : (∀ i, i < d.length + 8 * n.toNat → co b i ≠ co (wrapL d n) i → i < d.length) ∨ (∀ i, i < d.length + 8 * n.toNat → co b i ≠ co (wrapL d n) i → d.length ≤ i)) : uwL b n = d ∧ uwE b n = 0 ∧ uwN b n = n.toNat := by
  obtain ⟨g1, g2, g3, g4⟩ := wB_false h
  have hc : (wrapL d n).length = d.length + 8 * n.toNat := by rw [wrapL_of h, List.length_append, bofl_len]
  have hu : uB b n = false := by
    unfold uB
    rw [decide_eq_false (by omega), decide_eq_false (by omega), decide_eq_false (by omega), decide_eq_false (by omega)]
    rfl
  have key : ∀ j, j < n.toNat → decL (uW b n.toNat j) er0 0 = partL d j n.toNat ∧ 0 ≤ decN (uW b n.toNat j) er0 0 ∧ decE (uW b n.toNat j) er0 0 = 0 := fun j hj => by
    obtain ⟨q1, q2⟩ := partN_ok (k := j) h (by omega)
    have l1 := uW_len (b := b) hj (by omega)
    have l2 := uW_len (b := wrapL d n) hj (by omega)
    have hw := wrap_word h hj
    rw [hb, Nat.add_sub_cancel] at l1
    rw [hc, Nat.add_sub_cancel] at l2
    have lp := partL_len d j n.toNat
    have f := burst_four hb hc hr hd hj
    rw [← l1] at f
    rw [hw] at l2 f
    obtain ⟨c1, c2, c3⟩ := four (b := uW b n.toNat j) (c := encL (partL d j n.toNat)) (by omega) (by omega) (by omega) (enc_syn q1 q2) f
    refine ⟨?_, c2, c3⟩
    rw [c1, l1, show partN d.length j n.toNat + 8 - 8 = (partL d j n.toNat).length by omega]
    exact take_enc q1 q2
  obtain ⟨e1, e2⟩ := uwL_right (b := b) (d := d) hu hb (fun j hj => (key j hj).1) (fun j hj => (key j hj).2.2) (fun j hj => (key j hj).2.1)
  refine ⟨e1, e2, ?_⟩
  unfold uwN
  rw [hu]
  rfl
end Galois
