/-
  OWN WORK. Block: the words of what Wrap wrote, plainly.
-/
import Derived.Test.YtoefjmachoakpaaDoorBG
namespace Galois
open Go Go.Proofs Eng
set_option linter.unusedVariables false
set_option linter.unusedSimpArgs false
set_option maxRecDepth 100000

theorem wrapL_of {d : List UInt8} {n : Int} (h : wB d n = false) : wrapL d n = d ++ Byt.of (wF d n.toNat) (8 * n.toNat) := by
  unfold wrapL
  rw [h]
  rfl
theorem wF_byte (d : List UInt8) (n i : Nat) : ∃ u : UInt8, wF d n i = (u.toNat : Nat) := ⟨_, rfl⟩
theorem bofl_len (f : Nat → Int) (n : Nat) : (Byt.of f n).length = n := by simp [Byt.of]
/-- Each part of what Wrap wrote is a code word. -/
theorem wrap_word {d : List UInt8} {n : Int} (h : wB d n = false) {j : Nat} (hj : j < n.toNat) : uW (wrapL d n) n.toNat j = encL (partL d j n.toNat) := by
  obtain ⟨g1, g2, g3, g4⟩ := wB_false h
  obtain ⟨q1, q2⟩ := partN_ok (k := j) h (by omega)
  rw [encL_of q1 q2, wrapL_of h]
  have hl : (d ++ Byt.of (wF d n.toNat) (8 * n.toNat)).length - 8 * n.toNat = d.length := by rw [List.length_append, bofl_len]; omega
  unfold uW
  rw [hl, List.take_left, List.drop_left]
  congr 1
  show Byt.of _ (partN (Byt.of (wF d n.toNat) (8 * n.toNat)).length j n.toNat) = parJ d n.toNat j
  rw [bofl_len, partN_8 hj]
  refine bytof_self (parJ_len d n.toNat j) fun k hk => ?_
  have hb : ((Byt.of (wF d n.toNat) (8 * n.toNat)).getD (j + k * n.toNat) 0) = (parJ d n.toNat j).getD k 0 := by
    have hlt : j + k * n.toNat < 8 * n.toNat := by
      have : k * n.toNat ≤ 7 * n.toNat := Nat.mul_le_mul_right _ (by omega)
      omega
    unfold Byt.of
    rw [List.getD_eq_getElem?_getD, List.getElem?_map, List.getElem?_range hlt]
    show UInt8.ofNat (wF d n.toNat (j + k * n.toNat)).toNat = _
    rw [Nat.add_comm, wF_at d hj, Int.toNat_natCast]
    exact UInt8.ofNat_toNat
  rw [hb]
/-- The parts, put together again. -/
theorem part_back {d : List UInt8} {n k : Nat} (hn : 0 < n) (hk : k < d.length) : (partL d (k % n) n).getD (k / n) 0 = d.getD k 0 := by
  have e : k % n + k / n * n = k := by rw [Nat.mul_comm]; exact Nat.mod_add_div k n
  have hlt : k / n < partN d.length (k % n) n := (partN_iff hn (k / n)).2 (by omega)
  unfold partL Byt.of
  rw [List.getD_eq_getElem?_getD, List.getElem?_map, List.getElem?_range hlt]
  show UInt8.ofNat (((d.getD (k % n + k / n * n) 0).toNat : Nat) : Int).toNat = _
  rw [e, Int.toNat_natCast]
  exact UInt8.ofNat_toNat
/-- Where each part is told rightly, the whole is. -/
theorem uwL_right {b d : List UInt8} {n : Int} (hb : uB b n = false) (hl : b.length = d.length + 8 * n.toNat) (hD : ∀ j, j < n.toNat → uwD b n.toNat j = partL d j n.toNat) (hE : ∀ j, j < n.toNat → decE (uW b n.toNat j) er0 0 = 0) (hC : ∀ j, j < n.toNat → 0 ≤ decN (uW b n.toNat j) er0 0) :
    uwL b n = d ∧ uwE b n = 0 := by
  obtain ⟨g1, g2, g3, g4⟩ := uB_false hb
  have hbad : uwBad b n.toNat = false := by
    unfold uwBad
    cases h : inB (uwC b n.toNat) n.toNat (-1) with
    | false => rfl
    | true =>
      unfold inB at h
      have h : noneTo (fun k => (-1 : Int) == uwC b n.toNat k) n.toNat = false := by simpa using h
      rw [noneTo_iff.2 fun k hk => ?_] at h
      · cases h
      · have h1 := hC k hk
        unfold uwC
        rw [if_pos (hE k hk)]
        exact beq_eq_false_iff_ne.2 (by omega)
  unfold uwL uwE
  rw [hb, hbad]
  refine ⟨?_, rfl⟩
  show Byt.of (uwX b n.toNat) (b.length - 8 * n.toNat) = d
  rw [hl, Nat.add_sub_cancel]
  refine bytof_self rfl fun k hk => ?_
  unfold uwX
  rw [hD _ (Nat.mod_lt _ (by omega)), part_back (by omega) hk]
end Galois
