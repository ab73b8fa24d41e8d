/-
  OWN WORK. Block: the reference's Wrap.
-/
import Derived.Test.YtnibcchhhebfaaaGreatDoorB2
namespace Galois
open Go Go.Proofs Eng
set_option linter.unusedVariables false
set_option linter.unusedSimpArgs false
set_option maxHeartbeats 4000000
set_option maxRecDepth 100000

def partN (n j d : Nat) : Nat := (n - j + d - 1) / d
theorem partN_iff {n j d : Nat} (hd : 1 ≤ d) (k : Nat) : k < partN n j d ↔ j + k * d < n := by
  unfold partN
  rw [← Nat.succ_le_iff, Nat.le_div_iff_mul_le hd, Nat.succ_mul]
  by_cases h : n ≤ j
  · rw [Nat.sub_eq_zero_of_le h]
    constructor <;> intro q <;> omega
  · constructor <;> intro q <;> omega
def partL (l : List UInt8) (j d : Nat) : List UInt8 := Byt.of (fun k => ((l.getD (j + k * d) 0).toNat : Int)) (partN l.length j d)
abbrev aStrII : ArgL (List UInt8 × Int × Int × Unit) := .cons (.elt .str) (.cons (.elt (.int .i64)) (.cons (.elt (.int .i64)) .nil))
def part := pcOf aStrII (fun x => [x.1.length ≤ 1000000, 0 ≤ x.2.1 ∧ x.2.1 ≤ 1000000, 1 ≤ x.2.2.1 ∧ x.2.2.1 ≤ 1000000]) (fun x => .str (partL x.1 x.2.1.toNat x.2.2.1.toNat))
theorem partN_le (n j d : Nat) : partN n j d ≤ n := by
  by_cases h : partN n j d = 0
  · omega
  · by_cases hd : 1 ≤ d
    · have := (partN_iff (n := n) (j := j) hd (partN n j d - 1)).1 (by omega)
      have h2 : (partN n j d - 1) * 1 ≤ (partN n j d - 1) * d := Nat.mul_le_mul_left _ hd
      omega
    · have : d = 0 := by omega
      subst this
      exact absurd (Nat.div_zero _) h
theorem partL_len (l : List UInt8) (j d : Nat) : (partL l j d).length = partN l.length j d := by simp [partL, Byt.of]
end Galois
namespace Galois
open Go Go.Proofs Eng
set_option linter.unusedVariables false
set_option linter.unusedSimpArgs false
set_option maxHeartbeats 4000000
set_option maxRecDepth 100000

/-- Wrap's arguments are refused. -/
def wB (d : List UInt8) (n : Int) : Bool := decide (n < 1) || decide (4 < n) || decide ((d.length : Int) < n) || decide (223 * n < (d.length : Int))
/-- The parity bytes of part j. -/
noncomputable def parJ (d : List UInt8) (n j : Nat) : List UInt8 := revL (parP (partL d j n))
noncomputable def wF (d : List UInt8) (n i : Nat) : Int := ((parJ d n (i % n)).getD (i / n) 0).toNat
noncomputable def wrapL (d : List UInt8) (n : Int) : List UInt8 := if wB d n then [] else d ++ Byt.of (wF d n.toNat) (8 * n.toNat)
noncomputable def wrapE (d : List UInt8) (n : Int) : Int := if wB d n then 2 else 0
noncomputable def wrap := pcOf aStrI (fun _ => []) (fun x => .tup [.str (wrapL x.1 x.2.1), .int .i64 (wrapE x.1 x.2.1)])
theorem wB_false {d : List UInt8} {n : Int} (h : wB d n = false) : 1 ≤ n ∧ n ≤ 4 ∧ n ≤ d.length ∧ d.length ≤ 223 * n := by
  unfold wB at h
  simp only [Bool.or_eq_false_iff, decide_eq_false_iff_not] at h
  omega
theorem wrapL_len (d : List UInt8) (n : Int) : (wrapL d n).length ≤ 1000 := by
  unfold wrapL
  cases h : wB d n with
  | true => exact Nat.zero_le _
  | false =>
    have := wB_false h
    show (d ++ Byt.of _ _).length ≤ 1000
    rw [List.length_append]
    simp only [Byt.of, List.length_map, List.length_range]
    omega
theorem wrap_wf (x : List UInt8 × Int × Unit) : (SV.tup [.str (wrapL x.1 x.2.1), .int .i64 (wrapE x.1 x.2.1)]).wf := ⟨Nat.le_trans (wrapL_len _ _) (by omega), trivial, trivial⟩
noncomputable def EBE : Env := ((EBD.addP 80 enc))
theorem EBE_ok : EnvOk Tryz.prog EBE := ((EBD_ok.addP enc_ok))
theorem wB_eq {d : List UInt8} {n v1 v2 v3 : Int} {t1 t2 t3 : Bool} (ht1 : t1 = if decide (n < 1) = true then true else decide (n > 4)) (h1 : v1 = d.length) (ht2 : t2 = if t1 = true then true else decide (v1 < n)) (h2 : v2 = d.length)
    (h3 : v3 = IntKind.i64.wrap (223 * n)) (ht3 : t3 = if t2 = true then true else decide (v2 > v3)) : t3 = wB d n := by
  unfold wB
  cases a : decide (n < 1) with
  | true => rw [a, if_pos rfl] at ht1; rw [ht1, if_pos rfl] at ht2; rw [ht2, if_pos rfl] at ht3; rw [ht3]; rfl
  | false =>
    rw [a, if_neg (by decide)] at ht1
    have ht1 : t1 = decide (4 < n) := ht1
    cases b : decide (4 < n) with
    | true => rw [b] at ht1; rw [ht1, if_pos rfl] at ht2; rw [ht2, if_pos rfl] at ht3; rw [ht3]; rfl
    | false =>
      have a' := of_decide_eq_false a
      have b' := of_decide_eq_false b
      rw [w64_id (by omega) (by omega)] at h3
      rw [b] at ht1; rw [ht1, if_neg (by decide), h1] at ht2
      cases c : decide ((d.length : Int) < n) with
      | true => rw [c] at ht2; rw [ht2, if_pos rfl] at ht3; rw [ht3]; rfl
      | false => rw [c] at ht2; rw [ht2, if_neg (by decide), h2, h3] at ht3; rw [ht3]; rfl
theorem partN_ok {d : List UInt8} {n : Int} (h : wB d n = false) {k : Nat} (hk : (k : Int) < n) : 1 ≤ (partL d k n.toNat).length ∧ (partL d k n.toNat).length ≤ 223 := by
  obtain ⟨h1, h2, h3, h4⟩ := wB_false h
  rw [partL_len]
  refine ⟨(partN_iff (by omega) 0).2 (by omega), ?_⟩
  apply Nat.le_of_not_lt
  intro q
  have := (partN_iff (n := d.length) (j := k) (d := n.toNat) (by omega) 223).1 q
  omega
theorem encB_of {d : List UInt8} (h1 : 1 ≤ d.length) (h2 : d.length ≤ 223) : encB d = false := by
  unfold encB
  rw [decide_eq_false (by omega), decide_eq_false (by omega)]
  rfl
theorem encL_of {d : List UInt8} (h1 : 1 ≤ d.length) (h2 : d.length ≤ 223) : encL d = d ++ revL (parP d) := by
  unfold encL
  rw [encB_of h1 h2]
  rfl
theorem parJ_len (d : List UInt8) (n j : Nat) : (parJ d n j).length = 8 := by unfold parJ; rw [revL_len, parP_len]
theorem wF_at (d : List UInt8) {n p j : Nat} (hj : j < n) : wF d n (p * n + j) = (((parJ d n j).getD p 0).toNat : Int) := by
  unfold wF
  have hn : 0 < n := by omega
  rw [Nat.add_comm, Nat.add_mul_mod_self_right, Nat.mod_eq_of_lt hj, Nat.add_mul_div_right _ _ hn, Nat.div_eq_of_lt hj, Nat.zero_add]
end Galois
