/-
  OWN WORK. Block: parts of strings that are interleaved.
-/
import Derived.Test.YtoefjmachoakpaaGreatDoorB2
namespace Galois
open Go Go.Proofs Eng
set_option linter.unusedVariables false
set_option linter.unusedSimpArgs false
set_option maxHeartbeats 4000000
set_option maxRecDepth 100000

def partN (n j d : Nat) : Nat := (n - j + d - 1) / d
theorem partN_iff {n j d : Nat} (hd : 1 ≤ d) (k : Nat) : k < partN n j d ↔ j + k * d < n := by
  unfold partN
  rw [← Nat.succ_le_iff, Nat.le_div_iff_mul_le hd, Nat.succ_mul]
  by_cases h : n ≤ j
  · rw [Nat.sub_eq_zero_of_le h]
    constructor <;> intro q <;> omega
  · constructor <;> intro q <;> omega
def partL (l : List UInt8) (j d : Nat) : List UInt8 := Byt.of (fun k => ((l.getD (j + k * d) 0).toNat : Int)) (partN l.length j d)
abbrev aStrII : ArgL (List UInt8 × Int × Int × Unit) := .cons (.elt .str) (.cons (.elt (.int .i64)) (.cons (.elt (.int .i64)) .nil))
def part := pcOf aStrII (fun x => [x.1.length ≤ 1000000, 0 ≤ x.2.1 ∧ x.2.1 ≤ 1000000, 1 ≤ x.2.2.1 ∧ x.2.2.1 ≤ 1000000]) (fun x => .str (partL x.1 x.2.1.toNat x.2.2.1.toNat))
theorem partN_le (n j d : Nat) : partN n j d ≤ n := by
  by_cases h : partN n j d = 0
  · omega
  · by_cases hd : 1 ≤ d
    · have := (partN_iff (n := n) (j := j) hd (partN n j d - 1)).1 (by omega)
      have h2 : (partN n j d - 1) * 1 ≤ (partN n j d - 1) * d := Nat.mul_le_mul_left _ hd
      omega
    · have : d = 0 := by omega
      subst this
      exact absurd (Nat.div_zero _) h
theorem partL_len (l : List UInt8) (j d : Nat) : (partL l j d).length = partN l.length j d := by simp [partL, Byt.of]
theorem part_ok : PcOk Tryz.prog 32 part := by
  refine pcOf_runS (fun _ => EBD_ok) Tryz.func32 rfl (by kernel_rfl) (fun x hw => by show (partL x.1 _ _).length ≤ _; rw [partL_len]; exact Nat.le_trans (partN_le _ _ _) (hw _ (List.mem_cons_self ..)))
    (fun x => [.loop ⟨3, Nat × Nat × Nat × Nat, [7, 8], fun y => [.slice 300 y.2.1 y.2.2.1 [] 1 0 y.1 y.2.2.2 (Nat.beq y.1 0), .int .i64 (x.2.1 + (y.1 * x.2.2.1.toNat : Nat))], [], fun y => [⟨300, y.2.1, y.2.2.1, 1, y.1, fun k => .int .u8 ((x.1.getD (x.2.1.toNat + k * x.2.2.1.toNat) 0).toNat : Int), true, false, y.2.2.2, 5, Nat.beq y.1 0, none⟩], fun y => y.1 ≤ partN x.1.length x.2.1.toNat x.2.2.1.toNat ∧ y.1 ≤ y.2.2.2 ∧ (y.1 = 0 → y.2.2.2 = 0), fun y => partN x.1.length x.2.1.toNat x.2.2.1.toNat - y.1⟩])
    (fun _ => Nat.le_of_ble_eq_true rfl) (fun ⟨l, j, d, ()⟩ hp hw => ?_)
  refine vc_of (q :=
      (∃ (x1 : Nat × Nat × Nat × Nat), SVeq (SV.slice 999999 0 0 [] 0 0 0 0 true) (SV.slice 300 x1.2.1 x1.2.2.1 [] 1 0 x1.1 x1.2.2.2 (Nat.beq x1.1 0)) ∧ j = j + (↑(x1.1 * Int.toNat d) : Int) ∧ (Nat.beq x1.1 0 = true ∧ x1.1 = 0 ∧ x1.2.2.2 = 0) ∧ x1.1 ≤ partN (List.length l) (Int.toNat j) (Int.toNat d) ∧ x1.1 ≤ x1.2.2.2 ∧ (x1.1 = 0 → x1.2.2.2 = 0)) ∧ ∀ (x2 : Nat × Nat × Nat × Nat), x2.1 ≤ partN
      (List.length l) (Int.toNat j) (Int.toNat d) ∧ x2.1 ≤ x2.2.2.2 ∧ (x2.1 = 0 → x2.2.2.2 = 0) → ∀ (v1 : Int), v1 = (↑(List.length l) : Int) → (decide (j + (↑(x2.1 * Int.toNat d) : Int) < v1) = true → (0 : Int) ≤ j + (↑(x2.1 * Int.toNat d) : Int) ∧ j + (↑(x2.1 * Int.toNat d) : Int) < (↑(List.length l) : Int) ∧ ∀ (b1 : Nat), (x2.2.1 = x2.2.1 ∧ x2.2.2.1 = x2.2.2.1) ∧ (Nat.beq x2.1 0 = true → Nat.beq x2.1
      0 = true) ∧ 0 = 0 ∧ x2.1 ≤ x2.1 ∧ x2.2.2.2 ≤ x2.2.2.2 ∧ (x2.1 + 1) * 1 ≤ 140737488355328 ∧ x2.1 + 1 ≤ 9223372036854775807 ∧ 1 ≤ 1 ∧ (b1 = b1 ∧ 0 = 0) ∧ ∀ (b2 b3 b4 : Nat), x2.1 + 1 ≤ b4 → b4 ≤ 9223372036854775807 → (Nat.beq x2.1 0 = true → 1 = 0 → b4 = 0) → ∀ (v2 : Int), v2 = IntKind.i64.wrap (j + (↑(x2.1 * Int.toNat d) : Int) + d) → ∃ (x3 : Nat × Nat × Nat × Nat), (b2 = x3.2.1 ∧ b3 = x3.2.2.1 ∧ 0
      = 0 ∧ x2.1 + 1 = x3.1 ∧ b4 = x3.2.2.2 ∧ (Nat.beq x2.1 0 && decide (1 = 0)) = Nat.beq x3.1 0) ∧ v2 = j + (↑(x3.1 * Int.toNat d) : Int) ∧ ((b2 = x3.2.1 ∧ b3 = x3.2.2.1 ∧ (Nat.beq x2.1 0 && decide (1 = 0)) = Nat.beq x3.1 0 ∧ x3.1 ≤ x2.1 + 1 ∧ x3.1 ≤ x3.2.2.2 ∧ x3.2.2.2 ≤ b4) ∧ ∀ (i1 : Nat), i1 < x3.1 → (if i1 < x2.1 then (↑(UInt8.toNat (List.getD l (Int.toNat j + i1 * Int.toNat d) (0 : UInt8))) : Int)
      else (↑(UInt8.toNat (List.getD l (Int.toNat (j + (↑(x2.1 * Int.toNat d) : Int))) (0 : UInt8))) : Int)) = (↑(UInt8.toNat (List.getD l (Int.toNat j + i1 * Int.toNat d) (0 : UInt8))) : Int)) ∧ (x3.1 ≤ partN (List.length l) (Int.toNat j) (Int.toNat d) ∧ x3.1 ≤ x3.2.2.2 ∧ (x3.1 = 0 → x3.2.2.2 = 0)) ∧ partN (List.length l) (Int.toNat j) (Int.toNat d) - x3.1 < partN (List.length l) (Int.toNat j)
      (Int.toNat d) - x2.1) ∧ (decide (j + (↑(x2.1 * Int.toNat d) : Int) < v1) = false → x2.1 ≤ x2.1 ∧ (∀ (k1 : Nat), k1 < x2.1 → true = true) ∧ (x2.2.1 = x2.2.1 ∧ x2.2.2.1 = x2.2.2.1) ∧ ∀ (s1 : List UInt8), s1 = Byt.of (fun (k : Nat) ↦ (↑(UInt8.toNat (List.getD l (Int.toNat j + k * Int.toNat d) (0 : UInt8))) : Int)) x2.1 → s1 = partL l (Int.toNat j) (Int.toNat d))) (by kernel_rfl) ?_
  try simp only [eq_self, true_and, and_true, Nat.le_refl, implies_true, forall_const, Bool.false_eq_true, Bool.true_eq_false, reduceCtorEq, false_imp_iff, true_imp_iff, Int.toNat_zero, Int.toNat_natCast, Nat.zero_lt_one, Int.le_refl, allGet]
  obtain ⟨p1, ⟨p2, p3⟩, ⟨p4, p5⟩, _⟩ := hp
  dsimp only at p1 p2 p3 p4 p5
  obtain ⟨J, rfl⟩ := Int.eq_ofNat_of_zero_le p2
  obtain ⟨D, rfl⟩ := Int.eq_ofNat_of_zero_le (show 0 ≤ d by omega)
  simp only [Int.toNat_natCast]
  have hD : 1 ≤ D := by omega
  refine ⟨⟨(0, 0, 0, 0), nil_eqv rfl rfl rfl, by dsimp only; omega, ⟨rfl, rfl, rfl⟩, Nat.zero_le _, Nat.le_refl _, fun _ => rfl⟩, fun x2 hx2 v1 hv1 => ⟨fun hlt => ?_, fun hge s1 hs1 => ?_⟩⟩
  · obtain ⟨g1, g2, g3⟩ := hx2
    have hlt := of_decide_eq_true hlt
    have hk := (partN_iff (n := l.length) (j := J) hD x2.1).2 (by omega)
    have hm : (x2.1 + 1) * D = x2.1 * D + D := Nat.succ_mul ..
    have hN := partN_le l.length J D
    refine ⟨by omega, by omega, fun q => q, by omega, by omega, fun c1 c2 c3 hc _ v2 hv2 => ⟨(x2.1 + 1, c1, c2, c3), ⟨rfl, rfl, rfl, rfl, ?_⟩, ?_, ⟨⟨rfl, rfl, ?_, Nat.le_refl _, hc, Nat.le_refl _⟩, fun k hk => ?_⟩, ⟨by dsimp only; omega, hc, fun q => by cases q⟩, by dsimp only; omega⟩⟩
    · rw [decide_eq_false (fun h => h), Bool.and_false]; rfl
    · rw [hv2, w64_id (by omega) (by omega)]; dsimp only; omega
    · rw [decide_eq_false (fun h => h), Bool.and_false]; rfl
    · dsimp only at hk
      by_cases q : k < x2.1
      · rw [if_pos q]
      · rw [if_neg q, show ((J : Int) + ((x2.1 * D : Nat) : Int)).toNat = J + x2.1 * D by omega, show k = x2.1 by omega]
  · have hge := of_decide_eq_false hge
    have : x2.1 = partN l.length J D := by
      have := hx2.1
      by_cases q : x2.1 < partN l.length J D
      · have := (partN_iff (n := l.length) (j := J) hD x2.1).1 q
        omega
      · omega
    rw [hs1, this]
    rfl
end Galois
