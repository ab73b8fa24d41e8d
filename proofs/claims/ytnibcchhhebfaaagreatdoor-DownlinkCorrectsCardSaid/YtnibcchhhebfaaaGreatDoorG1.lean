/-
  OWN WORK. Galois: products of elements.
-/
import Derived.Test.YtnibcchhhebfaaaGreatDoorEngN
import Derived.Test.YtnibcchhhebfaaaGreatDoorTy
import Derived.Test.YtnibcchhhebfaaaGreatDoorGM
namespace Galois
open Go Go.Proofs Eng
set_option linter.unusedVariables false
set_option linter.unusedSimpArgs false
set_option maxRecDepth 100000

/-! ### bytes as integers -/
theorem u8_id {x : Int} (h1 : 0 ≤ x) (h2 : x ≤ 255) : IntKind.u8.wrap x = x := by
  rw [IntKind.wrap_u8]; omega
theorem u8_nat {n : Nat} (h : n < 256) : IntKind.u8.wrap (n : Int) = n := u8_id (by omega) (by omega)
theorem bv_nat {n w : Nat} (h : n < 2 ^ w) : (BitVec.ofInt w (n : Int)).toNat = n := by
  simp [BitVec.toNat_ofInt]
  exact_mod_cast Nat.mod_eq_of_lt h
theorem xor8 {a b : Nat} (ha : a < 256) (hb : b < 256) : IntKind.u8.wrap ((BitVec.ofInt IntKind.u8.bits (a : Int) ^^^ BitVec.ofInt IntKind.u8.bits (b : Int)).toNat : Int) = ((Nat.xor a b : Nat) : Int) := by
  rw [BitVec.toNat_xor, show IntKind.u8.bits = 8 from rfl, bv_nat (w := 8) ha, bv_nat (w := 8) hb]
  exact u8_nat (xor_lt ha hb)
theorem and8_1 {a : Nat} (ha : a < 256) : IntKind.u8.wrap ((BitVec.ofInt IntKind.u8.bits (a : Int) &&& BitVec.ofInt IntKind.u8.bits 1).toNat : Int) = ((a % 2 : Nat) : Int) := by
  have h1 : (BitVec.ofInt 8 (1 : Int)).toNat = 1 := rfl
  rw [BitVec.toNat_and, show IntKind.u8.bits = 8 from rfl, bv_nat (w := 8) ha, h1, Nat.and_one_is_mod]
  exact u8_nat (by omega)
abbrev aMul : ArgL (Int × Int × Unit) := .cons (.elt (.int .u8)) (.cons (.elt (.int .u8)) .nil)
def mulI (a b : Int) : Int := (gmul a.toNat b.toNat : Nat)
abbrev isB (x : Int) : Prop := 0 ≤ x ∧ x ≤ 255
def mul := pcOf aMul (fun x => [isB x.1, isB x.2.1]) (fun x => .int .u8 (mulI x.1 x.2.1))
def E0 : Env := .base tenv
theorem E0_ok : EnvOk Tryz.prog E0 := .base (by kernel_rfl) tenv_ok
theorem mul_step {a : Nat} (h : a < 256) : IntKind.u8.wrap ((BitVec.ofInt IntKind.u8.bits (IntKind.u8.wrap ((a : Int) * 2 ^ Min.min (Int.toNat 1) IntKind.u8.bits)) ^^^ BitVec.ofInt IntKind.u8.bits (IntKind.u8.wrap (Int.fdiv a (2 ^ Min.min (Int.toNat 7) IntKind.u8.bits) * 29))).toNat : Int) = (xt a : Nat) := by
  have : allN (fun a => decide (IntKind.u8.wrap ((BitVec.ofInt IntKind.u8.bits (IntKind.u8.wrap ((a : Int) * 2 ^ Min.min (Int.toNat 1) IntKind.u8.bits)) ^^^ BitVec.ofInt IntKind.u8.bits (IntKind.u8.wrap (Int.fdiv a (2 ^ Min.min (Int.toNat 7) IntKind.u8.bits) * 29))).toNat : Int) = (xt a : Nat))) 256 = true := by kernel_rfl
  exact of_decide_eq_true (allN_true this a h)
theorem mul_ok : PcOk Tryz.prog 151 mul := by
  refine pcOf_run (fun _ => E0_ok) Tryz.func151 rfl (by kernel_rfl) (fun _ => trivial)
    (fun x => [.lp 2 (Nat × Nat × Nat) [0, 1, 5] (fun y => [.int .u8 y.1, .int .u8 y.2.1, .int .u8 y.2.2]) (fun y => (y.1 < 256 ∧ y.2.1 < 256 ∧ y.2.2 < 256) ∧ Nat.xor y.2.2 (gmul y.1 y.2.1) = gmul x.1.toNat x.2.1.toNat) fun y => y.2.1]) (fun _ => Nat.le_of_ble_eq_true rfl) (fun ⟨a, b, ()⟩ hp _ => ?_)
  refine vc_of (q :=
      (∃ (x1:Nat × Nat × Nat), a=(↑x1.1:Int)∧b=(↑x1.2.1:Int)∧(0:Int)=(↑x1.2.2:Int)∧(x1.1 < 256∧x1.2.1 < 256∧x1.2.2 < 256)∧Nat.xor x1.2.2 (gmul x1.1 x1.2.1)=gmul (Int.toNat a) (Int.toNat b))∧∀ (x2:Nat × Nat × Nat), (x2.1 < 256∧x2.2.1 < 256∧x2.2.2 < 256)∧Nat.xor x2.2.2 (gmul x2.1 x2.2.1)=gmul (Int.toNat a) (Int.toNat b)→(((↑x2.2.1:Int) != (0:Int))=true→∀ (v1:Int), v1=IntKind.u8.wrap (↑(BitVec.toNat
      (BitVec.ofInt (IntKind.u8.bits) (↑x2.2.1:Int) &&& BitVec.ofInt (IntKind.u8.bits) (1:Int))):Int)→((v1==(1:Int))=true→∀ (v2:Int), v2=IntKind.u8.wrap (↑(BitVec.toNat (BitVec.ofInt (IntKind.u8.bits) (↑x2.2.2:Int) ^^^ BitVec.ofInt (IntKind.u8.bits) (↑x2.1:Int))):Int)→(0:Int)≤(7:Int)∧∀ (v3:Int), v3=Int.fdiv (↑x2.1:Int) ((2:Int) ^ Min.min (Int.toNat (7:Int)) (IntKind.u8.bits))→(0:Int)≤(1:Int)∧∀ (v4:Int),
      v4=IntKind.u8.wrap ((↑x2.1:Int)*(2:Int) ^ Min.min (Int.toNat (1:Int)) (IntKind.u8.bits))→∀ (v5:Int), v5=IntKind.u8.wrap (v3*(29:Int))→∀ (v6:Int), v6=IntKind.u8.wrap (↑(BitVec.toNat (BitVec.ofInt (IntKind.u8.bits) v4 ^^^ BitVec.ofInt (IntKind.u8.bits) v5)):Int)→(0:Int)≤(1:Int)∧∀ (v7:Int), v7=Int.fdiv (↑x2.2.1:Int) ((2:Int) ^ Min.min (Int.toNat (1:Int)) (IntKind.u8.bits))→∃ (x3:Nat × Nat × Nat),
      v6=(↑x3.1:Int)∧v7=(↑x3.2.1:Int)∧v2=(↑x3.2.2:Int)∧((x3.1 < 256∧x3.2.1 < 256∧x3.2.2 < 256)∧Nat.xor x3.2.2 (gmul x3.1 x3.2.1)=gmul (Int.toNat a) (Int.toNat b))∧x3.2.1 < x2.2.1)∧((v1==(1:Int))=false→(0:Int)≤(7:Int)∧∀ (v3:Int), v3=Int.fdiv (↑x2.1:Int) ((2:Int) ^ Min.min (Int.toNat (7:Int)) (IntKind.u8.bits))→(0:Int)≤(1:Int)∧∀ (v4:Int), v4=IntKind.u8.wrap ((↑x2.1:Int)*(2:Int) ^ Min.min (Int.toNat
      (1:Int)) (IntKind.u8.bits))→∀ (v5:Int), v5=IntKind.u8.wrap (v3*(29:Int))→∀ (v6:Int), v6=IntKind.u8.wrap (↑(BitVec.toNat (BitVec.ofInt (IntKind.u8.bits) v4 ^^^ BitVec.ofInt (IntKind.u8.bits) v5)):Int)→(0:Int)≤(1:Int)∧∀ (v7:Int), v7=Int.fdiv (↑x2.2.1:Int) ((2:Int) ^ Min.min (Int.toNat (1:Int)) (IntKind.u8.bits))→∃ (x3:Nat × Nat × Nat),
      v6=(↑x3.1:Int)∧v7=(↑x3.2.1:Int)∧(↑x2.2.2:Int)=(↑x3.2.2:Int)∧((x3.1 < 256∧x3.2.1 < 256∧x3.2.2 < 256)∧Nat.xor x3.2.2 (gmul x3.1 x3.2.1)=gmul (Int.toNat a) (Int.toNat b))∧x3.2.1 < x2.2.1))∧(((↑x2.2.1:Int) != (0:Int))=false→(↑x2.2.2:Int)=mulI a b)) (by kernel_rfl) ?_
  obtain ⟨⟨a0, a1⟩, ⟨b0, b1⟩, _⟩ := hp
  dsimp only at a0 a1 b0 b1
  refine ⟨⟨(a.toNat, b.toNat, 0), by show a = (a.toNat : Int); omega, by show b = (b.toNat : Int); omega, rfl, ⟨by show a.toNat < 256; omega, by show b.toNat < 256; omega, by show 0 < 256; decide⟩, xor0' _⟩, ?_⟩
  rintro ⟨x, y, z⟩ ⟨⟨hx, hy, hz⟩, ht⟩
  dsimp only at hx hy hz ht ⊢
  have hstep : ∀ v4 v3 v5 v6 v7 : Int, v3 = Int.fdiv x (2 ^ Min.min (Int.toNat 7) IntKind.u8.bits) → v4 = IntKind.u8.wrap ((x : Int) * 2 ^ Min.min (Int.toNat 1) IntKind.u8.bits) → v5 = IntKind.u8.wrap (v3 * 29) →
      v6 = IntKind.u8.wrap ((BitVec.ofInt IntKind.u8.bits v4 ^^^ BitVec.ofInt IntKind.u8.bits v5).toNat : Int) → v7 = Int.fdiv (y : Int) (2 ^ Min.min (Int.toNat 1) IntKind.u8.bits) → v6 = (xt x : Nat) ∧ v7 = ((y / 2 : Nat) : Int) := by
    intro v4 v3 v5 v6 v7 h3 h4 h5 h6 h7
    subst h3 h4 h5 h6 h7
    refine ⟨mul_step hx, ?_⟩
    show Int.fdiv (y : Int) 2 = _
    rw [Int.fdiv_eq_ediv_of_nonneg _ (by decide)]
    rfl
  have hg := gmul_step (a := x) hy
  refine ⟨fun h v1 hv1 => ⟨fun h1 v2 hv2 => ⟨by decide, fun v3 h3 => ⟨by decide, fun v4 h4 v5 h5 v6 h6 => ⟨by decide, fun v7 h7 => ?_⟩⟩⟩, fun h1 => ⟨by decide, fun v3 h3 => ⟨by decide, fun v4 h4 v5 h5 v6 h6 => ⟨by decide, fun v7 h7 => ?_⟩⟩⟩⟩, fun h => ?_⟩
  · obtain ⟨e1, e2⟩ := hstep v4 v3 v5 v6 v7 h3 h4 h5 h6 h7
    rw [and8_1 hy] at hv1
    have hy0 : (y : Int) ≠ 0 := by simpa using h
    have hodd : y % 2 = 1 := by rw [hv1] at h1; simp at h1; omega
    refine ⟨(xt x, y / 2, Nat.xor z x), e1, e2, hv2.trans (xor8 hz hx), ⟨⟨xt_lt hx, by show y / 2 < 256; omega, xor_lt hz hx⟩, ?_⟩, by show y / 2 < y; omega⟩
    rw [← ht, hg, hodd]
    exact Nat.xor_assoc z x _
  · obtain ⟨e1, e2⟩ := hstep v4 v3 v5 v6 v7 h3 h4 h5 h6 h7
    rw [and8_1 hy] at hv1
    have hy0 : (y : Int) ≠ 0 := by simpa using h
    have hev : y % 2 = 0 := by rw [hv1] at h1; simp at h1; omega
    refine ⟨(xt x, y / 2, z), e1, e2, rfl, ⟨⟨xt_lt hx, by show y / 2 < 256; omega, hz⟩, ?_⟩, by show y / 2 < y; omega⟩
    rw [← ht, hg, hev]
  · obtain rfl : y = 0 := by simpa using h
    rw [gmul_zero, xor0] at ht
    rw [mulI, ← ht]
end Galois
