/-
  OWN WORK. Galois: products of elements.
-/
import Derived.Test.YtnibcchhhebfaaaGreatDoorEngN
import Derived.Test.YtnibcchhhebfaaaGreatDoorTy
import Derived.Test.YtnibcchhhebfaaaGreatDoorGM
namespace Galois
open Go Go.Proofs Eng
set_option linter.unusedVariables false
set_option linter.unusedSimpArgs false
set_option maxRecDepth 100000

/-! ### bytes as integers -/
theorem u8_id {x : Int} (h1 : 0 ≤ x) (h2 : x ≤ 255) : IntKind.u8.wrap x = x := by
  rw [IntKind.wrap_u8]; omega
theorem u8_nat {n : Nat} (h : n < 256) : IntKind.u8.wrap (n : Int) = n := u8_id (by omega) (by omega)
theorem bv_nat {n w : Nat} (h : n < 2 ^ w) : (BitVec.ofInt w (n : Int)).toNat = n := by
  simp [BitVec.toNat_ofInt]
  exact_mod_cast Nat.mod_eq_of_lt h
theorem xor8 {a b : Nat} (ha : a < 256) (hb : b < 256) : IntKind.u8.wrap ((BitVec.ofInt IntKind.u8.bits (a : Int) ^^^ BitVec.ofInt IntKind.u8.bits (b : Int)).toNat : Int) = ((Nat.xor a b : Nat) : Int) := by
  rw [BitVec.toNat_xor, show IntKind.u8.bits = 8 from rfl, bv_nat (w := 8) ha, bv_nat (w := 8) hb]
  exact u8_nat (xor_lt ha hb)
theorem and8_1 {a : Nat} (ha : a < 256) : IntKind.u8.wrap ((BitVec.ofInt IntKind.u8.bits (a : Int) &&& BitVec.ofInt IntKind.u8.bits 1).toNat : Int) = ((a % 2 : Nat) : Int) := by
  have h1 : (BitVec.ofInt 8 (1 : Int)).toNat = 1 := rfl
  rw [BitVec.toNat_and, show IntKind.u8.bits = 8 from rfl, bv_nat (w := 8) ha, h1, Nat.and_one_is_mod]
  exact u8_nat (by omega)
abbrev aMul : ArgL (Int × Int × Unit) := .cons (.elt (.int .u8)) (.cons (.elt (.int .u8)) .nil)
def mulI (a b : Int) : Int := (gmul a.toNat b.toNat : Nat)
abbrev isB (x : Int) : Prop := 0 ≤ x ∧ x ≤ 255
def mul := pcOf aMul (fun x => [isB x.1, isB x.2.1]) (fun x => .int .u8 (mulI x.1 x.2.1))
def E0 : Env := .base tenv
theorem E0_ok : EnvOk Tryz.prog E0 := .base (by kernel_rfl) tenv_ok
theorem mul_step {a : Nat} (h : a < 256) : IntKind.u8.wrap ((BitVec.ofInt IntKind.u8.bits (IntKind.u8.wrap ((a : Int) * 2 ^ Min.min (Int.toNat 1) IntKind.u8.bits)) ^^^ BitVec.ofInt IntKind.u8.bits (IntKind.u8.wrap (Int.fdiv a (2 ^ Min.min (Int.toNat 7) IntKind.u8.bits) * 29))).toNat : Int) = (xt a : Nat) := by
  have : allN (fun a => decide (IntKind.u8.wrap ((BitVec.ofInt IntKind.u8.bits (IntKind.u8.wrap ((a : Int) * 2 ^ Min.min (Int.toNat 1) IntKind.u8.bits)) ^^^ BitVec.ofInt IntKind.u8.bits (IntKind.u8.wrap (Int.fdiv a (2 ^ Min.min (Int.toNat 7) IntKind.u8.bits) * 29))).toNat : Int) = (xt a : Nat))) 256 = true := by kernel_rfl
  exact of_decide_eq_true (allN_true this a h)
theorem mul_ok : PcOk Tryz.prog 151 mul := by
  refine pcOf_run (fun _ => E0_ok) Tryz.func151 rfl (by kernel_rfl) (fun _ => trivial)
    (fun x => [.lp 2 (Nat × Nat × Nat) [0, 1, 5] (fun y => [.int .u8 y.1, .int .u8 y.2.1, .int .u8 y.2.2]) (fun y => (y.1 < 256 ∧ y.2.1 < 256 ∧ y.2.2 < 256) ∧ Nat.xor y.2.2 (gmul y.1 y.2.1) = gmul x.1.toNat x.2.1.toNat) fun y => y.2.1]) (fun _ => Nat.le_of_ble_eq_true rfl) (fun ⟨a, b, ()⟩ hp _ => ?_)
  refine vc_of (q :=
      (∃ (x1:Nat × Nat × Nat), a=(↑x1.1:Int)∧b=(↑x1.2.1:Int)∧(0:Int)=(↑x1.2.2:Int)∧(x1.1 < 256∧x1.2.1 < 256∧x1.2.2 < 256)∧Nat.xor x1.2.2 (gmul x1.1 x1.2.1)=gmul (Int.toNat a) (Int.toNat b))∧∀ (x2:Nat × Nat × Nat), (x2.1 < 256∧x2.2.1 < 256∧x2.2.2 < 256)∧Nat.xor x2.2.2 (gmul x2.1 x2.2.1)=gmul (Int.toNat a) (Int.toNat b)→(((↑x2.2.1:Int) != (0:Int))=true→∀ (v1:Int), v1=IntKind.u8.wrap (↑(BitVec.toNat
      (BitVec.ofInt (IntKind.u8.bits) (↑x2.2.1:Int) &&& BitVec.ofInt (IntKind.u8.bits) (1:Int))):Int)→((v1==(1:Int))=true→∀ (v2:Int), v2=IntKind.u8.wrap (↑(BitVec.toNat (BitVec.ofInt (IntKind.u8.bits) (↑x2.2.2:Int) ^^^ BitVec.ofInt (IntKind.u8.bits) (↑x2.1:Int))):Int)→(0:Int)≤(7:Int)∧∀ (v3:Int), v3=Int.fdiv (↑x2.1:Int) ((2:Int) ^ Min.min (Int.toNat (7:Int)) (IntKind.u8.bits))→(0:Int)≤(1:Int)∧∀ (v4:Int),
      v4=IntKind.u8.wrap ((↑x2.1:Int)*(2:Int) ^ Min.min (Int.toNat (1:Int)) (IntKind.u8.bits))→∀ (v5:Int), v5=IntKind.u8.wrap (v3*(29:Int))→∀ (v6:Int), v6=IntKind.u8.wrap (↑(BitVec.toNat (BitVec.ofInt (IntKind.u8.bits) v4 ^^^ BitVec.ofInt (IntKind.u8.bits) v5)):Int)→(0:Int)≤(1:Int)∧∀ (v7:Int), v7=Int.fdiv (↑x2.2.1:Int) ((2:Int) ^ Min.min (Int.toNat (1:Int)) (IntKind.u8.bits))→∃ (x3:Nat × Nat × Nat),
      v6=(↑x3.1:Int)∧v7=(↑x3.2.1:Int)∧v2=(↑x3.2.2:Int)∧((x3.1 < 256∧x3.2.1 < 256∧x3.2.2 < 256)∧Nat.xor x3.2.2 (gmul x3.1 x3.2.1)=gmul (Int.toNat a) (Int.toNat b))∧x3.2.1 < x2.2.1)∧((v1==(1:Int))=false→(0:Int)≤(7:Int)∧∀ (v3:Int), v3=Int.fdiv (↑x2.1:Int) ((2:Int) ^ Min.min (Int.toNat (7:Int)) (IntKind.u8.bits))→(0:Int)≤(1:Int)∧∀ (v4:Int), v4=IntKind.u8.wrap ((↑x2.1:Int)*(2:Int) ^ Min.min (Int.toNat
      (1:Int)) (IntKind.u8.bits))→∀ (v5:Int), v5=IntKind.u8.wrap (v3*(29:Int))→∀ (v6:Int), v6=IntKind.u8.wrap (↑(BitVec.toNat (BitVec.ofInt (IntKind.u8.bits) v4 ^^^ BitVec.ofInt (IntKind.u8.bits) v5)):Int)→(0:Int)≤(1:Int)∧∀ (v7:Int), v7=Int.fdiv (↑x2.2.1:Int) ((2:Int) ^ Min.min (Int.toNat (1:Int)) (IntKind.u8.bits))→∃ (x3:Nat × Nat × Nat),
      v6=(↑x3.1:Int)∧v7=(↑x3.2.1:Int)∧(↑x2.2.2:Int)=(↑x3.2.2:Int)∧((x3.1 < 256∧x3.2.1 < 256∧x3.2.2 < 256)∧Nat.xor x3.2.2 (gmul x3.1 x3.2.1)=gmul (Int.toNat a) (Int.toNat b))∧x3.2.1 < x2.2.1))∧(((↑x2.2.1:Int) != (0:Int))=false→(↑x2.2.2:Int)=mulI a b)) (by kernel_rfl) ?_
  obtain ⟨⟨a0, a1⟩, ⟨b0, b1⟩, _⟩ := hp
  dsimp only at a0 a1 b0 b1
  refine ⟨⟨(a.toNat, b.toNat, 0), by show a = (a.toNat : Int); omega, by show b = (b.toNat : Int); omega, rfl, ⟨by show a.toNat < 256; omega, by show b.toNat < 256; omega, by show 0 < 256; decide⟩, xor0' _⟩, ?_⟩
  rintro ⟨x, y, z⟩ ⟨⟨hx, hy, hz⟩, ht⟩
  dsimp only at hx hy hz ht ⊢
  have hstep : ∀ v4 v3 v5 v6 v7 : Int, v3 = Int.fdiv x (2 ^ Min.min (Int.toNat 7) IntKind.u8.bits) → v4 = IntKind.u8.wrap ((x : Int) * 2 ^ Min.min (Int.toNat 1) IntKind.u8.bits) → v5 = IntKind.u8.wrap (v3 * 29) →
      v6 = IntKind.u8.wrap ((BitVec.ofInt IntKind.u8.bits v4 ^^^ BitVec.ofInt IntKind.u8.bits v5).toNat : Int) → v7 = Int.fdiv (y : Int) (2 ^ Min.min (Int.toNat 1) IntKind.u8.bits) → v6 = (xt x : Nat) ∧ v7 = ((y / 2 : Nat) : Int) := by
    intro v4 v3 v5 v6 v7 h3 h4 h5 h6 h7
    subst h3 h4 h5 h6 h7
    refine ⟨mul_step hx, ?_⟩
    show Int.fdiv (y : Int) 2 = _
    rw [Int.fdiv_eq_ediv_of_nonneg _ (by decide)]
    rfl
  have hg := gmul_step (a := x) hy
  refine ⟨fun h v1 hv1 => ⟨fun h1 v2 hv2 => ⟨by decide, fun v3 h3 => ⟨by decide, fun v4 h4 v5 h5 v6 h6 => ⟨by decide, fun v7 h7 => ?_⟩⟩⟩, fun h1 => ⟨by decide, fun v3 h3 => ⟨by decide, fun v4 h4 v5 h5 v6 h6 => ⟨by decide, fun v7 h7 => ?_⟩⟩⟩⟩, fun h => ?_⟩
  · obtain ⟨e1, e2⟩ := hstep v4 v3 v5 v6 v7 h3 h4 h5 h6 h7
    rw [and8_1 hy] at hv1
    have hy0 : (y : Int) ≠ 0 := by simpa using h
    have hodd : y % 2 = 1 := by rw [hv1] at h1; simp at h1; omega
    refine ⟨(xt x, y / 2, Nat.xor z x), e1, e2, hv2.trans (xor8 hz hx), ⟨⟨xt_lt hx, by show y / 2 < 256; omega, xor_lt hz hx⟩, ?_⟩, by show y / 2 < y; omega⟩
    rw [← ht, hg, hodd]
    exact Nat.xor_assoc z x _
  · obtain ⟨e1, e2⟩ := hstep v4 v3 v5 v6 v7 h3 h4 h5 h6 h7
    rw [and8_1 hy] at hv1
    have hy0 : (y : Int) ≠ 0 := by simpa using h
    have hev : y % 2 = 0 := by rw [hv1] at h1; simp at h1; omega
    refine ⟨(xt x, y / 2, z), e1, e2, rfl, ⟨⟨xt_lt hx, by show y / 2 < 256; omega, hz⟩, ?_⟩, by show y / 2 < y; omega⟩
    rw [← ht, hg, hev]
  · obtain rfl : y = 0 := by simpa using h
    rw [gmul_zero, xor0] at ht
    rw [mulI, ← ht]
theorem xor64 {a b : Nat} (ha : a < 512) (hb : b < 512) : IntKind.i64.wrap ((BitVec.ofInt IntKind.i64.bits (a : Int) ^^^ BitVec.ofInt IntKind.i64.bits (b : Int)).toNat : Int) = ((Nat.xor a b : Nat) : Int) := by
  have : Nat.xor a b < 512 := Nat.xor_lt_two_pow (n := 9) ha hb
  rw [BitVec.toNat_xor, show IntKind.i64.bits = 64 from rfl, bv_nat (w := 64) (by omega), bv_nat (w := 64) (by omega)]
  exact w64_id (by have : ((Nat.xor a b : Nat) : Int) < 512 := by exact_mod_cast this
                   show -9223372036854775808 ≤ ((Nat.xor a b : Nat) : Int); omega) (by have : ((Nat.xor a b : Nat) : Int) < 512 := by exact_mod_cast this
                                                                                       show ((Nat.xor a b : Nat) : Int) ≤ _; omega)
theorem mulR_ok : PcOk Tryz.prog 109 mul := by
  refine pcOf_run (fun _ => E0_ok) Tryz.func109 rfl (by kernel_rfl) (fun _ => trivial)
    (fun x => [.lp 4 (Nat × Nat × Nat) [5, 6, 7] (fun y => [.int .i64 y.2.2, .int .i64 y.2.1, .int .i64 y.1]) (fun y => (y.1 ≤ 8 ∧ y.2.1 < 256 ∧ y.2.2 < 256) ∧ Nat.xor y.2.2 (gmul y.2.1 (x.2.1.toNat / 2 ^ y.1)) = gmul x.1.toNat x.2.1.toNat) fun y => 8 - y.1]) (fun _ => Nat.le_of_ble_eq_true rfl) (fun ⟨a, b, ()⟩ hp _ => ?_)
  refine vc_of (q :=
      ∀ (v1:Int), v1=IntKind.i64.wrap a→(∃ (x1:Nat × Nat × Nat), (0:Int)=(↑x1.2.2:Int)∧v1=(↑x1.2.1:Int)∧(0:Int)=(↑x1.1:Int)∧(x1.1≤8∧x1.2.1 < 256∧x1.2.2 < 256)∧Nat.xor x1.2.2 (gmul x1.2.1 (Int.toNat b / 2 ^ x1.1))=gmul (Int.toNat a) (Int.toNat b))∧∀ (x2:Nat × Nat × Nat), (x2.1≤8∧x2.2.1 < 256∧x2.2.2 < 256)∧Nat.xor x2.2.2 (gmul x2.2.1 (Int.toNat b / 2 ^ x2.1))=gmul (Int.toNat a) (Int.toNat b)→(decide
      ((↑x2.1:Int) < (8:Int))=true→∀ (v2:Int), v2=IntKind.u64.wrap (↑x2.1:Int)→0≤v2∧∀ (v3:Int), v3=Int.fdiv b ((2:Int) ^ Min.min (Int.toNat v2) (IntKind.u8.bits))→(2:Int)≠(0:Int)∧∀ (v4:Int), v4=Int.tmod v3 (2:Int)→((v4==(1:Int))=true→∀ (v5:Int), v5=IntKind.i64.wrap (↑(BitVec.toNat (BitVec.ofInt (IntKind.i64.bits) (↑x2.2.2:Int) ^^^ BitVec.ofInt (IntKind.i64.bits) (↑x2.2.1:Int))):Int)→∀ (v6:Int),
      v6=IntKind.i64.wrap ((↑x2.2.1:Int)*(2:Int))→(decide (v6≥(256:Int))=true→∀ (v7:Int), v7=IntKind.i64.wrap (↑(BitVec.toNat (BitVec.ofInt (IntKind.i64.bits) v6 ^^^ BitVec.ofInt (IntKind.i64.bits) (285:Int))):Int)→∀ (v8:Int), v8=IntKind.i64.wrap ((↑x2.1:Int)+(1:Int))→∃ (x3:Nat × Nat × Nat), v5=(↑x3.2.2:Int)∧v7=(↑x3.2.1:Int)∧v8=(↑x3.1:Int)∧((x3.1≤8∧x3.2.1 < 256∧x3.2.2 < 256)∧Nat.xor x3.2.2 (gmul x3.2.1
      (Int.toNat b / 2 ^ x3.1))=gmul (Int.toNat a) (Int.toNat b))∧8 - x3.1 < 8 - x2.1)∧(decide (v6≥(256:Int))=false→∀ (v8:Int), v8=IntKind.i64.wrap ((↑x2.1:Int)+(1:Int))→∃ (x3:Nat × Nat × Nat), v5=(↑x3.2.2:Int)∧v6=(↑x3.2.1:Int)∧v8=(↑x3.1:Int)∧((x3.1≤8∧x3.2.1 < 256∧x3.2.2 < 256)∧Nat.xor x3.2.2 (gmul x3.2.1 (Int.toNat b / 2 ^ x3.1))=gmul (Int.toNat a) (Int.toNat b))∧8 - x3.1 < 8 -
      x2.1))∧((v4==(1:Int))=false→∀ (v6:Int), v6=IntKind.i64.wrap ((↑x2.2.1:Int)*(2:Int))→(decide (v6≥(256:Int))=true→∀ (v7:Int), v7=IntKind.i64.wrap (↑(BitVec.toNat (BitVec.ofInt (IntKind.i64.bits) v6 ^^^ BitVec.ofInt (IntKind.i64.bits) (285:Int))):Int)→∀ (v8:Int), v8=IntKind.i64.wrap ((↑x2.1:Int)+(1:Int))→∃ (x3:Nat × Nat × Nat),
      (↑x2.2.2:Int)=(↑x3.2.2:Int)∧v7=(↑x3.2.1:Int)∧v8=(↑x3.1:Int)∧((x3.1≤8∧x3.2.1 < 256∧x3.2.2 < 256)∧Nat.xor x3.2.2 (gmul x3.2.1 (Int.toNat b / 2 ^ x3.1))=gmul (Int.toNat a) (Int.toNat b))∧8 - x3.1 < 8 - x2.1)∧(decide (v6≥(256:Int))=false→∀ (v8:Int), v8=IntKind.i64.wrap ((↑x2.1:Int)+(1:Int))→∃ (x3:Nat × Nat × Nat), (↑x2.2.2:Int)=(↑x3.2.2:Int)∧v6=(↑x3.2.1:Int)∧v8=(↑x3.1:Int)∧((x3.1≤8∧x3.2.1 < 256∧x3.2.2
      < 256)∧Nat.xor x3.2.2 (gmul x3.2.1 (Int.toNat b / 2 ^ x3.1))=gmul (Int.toNat a) (Int.toNat b))∧8 - x3.1 < 8 - x2.1)))∧(decide ((↑x2.1:Int) < (8:Int))=false→∀ (v3:Int), v3=IntKind.u8.wrap (↑x2.2.2:Int)→v3=mulI a b)) (by kernel_rfl) ?_
  obtain ⟨⟨a0, a1⟩, ⟨b0, b1⟩, _⟩ := hp
  dsimp only at a0 a1 b0 b1
  intro v1 hv1
  have hb : b.toNat < 256 := by omega
  rw [w64_id (by omega) (by omega)] at hv1
  refine ⟨⟨(0, a.toNat, 0), rfl, by show v1 = (a.toNat : Int); omega, rfl, ⟨by show 0 ≤ 8; decide, by show a.toNat < 256; omega, by show 0 < 256; decide⟩, by show Nat.xor 0 (gmul a.toNat (b.toNat / 2 ^ 0)) = _; rw [xor0', Nat.pow_zero, Nat.div_one]⟩, ?_⟩
  rintro ⟨i, x, z⟩ ⟨⟨hi, hx, hz⟩, ht⟩
  dsimp only at hi hx hz ht ⊢
  have hy : b.toNat / 2 ^ i < 256 := Nat.lt_of_le_of_lt (Nat.div_le_self _ _) hb
  have hnext : b.toNat / 2 ^ (i + 1) = b.toNat / 2 ^ i / 2 := by rw [Nat.pow_succ, Nat.div_div_eq_div_mul]
  have hg := gmul_step (a := x) hy
  refine ⟨fun hlt v2 h2 => ?_, fun hge v3 h3 => ?_⟩
  · have hlt : i < 8 := by have := of_decide_eq_true hlt; omega
    have h2 : v2 = (i : Int) := h2.trans (by rw [IntKind.wrap_u64]; omega)
    have hi1 : IntKind.i64.wrap ((i : Int) + 1) = ((i + 1 : Nat) : Int) := l_succ (by omega)
    subst h2
    refine ⟨by omega, fun v3 h3 => ⟨by decide, fun v4 h4 => ?_⟩⟩
    have e3 : v3 = ((b.toNat / 2 ^ i : Nat) : Int) := by
      rw [h3, Int.toNat_natCast, show min i IntKind.u8.bits = i from Nat.min_eq_left (by show i ≤ 8; omega), Int.fdiv_eq_ediv_of_nonneg _ (by exact_mod_cast Nat.zero_le _), ← show ((b.toNat : Nat) : Int) = b by omega]
      simp
    generalize b.toNat / 2 ^ i = y at *
    have e4 : v4 = ((y % 2 : Nat) : Int) := by
      rw [h4, e3, Int.tmod_eq_emod_of_nonneg (by omega)]
      rfl
    have hdbl : IntKind.i64.wrap ((x : Int) * 2) = ((2 * x : Nat) : Int) := by rw [w64_id (by omega) (by omega)]; omega
    have key : ∀ o : Nat, o < 256 → Nat.xor o (gmul (xt x) (y / 2)) = gmul a.toNat b.toNat → ∀ r : Int, r = (xt x : Nat) → ∃ x3 : Nat × Nat × Nat, (o : Int) = (x3.2.2 : Int) ∧ r = (x3.2.1 : Int) ∧ ((i + 1 : Nat) : Int) = (x3.1 : Int) ∧ ((x3.1 ≤ 8 ∧ x3.2.1 < 256 ∧ x3.2.2 < 256) ∧ Nat.xor x3.2.2 (gmul x3.2.1 (b.toNat / 2 ^ x3.1)) = gmul a.toNat b.toNat) ∧ 8 - x3.1 < 8 - i := by
      intro o ho hh r hr
      exact ⟨(i + 1, xt x, o), rfl, hr, rfl, ⟨⟨by show i + 1 ≤ 8; omega, xt_lt hx, ho⟩, by rw [← hh, ← hnext]⟩, by show 8 - (i + 1) < 8 - i; omega⟩
    have red : ∀ v6 : Int, v6 = IntKind.i64.wrap ((x : Int) * 2) → (decide (v6 ≥ 256) = true → ∀ v7 : Int, v7 = IntKind.i64.wrap ((BitVec.ofInt IntKind.i64.bits v6 ^^^ BitVec.ofInt IntKind.i64.bits 285).toNat : Int) → v7 = (xt x : Nat)) ∧ (decide (v6 ≥ 256) = false → v6 = (xt x : Nat)) := by
      intro v6 h6
      rw [hdbl] at h6
      subst h6
      refine ⟨fun h v7 h7 => ?_, fun h => ?_⟩
      · have h := of_decide_eq_true h
        refine h7.trans ((xor64 (a := 2 * x) (b := 285) (by omega) (by decide)).trans ?_)
        unfold xt
        rw [show Nat.blt x 128 = false from by rw [← Bool.not_eq_true, Nat.blt_eq]; omega]
      · have h := of_decide_eq_false h
        unfold xt
        rw [show Nat.blt x 128 = true from by rw [Nat.blt_eq]; omega]
    refine ⟨fun ho v5 h5 v6 h6 => ⟨fun hc v7 h7 v8 h8 => ?_, fun hc v8 h8 => ?_⟩, fun ho v6 h6 => ⟨fun hc v7 h7 v8 h8 => ?_, fun hc v8 h8 => ?_⟩⟩
    all_goals rw [hi1] at h8
    all_goals subst h8
    · have hodd : y % 2 = 1 := by rw [e4] at ho; simp at ho; omega
      rw [xor64 (a := z) (b := x) (by omega) (by omega)] at h5
      subst h5
      exact key _ (xor_lt hz hx) (by rw [← ht, hg, hodd]; exact Nat.xor_assoc z x _) _ ((red v6 h6).1 hc v7 h7)
    · have hodd : y % 2 = 1 := by rw [e4] at ho; simp at ho; omega
      rw [xor64 (a := z) (b := x) (by omega) (by omega)] at h5
      subst h5
      exact key _ (xor_lt hz hx) (by rw [← ht, hg, hodd]; exact Nat.xor_assoc z x _) _ ((red v6 h6).2 hc)
    · have hev : y % 2 = 0 := by rw [e4] at ho; simp at ho; omega
      exact key _ hz (by rw [← ht, hg, hev]) _ ((red v6 h6).1 hc v7 h7)
    · have hev : y % 2 = 0 := by rw [e4] at ho; simp at ho; omega
      exact key _ hz (by rw [← ht, hg, hev]) _ ((red v6 h6).2 hc)
  · obtain rfl : i = 8 := by have := of_decide_eq_false hge; omega
    rw [Nat.div_eq_of_lt (by simpa using hb), gmul_zero, xor0] at ht
    rw [h3, u8_nat hz, mulI, ht]
end Galois
