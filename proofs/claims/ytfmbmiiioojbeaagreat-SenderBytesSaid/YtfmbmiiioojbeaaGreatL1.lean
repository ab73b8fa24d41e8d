/-
  OWN WORK. Checksums: the functions of the program and of the reference.
-/
import Derived.Test.YtfmbmiiioojbeaaGreatEngN
import Derived.Test.YtfmbmiiioojbeaaGreatTy
import Derived.Test.YtfmbmiiioojbeaaGreatLM
namespace Rc
open Go Go.Proofs Eng
set_option linter.unusedVariables false
set_option linter.unusedSimpArgs false
set_option maxRecDepth 100000
def E0 : Env := .base tenv
theorem E0_ok : EnvOk Tryz.prog E0 := .base (by kernel_rfl) tenv_ok
theorem u16_id {x : Int} (h1 : 0 ≤ x) (h2 : x < 65536) : IntKind.u16.wrap x = x := by
  rw [IntKind.wrap_u16]; omega
theorem bv_nat {n w : Nat} (h : n < 2 ^ w) : (BitVec.ofInt w (n : Int)).toNat = n := by
  simp [BitVec.toNat_ofInt]
  exact_mod_cast Nat.mod_eq_of_lt h
theorem xor16 {a b : Nat} (ha : a < 65536) (hb : b < 65536) : IntKind.u16.wrap ((BitVec.ofInt IntKind.u16.bits (a : Int) ^^^ BitVec.ofInt IntKind.u16.bits (b : Int)).toNat : Int) = ((Nat.xor a b : Nat) : Int) := by
  rw [BitVec.toNat_xor, show IntKind.u16.bits = 16 from rfl, bv_nat (w := 16) ha, bv_nat (w := 16) hb]
  exact u16_id (by omega) (by have := xor_lt (n := 16) ha hb; show ((a ^^^ b : Nat) : Int) < 65536; omega)
theorem fdiv_pow (n k : Nat) : Int.fdiv (n : Int) (2 ^ k) = ((n / 2 ^ k : Nat) : Int) := by
  rw [Int.fdiv_eq_ediv_of_nonneg _ (by exact_mod_cast Nat.zero_le (2 ^ k))]
  push_cast
  rfl
theorem arr16 {n : Nat} {f g : Nat → Int} (h : ∀ k, k < n → f k = g k) : SVeq (.arr n 1 fun k => .int .u16 (f k)) (.arr n 1 fun k => .int .u16 (g k)) := eqvA_sound ⟨rfl, fun k hk => h k hk⟩
theorem arr32 {n : Nat} {f g : Nat → Int} (h : ∀ k, k < n → f k = g k) : SVeq (.arr n 1 fun k => .int .u32 (f k)) (.arr n 1 fun k => .int .u32 (g k)) := eqvA_sound ⟨rfl, fun k hk => h k hk⟩
theorem n16_take {s : Nat} {l : List UInt8} {i : Nat} (h : i < l.length) : n16 s (l.take (i + 1)) = C16 (n16 s (l.take i)) (l.getD i 0).toNat := by
  rw [List.take_succ_eq_append_getElem h, n16_snoc, List.getD_eq_getElem?_getD, List.getElem?_eq_getElem h]
  rfl
theorem xor8 {a b : Nat} (ha : a < 256) (hb : b < 256) : IntKind.u8.wrap ((BitVec.ofInt IntKind.u8.bits (a : Int) ^^^ BitVec.ofInt IntKind.u8.bits (b : Int)).toNat : Int) = ((a ^^^ b : Nat) : Int) := by
  rw [BitVec.toNat_xor, show IntKind.u8.bits = 8 from rfl, bv_nat (w := 8) ha, bv_nat (w := 8) hb, IntKind.wrap_u8]
  have := xor_lt (n := 8) ha hb
  omega
abbrev aB16 : ArgL (Int × Int × Unit) := .cons (.elt (.int .u16)) (.cons (.elt (.int .u16)) .nil)
def bit16 := pcOf aB16 (fun x => [0 ≤ x.1 ∧ x.1 < 65536, 0 ≤ x.2.1 ∧ x.2.1 < 2]) (fun x => .int .u16 (b16 x.1.toNat x.2.1.toNat : Nat))
theorem bit16_ok : PcOk Tryz.prog 115 bit16 := by
  refine pcOf_run (fun _ => E0_ok) Tryz.func115 rfl (by kernel_rfl) (fun _ => trivial)
    (fun x => []) (fun _ => Nat.le_of_ble_eq_true rfl) (fun ⟨r, b, ()⟩ hp _ => ?_)
  refine vc_of (q :=
      (0:Int)≤15∧∀ (v1:Int), v1=Int.fdiv r ((2:Int) ^ Min.min (Int.toNat (15:Int)) IntKind.u16.bits)→(0:Int)≤1∧∀ (v2:Int), v2=IntKind.u16.wrap (r*(2:Int) ^ Min.min (Int.toNat (1:Int)) IntKind.u16.bits)→((v1 != b)=true→∀ (v3:Int), v3=IntKind.u16.wrap (↑(BitVec.toNat (BitVec.ofInt IntKind.u16.bits v2 ^^^ BitVec.ofInt IntKind.u16.bits (4129:Int))):Int)→v3=(↑(b16 (Int.toNat r) (Int.toNat b)):Int))∧((v1 !=
      b)=false→v2=(↑(b16 (Int.toNat r) (Int.toNat b)):Int))) (by kernel_rfl) ?_
  obtain ⟨⟨r0, r1⟩, ⟨b0, b1⟩, _⟩ := hp
  try simp only [eq_self, true_and, and_true, Nat.le_refl, implies_true, forall_const, Bool.false_eq_true, Bool.true_eq_false, reduceCtorEq, false_imp_iff, true_imp_iff, Int.toNat_zero, Int.toNat_natCast, Nat.zero_lt_one, Int.le_refl, allGet]
  dsimp only at r0 r1 b0 b1
  obtain ⟨n, rfl⟩ : ∃ n : Nat, r = n := ⟨r.toNat, by omega⟩
  obtain ⟨m, rfl⟩ : ∃ n : Nat, b = n := ⟨b.toNat, by omega⟩
  refine ⟨by decide, fun v1 h1 => ⟨by decide, fun v2 h2 => ?_⟩⟩
  have e1 : v1 = (n / 32768 : Nat) := h1.trans (fdiv_pow n 15)
  have e2 : v2 = ((2 * n) % 65536 : Nat) := by
    rw [h2]; show IntKind.u16.wrap ((n : Int) * 2) = _
    rw [IntKind.wrap_u16]; omega
  subst e1 e2
  clear h1 h2
  refine ⟨fun h v3 h3 => ?_, fun h => ?_⟩
  · have h : n / 32768 ≠ m := by intro q; rw [q] at h; simp at h
    rw [h3, show (4129 : Int) = ((4129 : Nat) : Int) from rfl, xor16 (Nat.mod_lt _ (by decide)) (by decide), b16, if_neg (by simpa using h)]
    rfl
  · have h : n / 32768 = m := by simp at h; omega
    rw [b16, if_pos (by simpa using h)]
    rfl
abbrev aN16 : ArgL (Int × List UInt8 × Unit) := .cons (.elt (.int .u16)) (.cons (.elt .str) .nil)
def next16 := pcOf aN16 (fun x => [0 ≤ x.1 ∧ x.1 < 65536]) (fun x => .int .u16 (n16 x.1.toNat x.2.1 : Nat))
def E1 : Env := E0.addP 115 bit16
theorem E1_ok : EnvOk Tryz.prog E1 := E0_ok.addP bit16_ok
theorem nextR16_ok : PcOk Tryz.prog 64 next16 := by
  refine pcOf_run (fun _ => E1_ok) Tryz.func64 rfl (by kernel_rfl) (fun _ => trivial)
    (fun x => [.lp 2 Nat [0, 5] (fun i => [.int .u16 (n16 x.1.toNat (x.2.1.take i) : Nat), .int .i64 (i : Nat)]) (fun i => i ≤ x.2.1.length) (fun i => x.2.1.length - i),
      .nest ⟨5, Nat × Nat, [0, 5, 6], fun y => [.int .u16 (c16 (n16 x.1.toNat (x.2.1.take y.1)) (x.2.1.getD y.1 0).toNat y.2 : Nat), .int .i64 (y.1 : Nat), .int .i64 (7 - (y.2 : Nat))], [], fun _ => [], fun y => y.1 < x.2.1.length ∧ y.2 ≤ 8, fun y => 8 - y.2⟩])
    (fun _ => Nat.le_of_ble_eq_true rfl) (fun ⟨s, l, ()⟩ hp hw => ?_)
  refine vc_of (q :=
      (∃ (x1:Nat), s=(↑(n16 (Int.toNat s) (List.take x1 l)):Int)∧0=(↑x1:Int)∧Nat.le x1 (List.length l))∧∀ (b1:Nat), b1≤List.length l→∀ (v1:Int), v1=(↑(List.length l):Int)→(decide ((↑b1:Int) < v1)=true→(∃ (x2:Nat × Nat), (↑(n16 (Int.toNat s) (List.take b1 l)):Int)=(↑(c16 (n16 (Int.toNat s) (List.take x2.1 l)) (UInt8.toNat (List.getD l x2.1 0)) x2.2):Int)∧(↑b1:Int)=(↑x2.1:Int)∧(7:Int)=7 - (↑x2.2:Int)∧x2.1
      < List.length l∧x2.2≤8)∧∀ (x3:Nat × Nat), x3.1 < List.length l∧x3.2≤8→(↑b1:Int)=(↑x3.1:Int)→(decide ((7:Int) - (↑x3.2:Int)≥(0:Int))=true→0≤(↑x3.1:Int)∧(↑x3.1:Int) < (↑(List.length l):Int)∧∀ (v2:Int), v2=IntKind.u16.wrap (↑(UInt8.toNat (List.getD l (Int.toNat (↑x3.1:Int)) 0)):Int)→∀ (v3:Int), v3=IntKind.u64.wrap ((7:Int) - (↑x3.2:Int))→0≤v3∧∀ (v4:Int), v4=Int.fdiv v2 ((2:Int) ^ Min.min (Int.toNat
      v3) IntKind.u16.bits)→(2:Int)≠(0:Int)∧∀ (v5:Int), v5=Int.tmod v4 (2:Int)→(0≤(↑(c16 (n16 (Int.toNat s) (List.take x3.1 l)) (UInt8.toNat (List.getD l x3.1 0)) x3.2):Int)∧(↑(c16 (n16 (Int.toNat s) (List.take x3.1 l)) (UInt8.toNat (List.getD l x3.1 0)) x3.2):Int) < (65536:Int))∧(0≤v5∧v5 < 2)∧∀ (v6:Int), v6=(↑(b16 (Int.toNat (↑(c16 (n16 (Int.toNat s) (List.take x3.1 l)) (UInt8.toNat (List.getD l x3.1
      0)) x3.2):Int)) (Int.toNat v5)):Int)→∀ (v7:Int), v7=IntKind.i64.wrap ((7:Int) - (↑x3.2:Int) - (1:Int))→∃ (x4:Nat × Nat), v6=(↑(c16 (n16 (Int.toNat s) (List.take x4.1 l)) (UInt8.toNat (List.getD l x4.1 0)) x4.2):Int)∧(↑x3.1:Int)=(↑x4.1:Int)∧v7=7 - (↑x4.2:Int)∧(x4.1 < List.length l∧x4.2≤8)∧8 - x4.2 < 8 - x3.2)∧(decide ((7:Int) - (↑x3.2:Int)≥(0:Int))=false→∀ (v3:Int), v3=IntKind.i64.wrap
      ((↑x3.1:Int)+(1:Int))→∃ (x4:Nat), (↑(c16 (n16 (Int.toNat s) (List.take x3.1 l)) (UInt8.toNat (List.getD l x3.1 0)) x3.2):Int)=(↑(n16 (Int.toNat s) (List.take x4 l)):Int)∧v3=(↑x4:Int)∧x4≤List.length l∧List.length l - x4 < List.length l - b1))∧(decide ((↑b1:Int) < v1)=false→(↑(n16 (Int.toNat s) (List.take b1 l)):Int)=(↑(n16 (Int.toNat s) l):Int))) (by kernel_rfl) ?_
  have hl : l.length ≤ 9223372036854775807 := hw (.str l) (List.mem_cons_of_mem _ (List.mem_cons_self ..))
  obtain ⟨⟨s0, s1⟩, _⟩ := hp
  try simp only [eq_self, true_and, and_true, Nat.le_refl, implies_true, forall_const, Bool.false_eq_true, Bool.true_eq_false, reduceCtorEq, false_imp_iff, true_imp_iff, Int.toNat_zero, Int.toNat_natCast, Nat.zero_lt_one, Int.le_refl, allGet]
  dsimp only at s0 s1
  obtain ⟨n, rfl⟩ : ∃ n : Nat, s = n := ⟨s.toNat, by omega⟩
  have hn : n < 65536 := by omega
  refine ⟨⟨0, rfl, rfl, Nat.zero_le _⟩, fun i hi v1 h1 => ⟨fun hlt => ?_, fun hge => ?_⟩⟩
  · subst h1
    have hlt : i < l.length := by simpa using hlt
    refine ⟨⟨(i, 0), rfl, rfl, rfl, hlt, Nat.zero_le _⟩, ?_⟩
    rintro ⟨i', j⟩ ⟨hi', hj⟩ e
    dsimp only at hi' hj e ⊢
    obtain rfl : i = i' := by omega
    have hC : ∀ j, j ≤ 8 → c16 (n16 n (l.take i)) (l.getD i 0).toNat j < 65536 := fun j hj => by
      rw [c16_eq (n16_lt hn) (UInt8.toNat_lt _) j hj]
      exact xor_lt (n := 16) (itn16_lt (xor_lt (n := 16) (n16_lt hn) (by have := UInt8.toNat_lt (l.getD i 0); omega)) _) (rem16_lt hj)
    refine ⟨fun h => ⟨by omega, by omega, fun v2 h2 v3 h3 => ?_⟩, fun h v3 h3 => ?_⟩
    · have h : j < 8 := by have := of_decide_eq_true h; omega
      have e2 : v2 = ((l.getD i 0).toNat : Int) := h2.trans (u16_id (by omega) (by have := UInt8.toNat_lt (l.getD i 0); omega))
      have e3 : v3 = (7 - j : Nat) := by rw [h3, IntKind.wrap_u64]; omega
      subst e2 e3
      refine ⟨by omega, fun v4 h4 => ⟨by decide, fun v5 h5 => ?_⟩⟩
      have e4 : v4 = ((l.getD i 0).toNat / 2 ^ (7 - j) : Nat) := by
        rw [h4]
        have : min (((7 - j : Nat) : Int)).toNat IntKind.u16.bits = 7 - j := by show min (7 - j) 16 = 7 - j; omega
        rw [this]
        exact fdiv_pow _ _
      subst e4
      have e5 : v5 = ((l.getD i 0).toNat / 2 ^ (7 - j) % 2 : Nat) := by rw [h5]; rfl
      subst e5
      refine ⟨⟨by omega, by have := hC j (by omega); show ((c16 (n16 n (l.take i)) (l.getD i 0).toNat j : Nat) : Int) < 65536; omega⟩, ⟨by omega, by omega⟩, fun v6 h6 v7 h7 => ⟨(i, j + 1), ?_, rfl, ?_, ⟨hi', h⟩, by dsimp only; omega⟩⟩
      · rw [h6]; rfl
      · rw [h7, w64_id (by omega) (by omega)]; dsimp only; omega
    · have h : j = 8 := by have := of_decide_eq_false h; omega
      subst h
      refine ⟨i + 1, ?_, ?_, hi', by omega⟩
      · rw [n16_take hi']; rfl
      · rw [h3, w64_id (by omega) (by omega)]; omega
  · subst h1
    have hge : l.length ≤ i := by simpa using hge
    rw [List.take_of_length_le hge]

abbrev aStr : ArgL (List UInt8 × Unit) := .cons (.elt .str) .nil
def sum16 := pcOf aStr (fun x => []) (fun x => .int .u16 (crc16 x.1))
def E2 : Env := E1.addP 64 next16
theorem E2_ok : EnvOk Tryz.prog E2 := E1_ok.addP nextR16_ok
theorem sumR16_ok : PcOk Tryz.prog 39 sum16 := by
  refine pcOf_run (fun _ => E2_ok) Tryz.func39 rfl (by kernel_rfl) (fun _ => trivial)
    (fun x => []) (fun _ => Nat.le_of_ble_eq_true rfl) (fun ⟨l, ()⟩ hp hw => ?_)
  refine vc_of (q :=
      ((0:Int)≤65535∧(65535:Int) < 65536)∧∀ (v1:Int), v1=(↑(n16 (Int.toNat (65535:Int)) l):Int)→v1=crc16 l) (by kernel_rfl) ?_
  try simp only [eq_self, true_and, and_true, Nat.le_refl, implies_true, forall_const, Bool.false_eq_true, Bool.true_eq_false, reduceCtorEq, false_imp_iff, true_imp_iff, Int.toNat_zero, Int.toNat_natCast, Nat.zero_lt_one, Int.le_refl, allGet]
  exact ⟨by decide, fun v h => h⟩
/-! ### the table -/
def tabs16 := pcOf .nil (fun _ => []) (fun _ => .arr 256 1 fun k => .int .u16 (t16 k : Nat))
theorem tab16_step {x : Nat} (h : x < 65536) : IntKind.u16.wrap ((BitVec.ofInt IntKind.u16.bits (IntKind.u16.wrap ((x : Int) * 2 ^ min (Int.toNat 1) IntKind.u16.bits)) ^^^ BitVec.ofInt IntKind.u16.bits (IntKind.u16.wrap (Int.fdiv x (2 ^ min (Int.toNat 15) IntKind.u16.bits) * 4129))).toNat : Int) = (s16 x : Nat) := by
  have e2 : IntKind.u16.wrap ((x : Int) * 2 ^ min (Int.toNat 1) IntKind.u16.bits) = ((2 * x) % 65536 : Nat) := by
    show IntKind.u16.wrap ((x : Int) * 2) = _
    rw [IntKind.wrap_u16]; omega
  have e1 : Int.fdiv x (2 ^ min (Int.toNat 15) IntKind.u16.bits) = (x / 32768 : Nat) := fdiv_pow x 15
  have e3 : IntKind.u16.wrap (((x / 32768 : Nat) : Int) * 4129) = ((if x / 32768 % 2 = 1 then 4129 else 0 : Nat) : Int) := by
    rw [IntKind.wrap_u16]
    split <;> omega
  rw [e2, e1, e3, xor16 (Nat.mod_lt _ (by decide)) (by split <;> decide)]
  rfl
def tF (t : Nat → Nat) (i : Nat) : Nat → SV := fun k => .int .u16 ((if k < i then t k else 0 : Nat) : Int)
theorem tabs16_ok : PcOk Tryz.prog 152 tabs16 := by
  refine pcOf_run (fun _ => E0_ok) Tryz.func152 rfl (by kernel_rfl) (fun _ => fun i hi => ⟨trivial, rfl, rfl⟩)
    (fun x => [.loop ⟨3, Nat × Nat, [1, 5], fun y => [.ptr 1 y.2 0 [.elt 0 256], .int .i64 (y.1 : Nat)], [1], fun y => [⟨1, y.2, 0, 256, 1, fun _ => .arr 256 1 fun k => .int .u16 ((if k < y.1 then t16 k else 0 : Nat) : Int), true, true, 1, 194, false, none⟩], fun y => y.1 ≤ 256, fun y => 256 - y.1⟩,
      .nest ⟨7, Nat × Nat, [2, 3, 11], fun y => [.int .i64 (y.1 : Nat), .int .u16 (itn s16 y.2 (y.1 * 256) : Nat), .int .i64 (y.2 : Nat)], [], fun _ => [], fun y => y.1 < 256 ∧ y.2 ≤ 8, fun y => 8 - y.2⟩])
    (fun _ => Nat.le_of_ble_eq_true rfl) (fun () hp hw => ?_)
  refine vc_of (q :=
      ∀ (b1 b2:Nat), (∃ (x1:Nat × Nat), (0=0∧b2=x1.2∧0=0)∧0=(↑x1.1:Int)∧((b2=x1.2∧0=0∧false=false∧1≤1∧1≤1∧1≤1)∧SVeq (SV.arr 256 1 fun (x:Nat) ↦ SV.int IntKind.u16 (0:Int)) (SV.arr 256 1 fun (k:Nat) ↦ SV.int IntKind.u16 (↑(if k < x1.1 then t16 k else 0):Int)))∧Nat.le x1.1 256)∧∀ (x2:Nat × Nat), x2.1≤256→(decide ((↑x2.1:Int) < (256:Int))=true→∀ (v1:Int), v1=IntKind.u16.wrap (↑x2.1:Int)→(0:Int)≤8∧∀
      (v2:Int), v2=IntKind.u16.wrap (v1*(2:Int) ^ Min.min (Int.toNat (8:Int)) IntKind.u16.bits)→(∃ (x3:Nat × Nat), (↑x2.1:Int)=(↑x3.1:Int)∧v2=(↑(itn s16 x3.2 (x3.1*256)):Int)∧0=(↑x3.2:Int)∧x3.1 < 256∧x3.2≤8)∧∀ (x4:Nat × Nat), x4.1 < 256∧x4.2≤8→(↑x2.1:Int)=(↑x4.1:Int)→(decide ((↑x4.2:Int) < (8:Int))=true→(0:Int)≤15∧∀ (v3:Int), v3=Int.fdiv (↑(itn s16 x4.2 (x4.1*256)):Int) ((2:Int) ^ Min.min (Int.toNat
      (15:Int)) IntKind.u16.bits)→(0:Int)≤1∧∀ (v4:Int), v4=IntKind.u16.wrap ((↑(itn s16 x4.2 (x4.1*256)):Int)*(2:Int) ^ Min.min (Int.toNat (1:Int)) IntKind.u16.bits)→∀ (v5:Int), v5=IntKind.u16.wrap (v3*(4129:Int))→∀ (v6:Int), v6=IntKind.u16.wrap (↑(BitVec.toNat (BitVec.ofInt IntKind.u16.bits v4 ^^^ BitVec.ofInt IntKind.u16.bits v5)):Int)→∀ (v7:Int), v7=IntKind.i64.wrap ((↑x4.2:Int)+(1:Int))→∃ (x5:Nat ×
      Nat), (↑x4.1:Int)=(↑x5.1:Int)∧v6=(↑(itn s16 x5.2 (x5.1*256)):Int)∧v7=(↑x5.2:Int)∧(x5.1 < 256∧x5.2≤8)∧8 - x5.2 < 8 - x4.2)∧(decide ((↑x4.2:Int) < (8:Int))=false→0≤(↑x4.1:Int)∧(↑x4.1:Int) < (↑(256:Nat):Int)∧(x2.2=x2.2∧0=0)∧Int.toNat (↑x4.1:Int) < 256∧∀ (v4:Int), v4=IntKind.i64.wrap ((↑x2.1:Int)+(1:Int))→∃ (x5:Nat × Nat), (0=0∧x2.2=x5.2∧0=0)∧v4=(↑x5.1:Int)∧((x2.2=x5.2∧0=0∧false=false∧1≤1∧1≤1∧1≤1)∧SVeq
      (SV.arr 256 1 fun (k:Nat) ↦ SV.int IntKind.u16 (if k=Int.toNat (↑x4.1:Int) then (↑(itn s16 x4.2 (x4.1*256)):Int) else (↑(if k < x2.1 then t16 k else 0):Int))) (SV.arr 256 1 fun (k:Nat) ↦ SV.int IntKind.u16 (↑(if k < x5.1 then t16 k else 0):Int)))∧x5.1≤256∧256 - x5.1 < 256 - x2.1))∧(decide ((↑x2.1:Int) < (256:Int))=false→(x2.2=x2.2∧0=0)∧(b1=b1∧0=0)∧(b1=b1∧0=0)∧SVeq (SV.arr 256 1 fun (k:Nat) ↦ SV.int
      IntKind.u16 (↑(if k < x2.1 then t16 k else 0):Int)) (SV.arr 256 1 fun (k:Nat) ↦ SV.int IntKind.u16 (↑(t16 k):Int)))) (by kernel_rfl) ?_
  try simp only [eq_self, true_and, and_true, Nat.le_refl, implies_true, forall_const, Bool.false_eq_true, Bool.true_eq_false, reduceCtorEq, false_imp_iff, true_imp_iff, Int.toNat_zero, Int.toNat_natCast, Nat.zero_lt_one, Int.le_refl, allGet]
  refine fun b => ⟨⟨(0, b), rfl, rfl, ⟨rfl, arr16 fun k hk => by simp⟩, Nat.zero_le _⟩, ?_⟩
  rintro ⟨i, b'⟩ hi
  dsimp only at hi ⊢
  refine ⟨fun hlt v1 h1 => ⟨by decide, fun v2 h2 => ?_⟩, fun hge => ?_⟩
  · have hlt : i < 256 := by have := of_decide_eq_true hlt; omega
    have e1 : v1 = (i : Nat) := h1.trans (u16_id (by omega) (by omega))
    subst e1
    have e2 : v2 = (i * 256 : Nat) := by
      rw [h2]; show IntKind.u16.wrap ((i : Int) * 256) = _
      rw [IntKind.wrap_u16]; omega
    subst e2
    refine ⟨⟨(i, 0), rfl, rfl, rfl, hlt, Nat.zero_le _⟩, ?_⟩
    rintro ⟨i', j⟩ ⟨hi', hj⟩ e
    dsimp only at hi' hj e ⊢
    obtain rfl : i = i' := by omega
    have hx : itn s16 j (i * 256) < 65536 := itn16_lt (by omega) j
    refine ⟨fun h => ⟨by decide, fun v3 h3 => ⟨by decide, fun v4 h4 v5 h5 v6 h6 v7 h7 => ?_⟩⟩, fun h => ⟨by omega, by omega, hi', fun v4 h4 => ?_⟩⟩
    · have h : j < 8 := by have := of_decide_eq_true h; omega
      refine ⟨(i, j + 1), rfl, ?_, ?_, ⟨hi', h⟩, by dsimp only; omega⟩
      · rw [h6, h4, h5, h3, tab16_step hx]; rfl
      · rw [h7, w64_id (by omega) (by omega)]; dsimp only; omega
    · have h : j = 8 := by have := of_decide_eq_false h; omega
      subst h
      refine ⟨(i + 1, b'), rfl, ?_, ⟨rfl, arr16 fun k hk => ?_⟩, hi', by dsimp only; omega⟩
      · rw [h4, w64_id (by omega) (by omega)]; dsimp only; omega
      · dsimp only
        by_cases q : k = i
        · rw [if_pos q, if_pos (by omega), q]; rfl
        · rw [if_neg q]
          by_cases q2 : k < i
          · rw [if_pos q2, if_pos (by omega)]
          · rw [if_neg q2, if_neg (by omega)]
  · have hge : i = 256 := by have := of_decide_eq_false hge; omega
    subst hge
    exact arr16 fun k hk => by rw [if_pos hk]

def E3 : Env := E0.addP 152 tabs16
theorem E3_ok : EnvOk Tryz.prog E3 := E0_ok.addP tabs16_ok
theorem byte16 {n m : Nat} (hn : n < 65536) (hm : m < 256) : IntKind.u16.wrap ((BitVec.ofInt IntKind.u16.bits (IntKind.u16.wrap ((n : Int) * 2 ^ min (Int.toNat 8) IntKind.u16.bits)) ^^^ BitVec.ofInt IntKind.u16.bits ((t16 (n / 256 ^^^ m) : Nat) : Int)).toNat : Int) = (C16 n m : Nat) := by
  have e2 : IntKind.u16.wrap ((n : Int) * 2 ^ min (Int.toNat 8) IntKind.u16.bits) = ((n * 256) % 65536 : Nat) := by
    show IntKind.u16.wrap ((n : Int) * 256) = _
    rw [IntKind.wrap_u16]; omega
  have ht : t16 (n / 256 ^^^ m) < 65536 := itn16_lt (by have := xor_lt (n := 8) (a := n / 256) (b := m) (by omega) hm; omega) 8
  rw [e2, xor16 (Nat.mod_lt _ (by decide)) ht, C16_tab hn hm]
  rfl
theorem nextP16_ok : PcOk Tryz.prog 132 next16 := by
  refine pcOf_run (fun _ => E3_ok) Tryz.func132 rfl (by kernel_rfl) (fun _ => trivial)
    (fun x => [.lp 3 Nat [0, 10] (fun i => [.int .u16 (n16 x.1.toNat (x.2.1.take i) : Nat), .int .i64 (i : Nat)]) (fun i => i ≤ x.2.1.length) (fun i => x.2.1.length - i)])
    (fun _ => Nat.le_of_ble_eq_true rfl) (fun ⟨s, l, ()⟩ hp hw => ?_)
  refine vc_of (q :=
      ∀ (b1:Nat), (b1=b1∧0=0)∧∀ (v1:Int), v1=(↑(List.length l):Int)→(∃ (x1:Nat), s=(↑(n16 (Int.toNat s) (List.take x1 l)):Int)∧0=(↑x1:Int)∧Nat.le x1 (List.length l))∧∀ (b2:Nat), b2≤List.length l→(decide ((↑b2:Int) < v1)=true→(0:Int)≤8∧∀ (v2:Int), v2=IntKind.u16.wrap ((↑(n16 (Int.toNat s) (List.take b2 l)):Int)*(2:Int) ^ Min.min (Int.toNat (8:Int)) IntKind.u16.bits)→(0:Int)≤8∧∀ (v3:Int), v3=Int.fdiv
      (↑(n16 (Int.toNat s) (List.take b2 l)):Int) ((2:Int) ^ Min.min (Int.toNat (8:Int)) IntKind.u16.bits)→∀ (v4:Int), v4=IntKind.u8.wrap v3→0≤(↑b2:Int)∧(↑b2:Int) < (↑(List.length l):Int)∧∀ (v5:Int), v5=IntKind.u8.wrap (↑(BitVec.toNat (BitVec.ofInt IntKind.u8.bits v4 ^^^ BitVec.ofInt IntKind.u8.bits (↑(UInt8.toNat (List.getD l (Int.toNat (↑b2:Int)) 0)):Int))):Int)→0≤v5∧v5 <
      (↑(256:Nat):Int)∧(b1=b1∧0=0)∧Int.toNat v5 < 256∧∀ (v6:Int), v6=IntKind.u16.wrap (↑(BitVec.toNat (BitVec.ofInt IntKind.u16.bits v2 ^^^ BitVec.ofInt IntKind.u16.bits (↑(t16 (Int.toNat v5)):Int))):Int)→∀ (v7:Int), v7=IntKind.i64.wrap ((↑b2:Int)+(1:Int))→∃ (x2:Nat), v6=(↑(n16 (Int.toNat s) (List.take x2 l)):Int)∧v7=(↑x2:Int)∧x2≤List.length l∧List.length l - x2 < List.length l - b2)∧(decide ((↑b2:Int) <
      v1)=false→(↑(n16 (Int.toNat s) (List.take b2 l)):Int)=(↑(n16 (Int.toNat s) l):Int))) (by kernel_rfl) ?_
  have hl : l.length ≤ 9223372036854775807 := hw (.str l) (List.mem_cons_of_mem _ (List.mem_cons_self ..))
  obtain ⟨⟨s0, s1⟩, _⟩ := hp
  try simp only [eq_self, true_and, and_true, Nat.le_refl, implies_true, forall_const, Bool.false_eq_true, Bool.true_eq_false, reduceCtorEq, false_imp_iff, true_imp_iff, Int.toNat_zero, Int.toNat_natCast, Nat.zero_lt_one, Int.le_refl, allGet]
  dsimp only at s0 s1
  obtain ⟨n, rfl⟩ : ∃ n : Nat, s = n := ⟨s.toNat, by omega⟩
  have hn : n < 65536 := by omega
  intro v1 h1
  subst h1
  refine ⟨⟨0, rfl, rfl, Nat.zero_le _⟩, fun i hi => ⟨fun hlt => ⟨by decide, fun v2 h2 => ⟨by decide, fun v3 h3 v4 h4 => ⟨by omega, ?_, fun v5 h5 => ?_⟩⟩⟩, fun hge => ?_⟩⟩
  · have := of_decide_eq_true hlt; exact this
  · have hlt : i < l.length := by have := of_decide_eq_true hlt; omega
    have hs : n16 n (l.take i) < 65536 := n16_lt hn
    have hb := UInt8.toNat_lt (l.getD i 0)
    have e3 : v3 = (n16 n (l.take i) / 256 : Nat) := h3.trans (fdiv_pow _ 8)
    have e4 : v4 = (n16 n (l.take i) / 256 : Nat) := by rw [h4, e3, IntKind.wrap_u8]; omega
    have e5 : v5 = ((n16 n (l.take i) / 256) ^^^ (l.getD i 0).toNat : Nat) := by rw [h5, e4]; exact xor8 (by omega) hb
    have h8 := xor_lt (n := 8) (a := n16 n (l.take i) / 256) (b := (l.getD i 0).toNat) (by omega) hb
    subst e5
    refine ⟨by omega, by omega, by omega, fun v6 h6 v7 h7 => ⟨i + 1, ?_, ?_, hlt, by omega⟩⟩
    · rw [h6, h2, n16_take hlt]
      exact byte16 hs hb
    · rw [h7, w64_id (by omega) (by omega)]; omega
  · have hge : l.length ≤ i := by have := of_decide_eq_false hge; omega
    rw [List.take_of_length_le hge]
def E4 : Env := E3.addP 132 next16
theorem E4_ok : EnvOk Tryz.prog E4 := E3_ok.addP nextP16_ok
theorem sumP16_ok : PcOk Tryz.prog 83 sum16 := by
  refine pcOf_run (fun _ => E4_ok) Tryz.func83 rfl (by kernel_rfl) (fun _ => trivial)
    (fun x => []) (fun _ => Nat.le_of_ble_eq_true rfl) (fun ⟨l, ()⟩ hp hw => ?_)
  refine vc_of (q :=
      ((0:Int)≤65535∧(65535:Int) < 65536)∧∀ (v1:Int), v1=(↑(n16 (Int.toNat (65535:Int)) l):Int)→v1=crc16 l) (by kernel_rfl) ?_
  try simp only [eq_self, true_and, and_true, Nat.le_refl, implies_true, forall_const, Bool.false_eq_true, Bool.true_eq_false, reduceCtorEq, false_imp_iff, true_imp_iff, Int.toNat_zero, Int.toNat_natCast, Nat.zero_lt_one, Int.le_refl, allGet]
  exact ⟨by decide, fun v h => h⟩

/-! ### 32 bits -/
theorem u32_id {x : Int} (h1 : 0 ≤ x) (h2 : x < 4294967296) : IntKind.u32.wrap x = x := by
  rw [IntKind.wrap_u32]; omega
theorem xor32 {a b : Nat} (ha : a < 4294967296) (hb : b < 4294967296) : IntKind.u32.wrap ((BitVec.ofInt IntKind.u32.bits (a : Int) ^^^ BitVec.ofInt IntKind.u32.bits (b : Int)).toNat : Int) = ((Nat.xor a b : Nat) : Int) := by
  rw [BitVec.toNat_xor, show IntKind.u32.bits = 32 from rfl, bv_nat (w := 32) ha, bv_nat (w := 32) hb]
  exact u32_id (by omega) (by have := xor_lt (n := 32) ha hb; show ((a ^^^ b : Nat) : Int) < 4294967296; omega)
theorem not32 {a : Nat} (ha : a < 4294967296) : IntKind.u32.wrap ((BitVec.ofInt IntKind.u32.bits (if IntKind.u32.signed = true then -1 else IntKind.u32.max) ^^^ BitVec.ofInt IntKind.u32.bits (a : Int)).toNat : Int) = ((4294967295 - a : Nat) : Int) := by
  show IntKind.u32.wrap (((BitVec.ofInt 32 4294967295 : BitVec 32) ^^^ BitVec.ofInt 32 (a : Int)).toNat : Int) = _
  rw [show (BitVec.ofInt 32 4294967295 : BitVec 32) = BitVec.allOnes 32 from by decide, BitVec.allOnes_xor, BitVec.toNat_not, bv_nat (w := 32) ha]
  exact u32_id (by omega) (by omega)
abbrev aB32 : ArgL (Int × Int × Unit) := .cons (.elt (.int .u32)) (.cons (.elt (.int .u32)) .nil)
def bit32 := pcOf aB32 (fun x => [0 ≤ x.1 ∧ x.1 < 4294967296, 0 ≤ x.2.1 ∧ x.2.1 < 2]) (fun x => .int .u32 (b32 x.1.toNat x.2.1.toNat : Nat))
theorem bit32_ok : PcOk Tryz.prog 65 bit32 := by
  refine pcOf_run (fun _ => E0_ok) Tryz.func65 rfl (by kernel_rfl) (fun _ => trivial)
    (fun x => []) (fun _ => Nat.le_of_ble_eq_true rfl) (fun ⟨r, b, ()⟩ hp _ => ?_)
  refine vc_of (q :=
      (2:Int)≠(0:Int)∧∀ (v1:Int), v1=Int.tmod r (2:Int)→(0:Int)≤1∧∀ (v2:Int), v2=Int.fdiv r ((2:Int) ^ Min.min (Int.toNat (1:Int)) IntKind.u32.bits)→((v1 != b)=true→∀ (v3:Int), v3=IntKind.u32.wrap (↑(BitVec.toNat (BitVec.ofInt IntKind.u32.bits v2 ^^^ BitVec.ofInt IntKind.u32.bits (3988292384:Int))):Int)→v3=(↑(b32 (Int.toNat r) (Int.toNat b)):Int))∧((v1 != b)=false→v2=(↑(b32 (Int.toNat r) (Int.toNat
      b)):Int))) (by kernel_rfl) ?_
  obtain ⟨⟨r0, r1⟩, ⟨b0, b1⟩, _⟩ := hp
  try simp only [eq_self, true_and, and_true, Nat.le_refl, implies_true, forall_const, Bool.false_eq_true, Bool.true_eq_false, reduceCtorEq, false_imp_iff, true_imp_iff, Int.toNat_zero, Int.toNat_natCast, Nat.zero_lt_one, Int.le_refl, allGet]
  dsimp only at r0 r1 b0 b1
  obtain ⟨n, rfl⟩ : ∃ n : Nat, r = n := ⟨r.toNat, by omega⟩
  obtain ⟨m, rfl⟩ : ∃ n : Nat, b = n := ⟨b.toNat, by omega⟩
  refine ⟨by decide, fun v1 h1 => ⟨by decide, fun v2 h2 => ?_⟩⟩
  have e1 : v1 = (n % 2 : Nat) := h1
  have e2 : v2 = (n / 2 : Nat) := h2.trans (fdiv_pow n 1)
  subst e1 e2
  clear h1 h2
  refine ⟨fun h v3 h3 => ?_, fun h => ?_⟩
  · have h : n % 2 ≠ m := by intro q; rw [q] at h; simp at h
    rw [h3, show (3988292384 : Int) = ((3988292384 : Nat) : Int) from rfl, xor32 (by omega) (by decide), b32, if_neg (by simpa using h)]
    rfl
  · have h : n % 2 = m := by simp at h; omega
    rw [b32, if_pos (by simpa using h)]
    rfl
theorem n32_take {s : Nat} {l : List UInt8} {i : Nat} (h : i < l.length) : n32 s (l.take (i + 1)) = C32 (n32 s (l.take i)) (l.getD i 0).toNat := by
  rw [List.take_succ_eq_append_getElem h, n32_snoc, List.getD_eq_getElem?_getD, List.getElem?_eq_getElem h]
  rfl
abbrev aN32 : ArgL (Int × List UInt8 × Unit) := .cons (.elt (.int .u32)) (.cons (.elt .str) .nil)
def next32 := pcOf aN32 (fun x => [0 ≤ x.1 ∧ x.1 < 4294967296]) (fun x => .int .u32 (4294967295 - n32 (4294967295 - x.1.toNat) x.2.1 : Nat))
def E5 : Env := E0.addP 65 bit32
theorem E5_ok : EnvOk Tryz.prog E5 := E0_ok.addP bit32_ok
theorem nextR32_ok : PcOk Tryz.prog 41 next32 := by
  refine pcOf_run (fun _ => E5_ok) Tryz.func41 rfl (by kernel_rfl) (fun _ => trivial)
    (fun x => [.lp 3 Nat [0, 5] (fun i => [.int .u32 (n32 (4294967295 - x.1.toNat) (x.2.1.take i) : Nat), .int .i64 (i : Nat)]) (fun i => i ≤ x.2.1.length) (fun i => x.2.1.length - i),
      .nest ⟨6, Nat × Nat, [0, 5, 6], fun y => [.int .u32 (c32 (n32 (4294967295 - x.1.toNat) (x.2.1.take y.1)) (x.2.1.getD y.1 0).toNat y.2 : Nat), .int .i64 (y.1 : Nat), .int .i64 (y.2 : Nat)], [], fun _ => [], fun y => y.1 < x.2.1.length ∧ y.2 ≤ 8, fun y => 8 - y.2⟩])
    (fun _ => Nat.le_of_ble_eq_true rfl) (fun ⟨s, l, ()⟩ hp hw => ?_)
  refine vc_of (q :=
      ∀ (v1:Int), v1=IntKind.u32.wrap (↑(BitVec.toNat (BitVec.ofInt IntKind.u32.bits (if IntKind.signed IntKind.u32=true then (-1:Int) else IntKind.u32.max) ^^^ BitVec.ofInt IntKind.u32.bits s)):Int)→(∃ (x1:Nat), v1=(↑(n32 (4294967295 - Int.toNat s) (List.take x1 l)):Int)∧0=(↑x1:Int)∧Nat.le x1 (List.length l))∧∀ (b1:Nat), b1≤List.length l→∀ (v2:Int), v2=(↑(List.length l):Int)→(decide ((↑b1:Int) <
      v2)=true→(∃ (x2:Nat × Nat), (↑(n32 (4294967295 - Int.toNat s) (List.take b1 l)):Int)=(↑(c32 (n32 (4294967295 - Int.toNat s) (List.take x2.1 l)) (UInt8.toNat (List.getD l x2.1 0)) x2.2):Int)∧(↑b1:Int)=(↑x2.1:Int)∧0=(↑x2.2:Int)∧x2.1 < List.length l∧x2.2≤8)∧∀ (x3:Nat × Nat), x3.1 < List.length l∧x3.2≤8→(↑b1:Int)=(↑x3.1:Int)→(decide ((↑x3.2:Int) < (8:Int))=true→0≤(↑x3.1:Int)∧(↑x3.1:Int) <
      (↑(List.length l):Int)∧∀ (v3:Int), v3=IntKind.u32.wrap (↑(UInt8.toNat (List.getD l (Int.toNat (↑x3.1:Int)) 0)):Int)→∀ (v4:Int), v4=IntKind.u64.wrap (↑x3.2:Int)→0≤v4∧∀ (v5:Int), v5=Int.fdiv v3 ((2:Int) ^ Min.min (Int.toNat v4) IntKind.u32.bits)→(2:Int)≠(0:Int)∧∀ (v6:Int), v6=Int.tmod v5 (2:Int)→(0≤(↑(c32 (n32 (4294967295 - Int.toNat s) (List.take x3.1 l)) (UInt8.toNat (List.getD l x3.1 0))
      x3.2):Int)∧(↑(c32 (n32 (4294967295 - Int.toNat s) (List.take x3.1 l)) (UInt8.toNat (List.getD l x3.1 0)) x3.2):Int) < (4294967296:Int))∧(0≤v6∧v6 < 2)∧∀ (v7:Int), v7=(↑(b32 (Int.toNat (↑(c32 (n32 (4294967295 - Int.toNat s) (List.take x3.1 l)) (UInt8.toNat (List.getD l x3.1 0)) x3.2):Int)) (Int.toNat v6)):Int)→∀ (v8:Int), v8=IntKind.i64.wrap ((↑x3.2:Int)+(1:Int))→∃ (x4:Nat × Nat), v7=(↑(c32 (n32
      (4294967295 - Int.toNat s) (List.take x4.1 l)) (UInt8.toNat (List.getD l x4.1 0)) x4.2):Int)∧(↑x3.1:Int)=(↑x4.1:Int)∧v8=(↑x4.2:Int)∧(x4.1 < List.length l∧x4.2≤8)∧8 - x4.2 < 8 - x3.2)∧(decide ((↑x3.2:Int) < (8:Int))=false→∀ (v4:Int), v4=IntKind.i64.wrap ((↑x3.1:Int)+(1:Int))→∃ (x4:Nat), (↑(c32 (n32 (4294967295 - Int.toNat s) (List.take x3.1 l)) (UInt8.toNat (List.getD l x3.1 0)) x3.2):Int)=(↑(n32
      (4294967295 - Int.toNat s) (List.take x4 l)):Int)∧v4=(↑x4:Int)∧x4≤List.length l∧List.length l - x4 < List.length l - b1))∧(decide ((↑b1:Int) < v2)=false→∀ (v3:Int), v3=IntKind.u32.wrap (↑(BitVec.toNat (BitVec.ofInt IntKind.u32.bits (if IntKind.signed IntKind.u32=true then (-1:Int) else IntKind.u32.max) ^^^ BitVec.ofInt IntKind.u32.bits (↑(n32 (4294967295 - Int.toNat s) (List.take b1
      l)):Int))):Int)→v3=(↑(4294967295 - n32 (4294967295 - Int.toNat s) l):Int))) (by kernel_rfl) ?_
  have hl : l.length ≤ 9223372036854775807 := hw (.str l) (List.mem_cons_of_mem _ (List.mem_cons_self ..))
  obtain ⟨⟨s0, s1⟩, _⟩ := hp
  try simp only [eq_self, true_and, and_true, Nat.le_refl, implies_true, forall_const, Bool.false_eq_true, Bool.true_eq_false, reduceCtorEq, false_imp_iff, true_imp_iff, Int.toNat_zero, Int.toNat_natCast, Nat.zero_lt_one, Int.le_refl, allGet]
  dsimp only at s0 s1
  obtain ⟨n, rfl⟩ : ∃ n : Nat, s = n := ⟨s.toNat, by omega⟩
  intro v0 h0
  have hn : n < 4294967296 := by omega
  have e0 : v0 = (4294967295 - n : Nat) := h0.trans (not32 hn)
  subst e0
  clear h0
  have hn' : 4294967295 - n < 4294967296 := by omega
  refine ⟨⟨0, rfl, rfl, Nat.zero_le _⟩, fun i hi v1 h1 => ⟨fun hlt => ?_, fun hge v2 h2 => ?_⟩⟩
  · subst h1
    have hlt : i < l.length := by simpa using hlt
    refine ⟨⟨(i, 0), rfl, rfl, rfl, hlt, Nat.zero_le _⟩, ?_⟩
    rintro ⟨i', j⟩ ⟨hi', hj⟩ e
    dsimp only at hi' hj e ⊢
    obtain rfl : i = i' := by omega
    have hC : c32 (n32 (4294967295 - n) (l.take i)) (l.getD i 0).toNat j < 4294967296 := by
      rw [c32_eq]
      have hb := UInt8.toNat_lt (l.getD i 0)
      refine xor_lt (n := 32) (itn32_lt (xor_lt (n := 32) (n32_lt hn') (by omega)) _) ?_
      exact Nat.lt_of_le_of_lt (Nat.div_le_self _ _) (by omega)
    refine ⟨fun h => ⟨by omega, by omega, fun v2 h2 v3 h3 => ?_⟩, fun h v3 h3 => ?_⟩
    · have h : j < 8 := by have := of_decide_eq_true h; omega
      have e2 : v2 = ((l.getD i 0).toNat : Int) := h2.trans (u32_id (by omega) (by have := UInt8.toNat_lt (l.getD i 0); omega))
      have e3 : v3 = (j : Nat) := by rw [h3, IntKind.wrap_u64]; omega
      subst e2 e3
      refine ⟨by omega, fun v4 h4 => ⟨by decide, fun v5 h5 => ?_⟩⟩
      have e4 : v4 = ((l.getD i 0).toNat / 2 ^ j : Nat) := by
        rw [h4]
        have : min ((j : Nat) : Int).toNat IntKind.u32.bits = j := by show min j 32 = j; omega
        rw [this]
        exact fdiv_pow _ _
      subst e4
      have e5 : v5 = ((l.getD i 0).toNat / 2 ^ j % 2 : Nat) := by rw [h5]; rfl
      subst e5
      refine ⟨⟨by omega, by show ((c32 (n32 (4294967295 - n) (l.take i)) (l.getD i 0).toNat j : Nat) : Int) < 4294967296; omega⟩, ⟨by omega, by omega⟩, fun v6 h6 v7 h7 => ⟨(i, j + 1), ?_, rfl, ?_, ⟨hi', h⟩, by dsimp only; omega⟩⟩
      · rw [h6]; rfl
      · rw [h7, w64_id (by omega) (by omega)]; dsimp only; omega
    · have h : j = 8 := by have := of_decide_eq_false h; omega
      subst h
      refine ⟨i + 1, ?_, ?_, hi', by omega⟩
      · rw [n32_take hi']; rfl
      · rw [h3, w64_id (by omega) (by omega)]; omega
  · subst h1
    have hge : l.length ≤ i := by simpa using hge
    rw [List.take_of_length_le hge] at h2
    exact h2.trans (not32 (n32_lt hn'))
theorem sum32_z (l : List UInt8) : ((4294967295 - n32 (4294967295 - (0 : Int).toNat) l : Nat) : Int) = crc32 l := rfl
def sum32 := pcOf aStr (fun x => []) (fun x => .int .u32 (crc32 x.1))
def E6 : Env := E5.addP 41 next32
theorem E6_ok : EnvOk Tryz.prog E6 := E5_ok.addP nextR32_ok
theorem sumR32_ok : PcOk Tryz.prog 11 sum32 := by
  refine pcOf_run (fun _ => E6_ok) Tryz.func11 rfl (by kernel_rfl) (fun _ => trivial)
    (fun x => []) (fun _ => Nat.le_of_ble_eq_true rfl) (fun ⟨l, ()⟩ hp hw => ?_)
  refine vc_of (q :=
      ((0:Int)≤0∧(0:Int) < 4294967296)∧∀ (v1:Int), v1=(↑(4294967295 - n32 4294967295 l):Int)→v1=crc32 l) (by kernel_rfl) ?_
  try simp only [eq_self, true_and, and_true, Nat.le_refl, implies_true, forall_const, Bool.false_eq_true, Bool.true_eq_false, reduceCtorEq, false_imp_iff, true_imp_iff, Int.toNat_zero, Int.toNat_natCast, Nat.zero_lt_one, Int.le_refl, allGet]
  exact ⟨by decide, fun v h => h⟩
def tabs32 := pcOf .nil (fun _ => []) (fun _ => .arr 256 1 fun k => .int .u32 (t32 k : Nat))
theorem tab32_step {x : Nat} (h : x < 4294967296) : IntKind.u32.wrap ((BitVec.ofInt IntKind.u32.bits (Int.fdiv x (2 ^ min (Int.toNat 1) IntKind.u32.bits)) ^^^ BitVec.ofInt IntKind.u32.bits (IntKind.u32.wrap (IntKind.u32.wrap ((BitVec.ofInt IntKind.u32.bits (x : Int) &&& BitVec.ofInt IntKind.u32.bits 1).toNat : Int) * 3988292384))).toNat : Int) = (s32 x : Nat) := by
  have e1 : Int.fdiv x (2 ^ min (Int.toNat 1) IntKind.u32.bits) = (x / 2 : Nat) := fdiv_pow x 1
  have e2 : IntKind.u32.wrap ((BitVec.ofInt IntKind.u32.bits (x : Int) &&& BitVec.ofInt IntKind.u32.bits 1).toNat : Int) = (x % 2 : Nat) := by
    rw [BitVec.toNat_and, show IntKind.u32.bits = 32 from rfl, bv_nat (w := 32) h, show (BitVec.ofInt 32 (1 : Int)).toNat = 1 from rfl, Nat.and_one_is_mod]
    exact u32_id (by omega) (by omega)
  have e3 : IntKind.u32.wrap (((x % 2 : Nat) : Int) * 3988292384) = ((if x % 2 = 1 then 3988292384 else 0 : Nat) : Int) := by
    rw [IntKind.wrap_u32]
    split <;> omega
  rw [e1, e2, e3, xor32 (by omega) (by split <;> decide)]
  rfl
theorem tabs32_ok : PcOk Tryz.prog 136 tabs32 := by
  refine pcOf_run (fun _ => E0_ok) Tryz.func136 rfl (by kernel_rfl) (fun _ => fun i hi => ⟨trivial, rfl, rfl⟩)
    (fun x => [.loop ⟨3, Nat × Nat, [1, 5], fun y => [.ptr 1 y.2 0 [.elt 0 256], .int .i64 (y.1 : Nat)], [1], fun y => [⟨1, y.2, 0, 256, 1, fun _ => .arr 256 1 fun k => .int .u32 ((if k < y.1 then t32 k else 0 : Nat) : Int), true, true, 1, 179, false, none⟩], fun y => y.1 ≤ 256, fun y => 256 - y.1⟩,
      .nest ⟨7, Nat × Nat, [2, 3, 10], fun y => [.int .i64 (y.1 : Nat), .int .u32 (itn s32 y.2 y.1 : Nat), .int .i64 (y.2 : Nat)], [], fun _ => [], fun y => y.1 < 256 ∧ y.2 ≤ 8, fun y => 8 - y.2⟩])
    (fun _ => Nat.le_of_ble_eq_true rfl) (fun () hp hw => ?_)
  refine vc_of (q :=
      ∀ (b1 b2:Nat), (∃ (x1:Nat × Nat), (0=0∧b2=x1.2∧0=0)∧0=(↑x1.1:Int)∧((b2=x1.2∧0=0∧false=false∧1≤1∧1≤1∧1≤1)∧SVeq (SV.arr 256 1 fun (x:Nat) ↦ SV.int IntKind.u32 (0:Int)) (SV.arr 256 1 fun (k:Nat) ↦ SV.int IntKind.u32 (↑(if k < x1.1 then t32 k else 0):Int)))∧Nat.le x1.1 256)∧∀ (x2:Nat × Nat), x2.1≤256→(decide ((↑x2.1:Int) < (256:Int))=true→∀ (v1:Int), v1=IntKind.u32.wrap (↑x2.1:Int)→(∃ (x3:Nat × Nat),
      (↑x2.1:Int)=(↑x3.1:Int)∧v1=(↑(itn s32 x3.2 x3.1):Int)∧0=(↑x3.2:Int)∧x3.1 < 256∧x3.2≤8)∧∀ (x4:Nat × Nat), x4.1 < 256∧x4.2≤8→(↑x2.1:Int)=(↑x4.1:Int)→(decide ((↑x4.2:Int) < (8:Int))=true→∀ (v2:Int), v2=IntKind.u32.wrap (↑(BitVec.toNat (BitVec.ofInt IntKind.u32.bits (↑(itn s32 x4.2 x4.1):Int) &&& BitVec.ofInt IntKind.u32.bits (1:Int))):Int)→(0:Int)≤1∧∀ (v3:Int), v3=Int.fdiv (↑(itn s32 x4.2 x4.1):Int)
      ((2:Int) ^ Min.min (Int.toNat (1:Int)) IntKind.u32.bits)→∀ (v4:Int), v4=IntKind.u32.wrap (v2*(3988292384:Int))→∀ (v5:Int), v5=IntKind.u32.wrap (↑(BitVec.toNat (BitVec.ofInt IntKind.u32.bits v3 ^^^ BitVec.ofInt IntKind.u32.bits v4)):Int)→∀ (v6:Int), v6=IntKind.i64.wrap ((↑x4.2:Int)+(1:Int))→∃ (x5:Nat × Nat), (↑x4.1:Int)=(↑x5.1:Int)∧v5=(↑(itn s32 x5.2 x5.1):Int)∧v6=(↑x5.2:Int)∧(x5.1 < 256∧x5.2≤8)∧8 -
      x5.2 < 8 - x4.2)∧(decide ((↑x4.2:Int) < (8:Int))=false→0≤(↑x4.1:Int)∧(↑x4.1:Int) < (↑(256:Nat):Int)∧(x2.2=x2.2∧0=0)∧Int.toNat (↑x4.1:Int) < 256∧∀ (v3:Int), v3=IntKind.i64.wrap ((↑x2.1:Int)+(1:Int))→∃ (x5:Nat × Nat), (0=0∧x2.2=x5.2∧0=0)∧v3=(↑x5.1:Int)∧((x2.2=x5.2∧0=0∧false=false∧1≤1∧1≤1∧1≤1)∧SVeq (SV.arr 256 1 fun (k:Nat) ↦ SV.int IntKind.u32 (if k=Int.toNat (↑x4.1:Int) then (↑(itn s32 x4.2
      x4.1):Int) else (↑(if k < x2.1 then t32 k else 0):Int))) (SV.arr 256 1 fun (k:Nat) ↦ SV.int IntKind.u32 (↑(if k < x5.1 then t32 k else 0):Int)))∧x5.1≤256∧256 - x5.1 < 256 - x2.1))∧(decide ((↑x2.1:Int) < (256:Int))=false→(x2.2=x2.2∧0=0)∧(b1=b1∧0=0)∧(b1=b1∧0=0)∧SVeq (SV.arr 256 1 fun (k:Nat) ↦ SV.int IntKind.u32 (↑(if k < x2.1 then t32 k else 0):Int)) (SV.arr 256 1 fun (k:Nat) ↦ SV.int IntKind.u32
      (↑(t32 k):Int)))) (by kernel_rfl) ?_
  try simp only [eq_self, true_and, and_true, Nat.le_refl, implies_true, forall_const, Bool.false_eq_true, Bool.true_eq_false, reduceCtorEq, false_imp_iff, true_imp_iff, Int.toNat_zero, Int.toNat_natCast, Nat.zero_lt_one, Int.le_refl, allGet]
  refine fun b => ⟨⟨(0, b), rfl, rfl, ⟨rfl, arr32 fun k hk => by simp⟩, Nat.zero_le _⟩, ?_⟩
  rintro ⟨i, b'⟩ hi
  dsimp only at hi ⊢
  refine ⟨fun hlt v1 h1 => ?_, fun hge => ?_⟩
  · have hlt : i < 256 := by have := of_decide_eq_true hlt; omega
    have e1 : v1 = (i : Nat) := h1.trans (u32_id (by omega) (by omega))
    subst e1
    refine ⟨⟨(i, 0), rfl, rfl, rfl, hlt, Nat.zero_le _⟩, ?_⟩
    rintro ⟨i', j⟩ ⟨hi', hj⟩ e
    dsimp only at hi' hj e ⊢
    obtain rfl : i = i' := by omega
    have hx : itn s32 j i < 4294967296 := itn32_lt (by omega) j
    refine ⟨fun h v3 h3 => ⟨by decide, fun v4 h4 v5 h5 v6 h6 v7 h7 => ?_⟩, fun h => ⟨by omega, by omega, hi', fun v4 h4 => ?_⟩⟩
    · have h : j < 8 := by have := of_decide_eq_true h; omega
      refine ⟨(i, j + 1), rfl, ?_, ?_, ⟨hi', h⟩, by dsimp only; omega⟩
      · rw [h6, h4, h5, h3, tab32_step hx]; rfl
      · rw [h7, w64_id (by omega) (by omega)]; dsimp only; omega
    · have h : j = 8 := by have := of_decide_eq_false h; omega
      subst h
      refine ⟨(i + 1, b'), rfl, ?_, ⟨rfl, arr32 fun k hk => ?_⟩, hi', by dsimp only; omega⟩
      · rw [h4, w64_id (by omega) (by omega)]; dsimp only; omega
      · dsimp only
        by_cases q : k = i
        · rw [if_pos q, if_pos (by omega), q]; rfl
        · rw [if_neg q]
          by_cases q2 : k < i
          · rw [if_pos q2, if_pos (by omega)]
          · rw [if_neg q2, if_neg (by omega)]
  · have hge : i = 256 := by have := of_decide_eq_false hge; omega
    subst hge
    exact arr32 fun k hk => by rw [if_pos hk]
def E7 : Env := E0.addP 136 tabs32
theorem E7_ok : EnvOk Tryz.prog E7 := E0_ok.addP tabs32_ok
theorem nextP32_ok : PcOk Tryz.prog 114 next32 := by
  refine pcOf_run (fun _ => E7_ok) Tryz.func114 rfl (by kernel_rfl) (fun _ => trivial)
    (fun x => [.lp 4 Nat [0, 12] (fun i => [.int .u32 (n32 (4294967295 - x.1.toNat) (x.2.1.take i) : Nat), .int .i64 (i : Nat)]) (fun i => i ≤ x.2.1.length) (fun i => x.2.1.length - i)])
    (fun _ => Nat.le_of_ble_eq_true rfl) (fun ⟨s, l, ()⟩ hp hw => ?_)
  refine vc_of (q :=
      ∀ (b1:Nat), (b1=b1∧0=0)∧∀ (v1:Int), v1=IntKind.u32.wrap (↑(BitVec.toNat (BitVec.ofInt IntKind.u32.bits (if IntKind.signed IntKind.u32=true then (-1:Int) else IntKind.u32.max) ^^^ BitVec.ofInt IntKind.u32.bits s)):Int)→∀ (v2:Int), v2=(↑(List.length l):Int)→(∃ (x1:Nat), v1=(↑(n32 (4294967295 - Int.toNat s) (List.take x1 l)):Int)∧0=(↑x1:Int)∧Nat.le x1 (List.length l))∧∀ (b2:Nat), b2≤List.length
      l→(decide ((↑b2:Int) < v2)=true→(0:Int)≤8∧∀ (v3:Int), v3=Int.fdiv (↑(n32 (4294967295 - Int.toNat s) (List.take b2 l)):Int) ((2:Int) ^ Min.min (Int.toNat (8:Int)) IntKind.u32.bits)→∀ (v4:Int), v4=IntKind.u8.wrap (↑(n32 (4294967295 - Int.toNat s) (List.take b2 l)):Int)→0≤(↑b2:Int)∧(↑b2:Int) < (↑(List.length l):Int)∧∀ (v5:Int), v5=IntKind.u8.wrap (↑(BitVec.toNat (BitVec.ofInt IntKind.u8.bits v4 ^^^
      BitVec.ofInt IntKind.u8.bits (↑(UInt8.toNat (List.getD l (Int.toNat (↑b2:Int)) 0)):Int))):Int)→0≤v5∧v5 < (↑(256:Nat):Int)∧(b1=b1∧0=0)∧Int.toNat v5 < 256∧∀ (v6:Int), v6=IntKind.u32.wrap (↑(BitVec.toNat (BitVec.ofInt IntKind.u32.bits v3 ^^^ BitVec.ofInt IntKind.u32.bits (↑(t32 (Int.toNat v5)):Int))):Int)→∀ (v7:Int), v7=IntKind.i64.wrap ((↑b2:Int)+(1:Int))→∃ (x2:Nat), v6=(↑(n32 (4294967295 - Int.toNat
      s) (List.take x2 l)):Int)∧v7=(↑x2:Int)∧x2≤List.length l∧List.length l - x2 < List.length l - b2)∧(decide ((↑b2:Int) < v2)=false→∀ (v4:Int), v4=IntKind.u32.wrap (↑(BitVec.toNat (BitVec.ofInt IntKind.u32.bits (if IntKind.signed IntKind.u32=true then (-1:Int) else IntKind.u32.max) ^^^ BitVec.ofInt IntKind.u32.bits (↑(n32 (4294967295 - Int.toNat s) (List.take b2 l)):Int))):Int)→v4=(↑(4294967295 - n32
      (4294967295 - Int.toNat s) l):Int))) (by kernel_rfl) ?_
  have hl : l.length ≤ 9223372036854775807 := hw (.str l) (List.mem_cons_of_mem _ (List.mem_cons_self ..))
  obtain ⟨⟨s0, s1⟩, _⟩ := hp
  try simp only [eq_self, true_and, and_true, Nat.le_refl, implies_true, forall_const, Bool.false_eq_true, Bool.true_eq_false, reduceCtorEq, false_imp_iff, true_imp_iff, Int.toNat_zero, Int.toNat_natCast, Nat.zero_lt_one, Int.le_refl, allGet]
  dsimp only at s0 s1
  obtain ⟨n, rfl⟩ : ∃ n : Nat, s = n := ⟨s.toNat, by omega⟩
  intro v0 h0
  have hn : n < 4294967296 := by omega
  have e0 : v0 = (4294967295 - n : Nat) := h0.trans (not32 hn)
  subst e0
  clear h0
  have hn' : 4294967295 - n < 4294967296 := by omega
  intro v1 h1
  subst h1
  refine ⟨⟨0, rfl, rfl, Nat.zero_le _⟩, fun i hi => ⟨fun hlt => ⟨by decide, fun v2 h2 v3 h3 => ⟨by omega, ?_, fun v5 h5 => ?_⟩⟩, fun hge v2 h2 => ?_⟩⟩
  · have := of_decide_eq_true hlt; exact this
  · have hlt : i < l.length := by have := of_decide_eq_true hlt; omega
    have hs : n32 (4294967295 - n) (l.take i) < 4294967296 := n32_lt hn'
    have hb := UInt8.toNat_lt (l.getD i 0)
    have e2 : v2 = (n32 (4294967295 - n) (l.take i) / 256 : Nat) := h2.trans (fdiv_pow _ 8)
    have e3 : v3 = (n32 (4294967295 - n) (l.take i) % 256 : Nat) := h3.trans (by
      show IntKind.u8.wrap ((n32 (4294967295 - n) (l.take i) : Nat) : Int) = _
      rw [IntKind.wrap_u8]; omega)
    have e5 : v5 = ((n32 (4294967295 - n) (l.take i) % 256) ^^^ (l.getD i 0).toNat : Nat) := by rw [h5, e3]; exact xor8 (by omega) hb
    have h8 := xor_lt (n := 8) (a := n32 (4294967295 - n) (l.take i) % 256) (b := (l.getD i 0).toNat) (by omega) hb
    subst e5
    refine ⟨by omega, by omega, by omega, fun v6 h6 v7 h7 => ⟨i + 1, ?_, ?_, hlt, by omega⟩⟩
    · rw [h6, e2, n32_take hlt]
      have ht : t32 (n32 (4294967295 - n) (l.take i) % 256 ^^^ (l.getD i 0).toNat) < 4294967296 := itn32_lt (by omega) 8
      exact (xor32 (by omega) ht).trans (by rw [C32_tab hb]; rfl)
    · rw [h7, w64_id (by omega) (by omega)]; omega
  · have hge : l.length ≤ i := by have := of_decide_eq_false hge; omega
    rw [List.take_of_length_le hge] at h2
    exact h2.trans (not32 (n32_lt hn'))
def E8 : Env := E7.addP 114 next32
theorem E8_ok : EnvOk Tryz.prog E8 := E7_ok.addP nextP32_ok
theorem sumP32_ok : PcOk Tryz.prog 63 sum32 := by
  refine pcOf_run (fun _ => E8_ok) Tryz.func63 rfl (by kernel_rfl) (fun _ => trivial)
    (fun x => []) (fun _ => Nat.le_of_ble_eq_true rfl) (fun ⟨l, ()⟩ hp hw => ?_)
  refine vc_of (q :=
      ((0:Int)≤0∧(0:Int) < 4294967296)∧∀ (v1:Int), v1=(↑(4294967295 - n32 4294967295 l):Int)→v1=crc32 l) (by kernel_rfl) ?_
  try simp only [eq_self, true_and, and_true, Nat.le_refl, implies_true, forall_const, Bool.false_eq_true, Bool.true_eq_false, reduceCtorEq, false_imp_iff, true_imp_iff, Int.toNat_zero, Int.toNat_natCast, Nat.zero_lt_one, Int.le_refl, allGet]
  exact ⟨by decide, fun v h => h⟩
end Rc
