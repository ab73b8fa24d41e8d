/-
  OWN WORK. Send, of the program and of the reference.
-/
import Derived.Test.YtnibcchhhebfaaaGreatDoorQA
import Derived.Test.YtnibcchhhebfaaaGreatDoorQ4
import Derived.Test.YtnibcchhhebfaaaGreatDoorQX
import Derived.Test.YtnibcchhhebfaaaGreatDoorQF
import Derived.Test.YtnibcchhhebfaaaGreatDoorQS
namespace Vt
open Go Go.Proofs Eng
set_option linter.unusedVariables false
set_option linter.unusedSimpArgs false
set_option maxHeartbeats 8000000
set_option maxRecDepth 100000
def parOk2 (i : Nat) : Bool := decide (IntKind.i64.wrap ((BitVec.ofInt IntKind.i64.bits ((i / 128 : Nat) : Int) ^^^ BitVec.ofInt IntKind.i64.bits (Int.tmod ((i % 128 : Nat) : Int) 2)).toNat : Int) = (((i / 128 + i % 128) % 2 : Nat) : Int)) && decide (((i / 128 + i % 128) % 2 + par (i % 128 / 2)) % 2 = (i / 128 + par (i % 128)) % 2)
theorem par2_all : allB parOk2 256 = true := by decide +kernel
theorem parR_ok : PcOk Tryz.prog 78 parC := by
  refine pcOf_run (fun _ => E0_ok) Tryz.func78 rfl (by kernel_rfl) (fun _ => trivial)
    (fun x => [.lp 2 (Nat × Nat) [0, 3] (fun y => [.int .i64 (y.1 : Nat), .int .i64 (y.2 : Nat)]) (fun y => y.1 < 128 ∧ y.2 ≤ 1 ∧ (y.2 + par y.1) % 2 = par x.1.toNat) (fun y => y.1)]) (fun _ => Nat.le_of_ble_eq_true rfl) (fun ⟨n, ()⟩ hp hw => ?_)
  refine vc_of (q :=
      (∃ (x1:Nat × Nat), n=(↑x1.1:Int)∧(0:Int)=(↑x1.2:Int)∧x1.1 < 128∧x1.2≤1∧(x1.2+Vt.par x1.1) % 2=Vt.par (Int.toNat n))∧∀ (x2:Nat × Nat), x2.1 < 128∧x2.2≤1∧(x2.2+Vt.par x2.1) % 2=Vt.par (Int.toNat n)→(decide ((↑x2.1:Int) > (0:Int))=true→(2:Int)≠(0:Int)∧∀ (v1:Int), v1=Int.tmod (↑x2.1:Int) (2:Int)→∀ (v2:Int), v2=IntKind.i64.wrap (↑(BitVec.toNat (BitVec.ofInt (IntKind.i64.bits) (↑x2.2:Int) ^^^
      BitVec.ofInt (IntKind.i64.bits) v1)):Int)→(2:Int)≠(0:Int)∧∀ (v3:Int), v3=IntKind.i64.wrap (Int.tdiv (↑x2.1:Int) (2:Int))→∃ (x3:Nat × Nat), v3=(↑x3.1:Int)∧v2=(↑x3.2:Int)∧(x3.1 < 128∧x3.2≤1∧(x3.2+Vt.par x3.1) % 2=Vt.par (Int.toNat n))∧x3.1 < x2.1)∧(decide ((↑x2.1:Int) > (0:Int))=false→(↑x2.2:Int)=(↑(Vt.par (Int.toNat n)):Int))) (by kernel_rfl) ?_
  obtain ⟨⟨n0, n1⟩, _⟩ := hp
  dsimp only at n0 n1
  refine ⟨⟨(n.toNat, 0), by dsimp only; omega, rfl, by dsimp only; omega, Nat.zero_le _, ?_⟩, ?_⟩
  · have := par_le n.toNat
    dsimp only
    omega
  rintro ⟨m, k⟩ ⟨h1, h2, h3⟩
  dsimp only at h1 h2 h3 ⊢
  refine ⟨fun hm => ⟨by decide, fun v1 e1 v2 e2 => ⟨by decide, fun v3 e3 => ?_⟩⟩, fun hm => ?_⟩
  · have hm := of_decide_eq_true hm
    have h := allB_true par2_all (128 * k + m) (by omega)
    simp only [parOk2, show (128 * k + m) / 128 = k by omega, show (128 * k + m) % 128 = m by omega, Bool.and_eq_true, decide_eq_true_eq] at h
    obtain ⟨p1, p2⟩ := h
    rw [Int.tdiv_eq_ediv_of_nonneg (by omega), w64_id (by omega) (by omega)] at e3
    refine ⟨(m / 2, (k + m) % 2), by dsimp only; omega, by rw [e2, e1]; exact p1, ⟨by dsimp only; omega, by dsimp only; omega, by dsimp only; omega⟩, by dsimp only; omega⟩
  · have hm := of_decide_eq_false hm
    obtain rfl : m = 0 := by omega
    have : par 0 = 0 := rfl
    have := par_le n.toNat
    omega
def EST2 : Env := E0.addP 78 parC
theorem EST2_ok : EnvOk Tryz.prog EST2 := E0_ok.addP parR_ok
theorem stepR_ok : PcOk Tryz.prog 50 stepC := by
  refine pcOf_run (fun _ => EST2_ok) Tryz.func50 rfl (by kernel_rfl) (fun _ => ⟨trivial, trivial, trivial, trivial⟩)
    (fun x => []) (fun _ => Nat.le_of_ble_eq_true rfl) (fun ⟨s, b, ()⟩ hp hw => ?_)
  refine vc_of (q :=
      ∀ (t1:Bool), (t1=if decide (s < (0:Int))=true then true else decide (s > (63:Int)))→∀ (t2:Bool), (t2=if t1=true then true else decide (b < (0:Int)))→∀ (t3:Bool), (t3=if t2=true then true else decide (b > (1:Int)))→(t3=true→(0:Int)=(↑(Vt.nxt (Int.toNat s) (Int.toNat b)):Int)∧(0:Int)=(↑(Vt.fs (Int.toNat s) (Int.toNat b)):Int)∧(0:Int)=(↑(Vt.sc (Int.toNat s) (Int.toNat b)):Int))∧(t3=false→∀ (v1:Int),
      v1=IntKind.i64.wrap ((64:Int)*b)→∀ (v2:Int), v2=IntKind.i64.wrap (v1+s)→(2:Int)≠(0:Int)∧∀ (v3:Int), v3=IntKind.i64.wrap (Int.tdiv v2 (2:Int))→∀ (v4:Int), v4=IntKind.i64.wrap (↑(BitVec.toNat (BitVec.ofInt (IntKind.i64.bits) v2 &&& BitVec.ofInt (IntKind.i64.bits) (121:Int))):Int)→(0≤v4∧v4 < 128)∧∀ (v5:Int), v5=(↑(Vt.par (Int.toNat v4)):Int)→∀ (v6:Int), v6=IntKind.i64.wrap (↑(BitVec.toNat
      (BitVec.ofInt (IntKind.i64.bits) v2 &&& BitVec.ofInt (IntKind.i64.bits) (91:Int))):Int)→(0≤v6∧v6 < 128)∧∀ (v7:Int), v7=(↑(Vt.par (Int.toNat v6)):Int)→∀ (v8:Int), v8=IntKind.i64.wrap ((1:Int) - v7)→v3=(↑(Vt.nxt (Int.toNat s) (Int.toNat b)):Int)∧v5=(↑(Vt.fs (Int.toNat s) (Int.toNat b)):Int)∧v8=(↑(Vt.sc (Int.toNat s) (Int.toNat b)):Int))) (by kernel_rfl) ?_
  obtain ⟨⟨s0, s1⟩, ⟨b0, b1⟩, _⟩ := hp
  dsimp only at s0 s1 b0 b1
  obtain ⟨s, rfl⟩ : ∃ k : Nat, s = k := ⟨s.toNat, by omega⟩
  obtain ⟨b, rfl⟩ : ∃ k : Nat, b = k := ⟨b.toNat, by omega⟩
  have h := allB_true step_all (64 * b + s) (by omega)
  simp only [stepOk, show (64 * b + s) / 64 = b by omega, show (64 * b + s) % 64 = s by omega, Bool.and_eq_true, decide_eq_true_eq] at h
  obtain ⟨⟨⟨⟨⟨_, _⟩, p3⟩, p4⟩, p5⟩, p6⟩ := h
  simp only [Int.toNat_natCast]
  intro t1 f1 t2 f2 t3 f3
  have q1 : t1 = false := by rw [f1, decide_eq_false (by omega), decide_eq_false (by omega)]; rfl
  have q2 : t2 = false := by rw [f2, q1, decide_eq_false (by omega)]; rfl
  have q3 : t3 = false := by rw [f3, q2, decide_eq_false (by omega)]; rfl
  refine ⟨fun q => (by rw [q3] at q; cases q), fun _ v1 e1 v2 e2 => ⟨by decide, fun v3 e3 v4 e4 => ?_⟩⟩
  rw [w64_id (by omega) (by omega)] at e1
  subst e1
  rw [w64_id (by omega) (by omega)] at e2
  have e2 : v2 = ((reg s b : Nat) : Int) := by rw [e2]; unfold reg; omega
  subst e2
  have e4 : v4 = _ := e4.trans p3
  subst e4
  refine ⟨⟨by omega, by exact_mod_cast p5⟩, fun v5 e5 v6 e6 => ?_⟩
  have e6 : v6 = _ := e6.trans p4
  subst e6
  refine ⟨⟨by omega, by exact_mod_cast p6⟩, fun v7 e7 v8 e8 => ⟨?_, ?_, ?_⟩⟩
  · have : reg s b < 128 := by unfold reg; omega
    rw [e3, Int.tdiv_eq_ediv_of_nonneg (by omega), w64_id (by omega) (by omega)]
    rfl
  · rw [e5, Int.toNat_natCast]; rfl
  · rw [Int.toNat_natCast] at e7
    have := par_le (Nat.land (reg s b) 91)
    rw [e8, e7, w64_id (by omega) (by omega)]
    unfold sc
    omega
theorem beq0 (n : Nat) : Nat.beq n 0 = decide (n = 0) := by cases n <;> rfl
def bitsC := ecC aS (fun x => [x.1.length ≤ 1100]) (fun x (y : Nat × Nat × Nat) => 8 * x.1.length + 6 ≤ y.2.2 ∧ y.2.2 ≤ 9223372036854775807) (fun x y => .slice 0 y.1 y.2.1 [] 1 0 (8 * x.1.length + 6) y.2.2 false)
  (fun x y => [⟨0, y.1, y.2.1, 1, 8 * x.1.length + 6, fun k => .int .i64 (bitsOf x.1 k : Nat), true, false, y.2.2, 3, false, none⟩]) 1
theorem bitsR_ok : EcOk Tryz.prog 49 bitsC := by
  refine ecC_run (fun _ => E0_ok) Tryz.func49 rfl (by kernel_rfl) []
    (fun x => [.loop ⟨3, Nat × Nat × Nat × Nat, [3, 4], fun y => [.slice 500 y.2.1 y.2.2.1 [] 1 0 (8 * y.1) y.2.2.2 (Nat.beq y.1 0), .int .i64 (y.1 : Nat)], [], fun y => [⟨500, y.2.1, y.2.2.1, 1, 8 * y.1, fun k => .int .i64 (bitsOf x.1 k : Nat), true, false, y.2.2.2, 3, Nat.beq y.1 0, none⟩], fun y => y.1 ≤ x.1.length ∧ 8 * y.1 ≤ y.2.2.2 ∧ y.2.2.2 ≤ 9223372036854775807 ∧ (y.1 = 0 → y.2.2.2 = 0), fun y => x.1.length - y.1⟩,
      .loopD 6 (fun fr H => ⟨6, Nat × Nat × Nat × Nat, [3, 5], fun y => [.slice 510 y.2.1 y.2.2.1 [] 1 0 (8 * (intOf (slotV fr 4)).toNat + y.1) y.2.2.2 (Nat.beq (8 * (intOf (slotV fr 4)).toNat + y.1) 0), .int .i64 (7 - (y.1 : Nat))], [500], fun y => [⟨510, y.2.1, y.2.2.1, 1, 8 * (intOf (slotV fr 4)).toNat + y.1, fun k => .int .i64 (bitsOf x.1 k : Nat), true, false, y.2.2.2, 3, Nat.beq (8 * (intOf (slotV fr 4)).toNat + y.1) 0, none⟩], fun y => y.1 ≤ 8 ∧ 8 * (intOf (slotV fr 4)).toNat + y.1 ≤ y.2.2.2 ∧ y.2.2.2 ≤ 9223372036854775807 ∧ (8 * (intOf (slotV fr 4)).toNat + y.1 = 0 → y.2.2.2 = 0), fun y => 8 - y.1⟩)]) (fun _ => Nat.le_of_ble_eq_true rfl) (fun ⟨l, ()⟩ hp hw => ?_)
  refine vc_of (q :=
      (∃ (x1:Nat × Nat × Nat × Nat), SVeq (SV.slice 999999 0 0 [] 0 0 0 0 true) (SV.slice 500 x1.2.1 x1.2.2.1 [] 1 0 (8*x1.1) x1.2.2.2 (Nat.beq x1.1 0))∧(0:Int)=(↑x1.1:Int)∧(Nat.beq x1.1 0=true∧8*x1.1=0∧x1.2.2.2=0)∧x1.1≤List.length l∧8*x1.1≤x1.2.2.2∧x1.2.2.2≤9223372036854775807∧(x1.1=0→x1.2.2.2=0))∧∀ (x2:Nat × Nat × Nat × Nat), x2.1≤List.length
      l∧8*x2.1≤x2.2.2.2∧x2.2.2.2≤9223372036854775807∧(x2.1=0→x2.2.2.2=0)→∀ (v1:Int), v1=(↑(List.length l):Int)→(decide ((↑x2.1:Int) < v1)=true→(∃ (x3:Nat × Nat × Nat × Nat), (x2.2.1=x3.2.1∧x2.2.2.1=x3.2.2.1∧0=0∧8*x2.1=8*Int.toNat (↑x2.1:Int)+x3.1∧x2.2.2.2=x3.2.2.2∧Nat.beq x2.1 0=Nat.beq (8*Int.toNat (↑x2.1:Int)+x3.1) 0)∧(7:Int)=(7:Int) - (↑x3.1:Int)∧((x2.2.1=x3.2.1∧x2.2.2.1=x3.2.2.1∧Nat.beq x2.1
      0=Nat.beq (8*Int.toNat (↑x2.1:Int)+x3.1) 0∧8*Int.toNat (↑x2.1:Int)+x3.1≤8*x2.1∧8*Int.toNat (↑x2.1:Int)+x3.1≤x3.2.2.2∧x3.2.2.2≤x2.2.2.2)∧∀ (i1:Nat), i1 < 8*Int.toNat (↑x2.1:Int)+x3.1→(↑(Vt.bitsOf l i1):Int)=(↑(Vt.bitsOf l i1):Int))∧x3.1≤8∧8*Int.toNat (↑x2.1:Int)+x3.1≤x3.2.2.2∧x3.2.2.2≤9223372036854775807∧(8*Int.toNat (↑x2.1:Int)+x3.1=0→x3.2.2.2=0))∧∀ (x4:Nat × Nat × Nat × Nat), x4.1≤8∧8*Int.toNat
      (↑x2.1:Int)+x4.1≤x4.2.2.2∧x4.2.2.2≤9223372036854775807∧(8*Int.toNat (↑x2.1:Int)+x4.1=0→x4.2.2.2=0)→(decide ((7:Int) - (↑x4.1:Int)≥(0:Int))=true→(0:Int)≤(↑x2.1:Int)∧(↑x2.1:Int) < (↑(List.length l):Int)∧∀ (v2:Int), v2=IntKind.i64.wrap (↑(UInt8.toNat (List.getD l (Int.toNat (↑x2.1:Int)) 0)):Int)→∀ (v3:Int), v3=IntKind.u64.wrap ((7:Int) - (↑x4.1:Int))→0≤v3∧∀ (v4:Int), v4=Int.fdiv v2 ((2:Int) ^ Min.min
      (Int.toNat v3) (IntKind.i64.bits))→(2:Int)≠(0:Int)∧∀ (v5:Int), v5=Int.tmod v4 (2:Int)→∀ (b1:Nat), (x4.2.1=x4.2.1∧x4.2.2.1=x4.2.2.1)∧(Nat.beq (8*Int.toNat (↑x2.1:Int)+x4.1) 0=true→Nat.beq (8*Int.toNat (↑x2.1:Int)+x4.1) 0=true)∧0=0∧8*Int.toNat (↑x2.1:Int)+x4.1≤8*Int.toNat (↑x2.1:Int)+x4.1∧x4.2.2.2≤x4.2.2.2∧(8*Int.toNat (↑x2.1:Int)+x4.1+1)*8≤140737488355328∧8*Int.toNat
      (↑x2.1:Int)+x4.1+1≤9223372036854775807∧1≤1∧(b1=b1∧0=0)∧∀ (b2 b3 b4:Nat), 8*Int.toNat (↑x2.1:Int)+x4.1+1≤b4→b4≤9223372036854775807→(Nat.beq (8*Int.toNat (↑x2.1:Int)+x4.1) 0=true→1=0→b4=0)→∀ (v6:Int), v6=IntKind.i64.wrap ((7:Int) - (↑x4.1:Int) - (1:Int))→∃ (x5:Nat × Nat × Nat × Nat), (b2=x5.2.1∧b3=x5.2.2.1∧0=0∧8*Int.toNat (↑x2.1:Int)+x4.1+1=8*Int.toNat (↑x2.1:Int)+x5.1∧b4=x5.2.2.2∧(Nat.beq
      (8*Int.toNat (↑x2.1:Int)+x4.1) 0&&decide (1=0))=Nat.beq (8*Int.toNat (↑x2.1:Int)+x5.1) 0)∧v6=7 - (↑x5.1:Int)∧((b2=x5.2.1∧b3=x5.2.2.1∧(Nat.beq (8*Int.toNat (↑x2.1:Int)+x4.1) 0&&decide (1=0))=Nat.beq (8*Int.toNat (↑x2.1:Int)+x5.1) 0∧8*Int.toNat (↑x2.1:Int)+x5.1≤8*Int.toNat (↑x2.1:Int)+x4.1+1∧8*Int.toNat (↑x2.1:Int)+x5.1≤x5.2.2.2∧x5.2.2.2≤b4)∧∀ (i2:Nat), i2 < 8*Int.toNat (↑x2.1:Int)+x5.1→(if i2 <
      8*Int.toNat (↑x2.1:Int)+x4.1 then (↑(Vt.bitsOf l i2):Int) else v5)=(↑(Vt.bitsOf l i2):Int))∧(x5.1≤8∧8*Int.toNat (↑x2.1:Int)+x5.1≤x5.2.2.2∧x5.2.2.2≤9223372036854775807∧(8*Int.toNat (↑x2.1:Int)+x5.1=0→x5.2.2.2=0))∧8 - x5.1 < 8 - x4.1)∧(decide ((7:Int) - (↑x4.1:Int)≥(0:Int))=false→∀ (v3:Int), v3=IntKind.i64.wrap ((↑x2.1:Int)+(1:Int))→∃ (x5:Nat × Nat × Nat × Nat),
      (x4.2.1=x5.2.1∧x4.2.2.1=x5.2.2.1∧0=0∧8*Int.toNat (↑x2.1:Int)+x4.1=8*x5.1∧x4.2.2.2=x5.2.2.2∧Nat.beq (8*Int.toNat (↑x2.1:Int)+x4.1) 0=Nat.beq x5.1 0)∧v3=(↑x5.1:Int)∧((x4.2.1=x5.2.1∧x4.2.2.1=x5.2.2.1∧Nat.beq (8*Int.toNat (↑x2.1:Int)+x4.1) 0=Nat.beq x5.1 0∧8*x5.1≤8*Int.toNat (↑x2.1:Int)+x4.1∧8*x5.1≤x5.2.2.2∧x5.2.2.2≤x4.2.2.2)∧∀ (i2:Nat), i2 < 8*x5.1→(↑(Vt.bitsOf l i2):Int)=(↑(Vt.bitsOf l
      i2):Int))∧(x5.1≤List.length l∧8*x5.1≤x5.2.2.2∧x5.2.2.2≤9223372036854775807∧(x5.1=0→x5.2.2.2=0))∧List.length l - x5.1 < List.length l - x2.1))∧(decide ((↑x2.1:Int) < v1)=false→∀ (b1:Nat), (x2.2.1=x2.2.1∧x2.2.2.1=x2.2.2.1)∧(Nat.beq x2.1 0=true→Nat.beq x2.1 0=true)∧0=0∧8*x2.1≤8*x2.1∧x2.2.2.2≤x2.2.2.2∧(8*x2.1+6)*8≤140737488355328∧8*x2.1+6≤9223372036854775807∧6≤6∧(b1=b1∧0=0)∧∀ (b2 b3 b4:Nat),
      8*x2.1+6≤b4→b4≤9223372036854775807→(Nat.beq x2.1 0=true→6=0→b4=0)→∃ (x5:Nat × Nat × Nat), (b2=x5.1∧b3=x5.2.1∧0=0∧8*x2.1+6=8*List.length l+6∧b4=x5.2.2∧(Nat.beq x2.1 0&&decide (6=0))=false)∧((b2=x5.1∧b3=x5.2.1∧(Nat.beq x2.1 0&&decide (6=0))=false∧8*List.length l+6≤8*x2.1+6∧8*List.length l+6≤x5.2.2∧x5.2.2≤b4)∧∀ (i2:Nat), i2 < 8*List.length l+6→(if i2 < 8*x2.1 then (↑(Vt.bitsOf l i2):Int) else if i2 -
      8*x2.1=0 then (0:Int) else if i2 - 8*x2.1=1 then (0:Int) else if i2 - 8*x2.1=2 then (0:Int) else if i2 - 8*x2.1=3 then (0:Int) else if i2 - 8*x2.1=4 then (0:Int) else (0:Int))=(↑(Vt.bitsOf l i2):Int))∧8*List.length l+6≤x5.2.2∧x5.2.2≤9223372036854775807)) (by kernel_rfl) ?_
  try simp only [eq_self, true_and, and_true, Nat.le_refl, implies_true, forall_const, Bool.false_eq_true, Bool.true_eq_false, reduceCtorEq, false_imp_iff, true_imp_iff, Int.toNat_zero, Int.toNat_natCast, Nat.zero_lt_one, Int.le_refl, allGet]
  obtain ⟨hl, _⟩ := hp
  dsimp only at hl
  refine ⟨⟨(0, 0, 0, 0), nil_eqv rfl rfl rfl, rfl, ⟨rfl, rfl, rfl⟩, Nat.zero_le _, Nat.zero_le _, by decide, fun _ => rfl⟩, ?_⟩
  rintro ⟨i, bb, o, c⟩ ⟨h1, h2, h3, h4⟩ v1 e1
  dsimp only at h1 h2 h3 h4 ⊢
  subst e1
  refine ⟨fun hlt => ?_, fun hge => ?_⟩
  · have hlt := of_decide_eq_true hlt
    have hz : Nat.beq i 0 = Nat.beq (8 * i + 0) 0 := by rw [beq0, beq0]; exact decide_eq_decide.2 (by omega)
    refine ⟨⟨(0, bb, o, c), ⟨rfl, rfl, rfl, rfl, hz⟩, rfl, ⟨rfl, rfl, hz, Nat.le_refl _, h2, Nat.le_refl _⟩, Nat.zero_le _, h2, h3, fun q => h4 (by dsimp only at q; omega)⟩, ?_⟩
    rintro ⟨j, b1, o1, c1⟩ ⟨g1, g2, g3, g4⟩
    dsimp only at g1 g2 g3 g4 ⊢
    refine ⟨fun hj => ?_, fun hj v3 e3 => ?_⟩
    · have hj := of_decide_eq_true hj
      have hu : (l.getD i 0).toNat < 256 := UInt8.toNat_lt _
      refine ⟨by omega, by omega, fun v2 e2 v3 e3 => ?_⟩
      rw [w64_id (by omega) (by omega)] at e2
      have e3 : v3 = ((7 - j : Nat) : Int) := by rw [e3, IntKind.wrap_u64]; omega
      subst e2 e3
      refine ⟨by omega, fun v4 e4 => ⟨by decide, fun v5 e5 => ⟨fun h => h, by omega, by omega, fun b2 b3 b4 k1 k2 v6 e6 => ?_⟩⟩⟩
      rw [w64_id (by omega) (by omega)] at e6
      rw [Int.toNat_natCast, show min (7 - j) IntKind.i64.bits = 7 - j from Nat.min_eq_left (by show 7 - j ≤ 64; omega), Int.fdiv_eq_ediv_of_nonneg _ (by exact_mod_cast Nat.zero_le _)] at e4
      have e4 : v4 = (((l.getD i 0).toNat / 2 ^ (7 - j) : Nat) : Int) := by rw [e4]; exact_mod_cast rfl
      have e5 : v5 = (bitsOf l (8 * i + j) : Nat) := by
        unfold bitsOf
        rw [if_pos (by omega), show (8 * i + j) / 8 = i by omega, show (8 * i + j) % 8 = j by omega, e5, e4, Int.tmod_eq_emod_of_nonneg (Int.natCast_nonneg _)]
        exact_mod_cast rfl
      have hbz : (Nat.beq (8 * i + j) 0 && decide False) = Nat.beq (8 * i + (j + 1)) 0 := by rw [beq0 (8 * i + (j + 1)), decide_eq_false (show ¬ 8 * i + (j + 1) = 0 by omega)]; exact Bool.and_false _
      refine ⟨(j + 1, b2, b3, b4), ⟨rfl, rfl, rfl, rfl, hbz⟩, by dsimp only; omega, ⟨⟨rfl, rfl, hbz, Nat.le_refl _, k1, Nat.le_refl _⟩, fun k hk => ?_⟩, ⟨by dsimp only; omega, k1, k2, fun q => by dsimp only at q; omega⟩, by dsimp only; omega⟩
      dsimp only at hk
      by_cases q : k < 8 * i + j
      · rw [if_pos q]
      · rw [if_neg q, e5, show k = 8 * i + j by omega]
    · have hj := of_decide_eq_false hj
      obtain rfl : j = 8 := by omega
      have hz2 : Nat.beq (8 * i + 8) 0 = Nat.beq (i + 1) 0 := rfl
      exact ⟨(i + 1, b1, o1, c1), ⟨rfl, rfl, rfl, rfl, hz2⟩, e3.trans (l_succ (by omega)), ⟨rfl, rfl, hz2, Nat.le_refl _, g2, Nat.le_refl _⟩, ⟨by dsimp only; omega, g2, g3, fun q => by dsimp only at q; omega⟩, by dsimp only; omega⟩
  · have hge := of_decide_eq_false hge
    obtain rfl : i = l.length := by omega
    refine ⟨fun h => h, by omega, by omega, fun b2 b3 b4 k1 k2 => ⟨(b2, b3, b4), ⟨rfl, rfl, rfl, rfl, Bool.and_false _⟩, ⟨⟨rfl, rfl, Bool.and_false _, Nat.le_refl _, k1, Nat.le_refl _⟩, fun k hk => ?_⟩, k1, k2⟩⟩
    by_cases q : k < 8 * l.length
    · rw [if_pos q]
    · rw [if_neg q, bitsOf_tail l k (by omega)]
      simp
end Vt
namespace Vt
open Go Go.Proofs Eng
set_option linter.unusedVariables false
set_option linter.unusedSimpArgs false
set_option maxHeartbeats 8000000
set_option maxRecDepth 100000
def bitsR := Mk.ecR aS (fun x => [x.1.length ≤ 1100]) (fun x (y : Nat × Nat × Nat) => 8 * x.1.length + 6 ≤ y.2.2 ∧ y.2.2 ≤ 9223372036854775807) (fun x y => .slice 0 y.1 y.2.1 [] 1 0 (8 * x.1.length + 6) y.2.2 false)
  (fun x y => [⟨0, y.1, y.2.1, 1, 8 * x.1.length + 6, fun k => .int .i64 (bitsOf x.1 k : Nat), true, false, y.2.2, 3, false, none⟩]) 1
def EER : Env := (E0.addE 49 bitsR).addP 50 stepC
theorem EER_ok : EnvOk Tryz.prog EER := (E0_ok.addE (Mk.ecR_of bitsR_ok)).addP stepR_ok
theorem encR_ok : PcOk Tryz.prog 26 encC := by
  refine pcOf_run (fun _ => EER_ok) Tryz.func26 rfl (by kernel_rfl) (fun x => ⟨(by have := encS_le x.1; show (encS x.1).length ≤ 9223372036854775807; omega), trivial, trivial⟩)
    (fun x => [.loop ⟨7, Nat × Nat × Nat × Nat, [4, 5, 7], fun y => [.slice 600 y.2.1 y.2.2.1 [] 1 0 (2 * y.1) y.2.2.2 (Nat.beq y.1 0), .int .i64 (stAt (bitsOf x.1) y.1 : Nat), .int .i64 (y.1 : Nat)], [], fun y => [⟨600, y.2.1, y.2.2.1, 1, 2 * y.1, fun k => .int .u8 (sym (bitsOf x.1) k : Nat), true, false, y.2.2.2, 5, Nat.beq y.1 0, none⟩], fun y => y.1 ≤ 8 * x.1.length + 6 ∧ 2 * y.1 ≤ y.2.2.2 ∧ y.2.2.2 ≤ 9223372036854775807 ∧ (y.1 = 0 → y.2.2.2 = 0), fun y => 8 * x.1.length + 6 - y.1⟩]) (fun _ => Nat.le_of_ble_eq_true rfl) (fun ⟨l, ()⟩ hp hw => ?_)
  refine vc_of (q :=
      ∀ (v1:Int), v1=(↑(List.length l):Int)→(decide (v1 > (1100:Int))=true→[]=Vt.encS l∧(3:Int)=(0:Int))∧(decide (v1 > (1100:Int))=false→List.length l≤1100∧∀ (y1:Nat × Nat × Nat), 8*List.length l+6≤y1.2.2∧y1.2.2≤9223372036854775807→(∃ (x1:Nat × Nat × Nat × Nat), SVeq (SV.slice 999999 0 0 [] 0 0 0 0 true) (SV.slice 600 x1.2.1 x1.2.2.1 [] 1 0 (2*x1.1) x1.2.2.2 (Nat.beq x1.1 0))∧(0:Int)=(↑(Vt.stAt
      (Vt.bitsOf l) x1.1):Int)∧(0:Int)=(↑x1.1:Int)∧(Nat.beq x1.1 0=true∧2*x1.1=0∧x1.2.2.2=0)∧x1.1≤8*List.length l+6∧2*x1.1≤x1.2.2.2∧x1.2.2.2≤9223372036854775807∧(x1.1=0→x1.2.2.2=0))∧∀ (x2:Nat × Nat × Nat × Nat), x2.1≤8*List.length l+6∧2*x2.1≤x2.2.2.2∧x2.2.2.2≤9223372036854775807∧(x2.1=0→x2.2.2.2=0)→∀ (v2:Int), v2=(↑(8*List.length l+6):Int)→(decide ((↑x2.1:Int) < v2)=true→(0:Int)≤(↑x2.1:Int)∧(↑x2.1:Int) <
      (↑(8*List.length l+6):Int)∧(y1.1=y1.1∧y1.2.1=y1.2.1)∧Int.toNat (↑x2.1:Int) < 8*List.length l+6∧((0:Int)≤(↑(Vt.stAt (Vt.bitsOf l) x2.1):Int)∧(↑(Vt.stAt (Vt.bitsOf l) x2.1):Int) < (64:Int))∧((0:Int)≤(↑(Vt.bitsOf l (Int.toNat (↑x2.1:Int))):Int)∧(↑(Vt.bitsOf l (Int.toNat (↑x2.1:Int))):Int) < (2:Int))∧∀ (v3:Int), v3=(↑(Vt.nxt (Int.toNat (↑(Vt.stAt (Vt.bitsOf l) x2.1):Int)) (Int.toNat (↑(Vt.bitsOf l
      (Int.toNat (↑x2.1:Int))):Int))):Int)→∀ (v4:Int), v4=(↑(Vt.fs (Int.toNat (↑(Vt.stAt (Vt.bitsOf l) x2.1):Int)) (Int.toNat (↑(Vt.bitsOf l (Int.toNat (↑x2.1:Int))):Int))):Int)→∀ (v5:Int), v5=(↑(Vt.sc (Int.toNat (↑(Vt.stAt (Vt.bitsOf l) x2.1):Int)) (Int.toNat (↑(Vt.bitsOf l (Int.toNat (↑x2.1:Int))):Int))):Int)→∀ (v6:Int), v6=IntKind.u8.wrap v4→∀ (v7:Int), v7=IntKind.u8.wrap v5→∀ (b1:Nat),
      (x2.2.1=x2.2.1∧x2.2.2.1=x2.2.2.1)∧(Nat.beq x2.1 0=true→Nat.beq x2.1 0=true)∧0=0∧2*x2.1≤2*x2.1∧x2.2.2.2≤x2.2.2.2∧(2*x2.1+2)*1≤140737488355328∧2*x2.1+2≤9223372036854775807∧2≤2∧(b1=b1∧0=0)∧∀ (b2 b3 b4:Nat), 2*x2.1+2≤b4→b4≤9223372036854775807→(Nat.beq x2.1 0=true→2=0→b4=0)→∀ (v8:Int), v8=IntKind.i64.wrap ((↑x2.1:Int)+(1:Int))→∃ (x3:Nat × Nat × Nat × Nat),
      (b2=x3.2.1∧b3=x3.2.2.1∧0=0∧2*x2.1+2=2*x3.1∧b4=x3.2.2.2∧(Nat.beq x2.1 0&&decide (2=0))=Nat.beq x3.1 0)∧v3=(↑(Vt.stAt (Vt.bitsOf l) x3.1):Int)∧v8=(↑x3.1:Int)∧((b2=x3.2.1∧b3=x3.2.2.1∧(Nat.beq x2.1 0&&decide (2=0))=Nat.beq x3.1 0∧2*x3.1≤2*x2.1+2∧2*x3.1≤x3.2.2.2∧x3.2.2.2≤b4)∧∀ (i1:Nat), i1 < 2*x3.1→(if i1 < 2*x2.1 then (↑(Vt.sym (Vt.bitsOf l) i1):Int) else if i1 - 2*x2.1=0 then v6 else v7)=(↑(Vt.sym
      (Vt.bitsOf l) i1):Int))∧(x3.1≤8*List.length l+6∧2*x3.1≤x3.2.2.2∧x3.2.2.2≤9223372036854775807∧(x3.1=0→x3.2.2.2=0))∧8*List.length l+6 - x3.1 < 8*List.length l+6 - x2.1)∧(decide ((↑x2.1:Int) < v2)=false→2*x2.1≤2*x2.1∧(∀ (k1:Nat), k1 < 2*x2.1→true=true)∧(x2.2.1=x2.2.1∧x2.2.2.1=x2.2.2.1)∧∀ (s1:List UInt8), s1=Byt.of (fun (k:Nat) ↦ (↑(Vt.sym (Vt.bitsOf l) k):Int)) (2*x2.1)→s1=Vt.encS l∧(0:Int)=(0:Int)))) (by kernel_rfl) ?_
  try simp only [eq_self, true_and, and_true, Nat.le_refl, implies_true, forall_const, Bool.false_eq_true, Bool.true_eq_false, reduceCtorEq, false_imp_iff, true_imp_iff, Int.toNat_zero, Int.toNat_natCast, Nat.zero_lt_one, Int.le_refl, allGet]
  obtain ⟨hl, _⟩ := hp
  dsimp only at hl
  have hb := bitsOf_lt l
  intro v1 e1
  subst e1
  refine ⟨fun q => absurd (of_decide_eq_true q) (by omega), fun _ => ⟨hl, fun y1 _ => ⟨⟨(0, 0, 0, 0), nil_eqv rfl rfl rfl, rfl, rfl, ⟨rfl, rfl, rfl⟩, Nat.zero_le _, Nat.zero_le _, by decide, fun _ => rfl⟩, ?_⟩⟩⟩
  rintro ⟨i, bb, o, c⟩ ⟨h1, h2, h3, h4⟩ v2 e2
  dsimp only at h1 h2 h3 h4 ⊢
  subst e2
  have hs := stAt_lt hb i
  have hbi := hb i
  refine ⟨fun hlt => ?_, fun hge s1 e => ?_⟩
  · have hlt := of_decide_eq_true hlt
    refine ⟨by omega, by omega, by omega, ⟨by omega, by omega⟩, ⟨by omega, by omega⟩, fun v3 e3 v4 e4 v5 e5 v6 e6 v7 e7 => ⟨fun h => h, by omega, by omega, fun b2 b3 b4 k1 k2 v8 e8 => ?_⟩⟩
    have f1 := fs_le (stAt (bitsOf l) i) (bitsOf l i)
    have f2 := sc_le (stAt (bitsOf l) i) (bitsOf l i)
    have w8 : ∀ n : Nat, n ≤ 1 → IntKind.u8.wrap (n : Int) = (n : Int) := fun n hn => by
      rcases (by omega : n = 0 ∨ n = 1) with rfl | rfl <;> decide
    rw [e4, w8 _ f1] at e6
    rw [e5, w8 _ f2] at e7
    refine ⟨(i + 1, b2, b3, b4), ⟨rfl, rfl, rfl, rfl, Bool.and_false _⟩, e3, e8.trans (l_succ (by omega)), ⟨⟨rfl, rfl, Bool.and_false _, Nat.le_refl _, k1, Nat.le_refl _⟩, fun k hk => ?_⟩, ⟨by dsimp only; omega, k1, k2, fun q => by dsimp only at q; omega⟩, by dsimp only; omega⟩
    dsimp only at hk
    by_cases q : k < 2 * i
    · rw [if_pos q]
    · rw [if_neg q]
      by_cases q2 : k - 2 * i = 0
      · rw [if_pos q2, e6]
        unfold sym
        rw [if_pos (by omega), show k / 2 = i by omega]
      · rw [if_neg q2, e7]
        unfold sym
        rw [if_neg (by omega), show k / 2 = i by omega]
  · have hge := of_decide_eq_false hge
    obtain rfl : i = 8 * l.length + 6 := by omega
    rw [e]
    unfold encS
    rw [if_pos hl, show 2 * (8 * l.length + 6) = 16 * l.length + 12 by omega]
end Vt
namespace Vt
open Go Go.Proofs Eng
set_option linter.unusedVariables false
set_option linter.unusedSimpArgs false
set_option maxHeartbeats 8000000
set_option maxRecDepth 100000
theorem encS_list (m : List UInt8) : Mk.listB (encS m) = true := by
  unfold Mk.listB encS Byt.of
  rw [List.all_map, List.all_eq_true]
  intro k _
  have := sym_le (bitsOf m) k
  show Nat.ble (UInt8.ofNat (((sym (bitsOf m) k : Nat) : Int)).toNat).toNat 1 = true
  rw [Int.toNat_natCast]
  rcases (by omega : sym (bitsOf m) k = 0 ∨ sym (bitsOf m) k = 1) with h | h <;> rw [h] <;> decide
theorem attE_enc (m : List UInt8) : Mk.attE (encS m) = 0 := by
  unfold Mk.attE
  rw [if_pos (encS_list m), if_pos (encS_le m)]
theorem mix_len (b : List UInt8) : (Mk.mixS b).length ≤ b.length := by
  unfold Mk.mixS
  split
  · exact Nat.zero_le _
  · rw [Mk.bytof_len]; exact Nat.le_refl _
theorem mixE_0 {b : List UInt8} (h : b.length ≤ 1000) : Mk.mixE b = 0 := if_neg (by omega)
theorem wB_pos {f : List UInt8} {d : Int} : Galois.wB f d = !posB f.length d := by
  cases h : posB f.length d with
  | true =>
    obtain ⟨a, b, c, e⟩ := posB_iff.1 h
    unfold Galois.wB
    rw [decide_eq_false (by omega), decide_eq_false (by omega), decide_eq_false (by omega), decide_eq_false (by omega)]; rfl
  | false =>
    have : ¬ (1 ≤ d ∧ d ≤ 4 ∧ d ≤ (f.length : Int) ∧ (f.length : Int) ≤ 223 * d) := fun q => by rw [posB_iff.2 q] at h; cases h
    unfold Galois.wB
    by_cases a : d < 1
    · simp [a]
    · by_cases b : 4 < d
      · simp [b]
      · by_cases c : (f.length : Int) < d
        · simp [c]
        · simp only [decide_eq_true (show 223 * d < (f.length : Int) by omega), Bool.or_true]; rfl
noncomputable def sendS (f : List UInt8) (d : Int) : List UInt8 := if posB f.length d then Mk.attL (encS (Mk.mixS (Galois.wrapL f d))) else []
def sendE (f : List UInt8) (d : Int) : Int := if posB f.length d then 0 else 2
theorem sendS_len (f : List UInt8) (d : Int) : (sendS f d).length ≤ 20032 := by
  unfold sendS
  split
  · exact Mk.attL_len _
  · exact Nat.zero_le _
noncomputable def sendC := pcOf aSI (fun _ => []) (fun x => .tup [.str (sendS x.1 x.2.1), .int .i64 (sendE x.1 x.2.1)])
noncomputable def ESX1 : Env := ((((E0.addP 54 Galois.wrap).addP 55 Mk.mix).addP 56 encC).addP 36 Mk.attach).addP 30 possC
theorem ESX1_ok : EnvOk Tryz.prog ESX1 := ((((E0_ok.addP Galois.wrapB_ok).addP Mk.mix_ok).addP enc_ok).addP Mk.attach_ok).addP poss_ok
noncomputable def ESX : Env := (ESX1.inl 53 Tryz.f53 fun _ _ => []).inl 35 Tryz.f35 fun _ _ => rds 3
theorem ESX_ok : EnvOk Tryz.prog ESX := (ESX1_ok.inl _ Tryz.func53 rfl (by kernel_rfl)).inl _ Tryz.func35 rfl (by kernel_rfl)
theorem send_ok : PcOk Tryz.prog 12 sendC := by
  refine pcOf_run (fun _ => ESX_ok) Tryz.func12 rfl (by kernel_rfl) (fun x => ⟨(by have := sendS_len x.1 x.2.1; show (sendS x.1 x.2.1).length ≤ 9223372036854775807; omega), trivial, trivial⟩)
    (fun x => [.unroll 6 5, .raw 5, .raw 6, .raw 7, .raw 12, .det 0]) (fun _ => Nat.le_of_ble_eq_true rfl) (fun ⟨s, d, u⟩ hp hw => ?_)
  refine vc_of (q :=
      ∀ (v1:Int), v1=(↑(List.length s):Int)→∀ (t1:Bool), t1=Vt.posB v1 d→((!t1)=true→[]=Vt.sendS s d∧(2:Int)=Vt.sendE s d)∧((!t1)=false→∀ (v2:Int), v2=(↑(List.length s):Int)→∀ (b1 b2 b3:Nat), (b3=b3∧0=0)∧(b3=b3∧0=0)∧∀ (b4:Nat), (b4=b4∧0=0)∧(b4=b4∧0=0)∧(b4=b4∧0=0)∧(b4=b4∧0=0)∧∀ (b5:Nat), (0:Int)≤(0:Int)∧(0:Int) < (↑(4:Nat):Int)∧(b5=b5∧0=0)∧0 < 4∧(b2=b2∧0=0)∧∀ (s1:List UInt8), s1=Galois.wrapL s d→∀
      (v3:Int), v3=Galois.wrapE s d→∀ (s2:List UInt8), s2=s1→∀ (v4:Int), v4=v3→((v4 != (0:Int))=true→[]=Vt.sendS s d∧v4=Vt.sendE s d)∧((v4 != (0:Int))=false→(0:Int)≤IntKind.i64.wrap ((0:Int)+(1:Int))∧IntKind.i64.wrap ((0:Int)+(1:Int)) < (↑(4:Nat):Int)∧(b5=b5∧0=0)∧1 < 4∧∀ (s3:List UInt8), s3=Mk.mixS s2→∀ (v5:Int), v5=Mk.mixE s2→((v5 != (0:Int))=true→[]=Vt.sendS s d∧v5=Vt.sendE s d)∧((v5 !=
      (0:Int))=false→(0:Int)≤IntKind.i64.wrap (IntKind.i64.wrap ((0:Int)+(1:Int))+(1:Int))∧IntKind.i64.wrap (IntKind.i64.wrap ((0:Int)+(1:Int))+(1:Int)) < (↑(4:Nat):Int)∧(b5=b5∧0=0)∧2 < 4∧List.length s3≤1100∧∀ (s4:List UInt8), s4=Vt.encS s3→∀ (v6:Int), v6=0→((v6 != (0:Int))=true→[]=Vt.sendS s d∧v6=Vt.sendE s d)∧((v6 != (0:Int))=false→(0:Int)≤IntKind.i64.wrap (IntKind.i64.wrap (IntKind.i64.wrap
      ((0:Int)+(1:Int))+(1:Int))+(1:Int))∧IntKind.i64.wrap (IntKind.i64.wrap (IntKind.i64.wrap ((0:Int)+(1:Int))+(1:Int))+(1:Int)) < (↑(4:Nat):Int)∧(b5=b5∧0=0)∧3 < 4∧∀ (s5:List UInt8), s5=Mk.attL s4→∀ (v7:Int), v7=Mk.attE s4→((v7 != (0:Int))=true→[]=Vt.sendS s d∧v7=Vt.sendE s d)∧((v7 != (0:Int))=false→s5=Vt.sendS s d∧(0:Int)=Vt.sendE s d)))))) (by kernel_rfl) ?_
  try simp only [eq_self, true_and, and_true, Nat.le_refl, implies_true, forall_const, Bool.false_eq_true, Bool.true_eq_false, reduceCtorEq, false_imp_iff, true_imp_iff, Int.toNat_zero, Int.toNat_natCast, Nat.zero_lt_one, Int.le_refl, allGet]
  intro v1 h1 t1 ht
  subst h1
  refine ⟨fun q => ?_, fun q v2 h2 => ?_⟩
  · have q : posB s.length d = false := by rw [← ht]; simpa using q
    simp [sendS, sendE, q]
  · have q : posB s.length d = true := by rw [← ht]; simpa using q
    have hw1 : Galois.wrapE s d = 0 := by unfold Galois.wrapE; rw [wB_pos, q]; rfl
    have hl1 := Galois.wrapL_len s d
    have hl2 := mix_len (Galois.wrapL s d)
    refine ⟨by omega, by omega, fun s1 e1 v3 e3 s2 e2 v4 e4 => ?_⟩
    subst e1 e2 e3 e4
    rw [hw1]
    refine ⟨fun h => absurd h (by decide), fun _ => ⟨by decide, by decide, by decide, fun s3 e3 v5 e5 => ?_⟩⟩
    subst e3
    rw [e5, mixE_0 hl1]
    refine ⟨fun h => absurd h (by decide), fun _ => ⟨by decide, by decide, by decide, by omega, fun s4 e4 v6 e6 => ?_⟩⟩
    subst e4 e6
    refine ⟨fun h => absurd h (by decide), fun _ => ⟨by decide, by decide, by decide, fun s5 e5 v7 e7 => ?_⟩⟩
    rw [e7, attE_enc]
    exact ⟨fun h => absurd h (by decide), fun _ => ⟨by rw [e5, sendS, if_pos q], by rw [sendE, if_pos q]⟩⟩
noncomputable def ESR : Env := ((((E0.addP 24 Galois.wrap).addP 25 Mk.mix).addP 26 encC).addP 27 Mk.attach).addP 29 possC
theorem ESR_ok : EnvOk Tryz.prog ESR := ((((E0_ok.addP Galois.wrapR_ok).addP Mk.mixR_ok).addP encR_ok).addP Mk.attachR_ok).addP possR_ok
theorem sendR_ok : PcOk Tryz.prog 13 sendC := by
  refine pcOf_run (fun _ => ESR_ok) Tryz.func13 rfl (by kernel_rfl) (fun x => ⟨(by have := sendS_len x.1 x.2.1; show (sendS x.1 x.2.1).length ≤ 9223372036854775807; omega), trivial, trivial⟩)
    (fun x => []) (fun _ => Nat.le_of_ble_eq_true rfl) (fun ⟨s, d, u⟩ hp hw => ?_)
  refine vc_of (q :=
      ∀ (v1:Int), v1=(↑(List.length s):Int)→∀ (t1:Bool), t1=Vt.posB v1 d→((!t1)=true→[]=Vt.sendS s d∧(2:Int)=Vt.sendE s d)∧((!t1)=false→∀ (s1:List UInt8), s1=Galois.wrapL s d→∀ (v2:Int), v2=Galois.wrapE s d→∀ (s2:List UInt8), s2=Mk.mixS s1→∀ (v3:Int), v3=Mk.mixE s1→List.length s2≤1100∧∀ (s3:List UInt8), s3=Vt.encS s2→∀ (v4:Int), v4=0→∀ (s4:List UInt8), s4=Mk.attL s3→∀ (v5:Int), v5=Mk.attE s3→s4=Vt.sendS
      s d∧v5=Vt.sendE s d)) (by kernel_rfl) ?_
  try simp only [eq_self, true_and, and_true, Nat.le_refl, implies_true, forall_const, Bool.false_eq_true, Bool.true_eq_false, reduceCtorEq, false_imp_iff, true_imp_iff, Int.toNat_zero, Int.toNat_natCast, Nat.zero_lt_one, Int.le_refl, allGet]
  intro v1 h1 t1 ht
  subst h1
  refine ⟨fun q => ?_, fun q s1 e1 v2 e2 s2 e2 v3 e3 => ?_⟩
  · have q : posB s.length d = false := by rw [← ht]; simpa using q
    simp [sendS, sendE, q]
  · have q : posB s.length d = true := by rw [← ht]; simpa using q
    have hl1 := Galois.wrapL_len s d
    have hl2 := mix_len (Galois.wrapL s d)
    subst e1 e2
    refine ⟨by omega, fun s3 e3 v4 e4 s4 e4 v5 e5 => ?_⟩
    subst e3
    rw [e5, attE_enc]
    exact ⟨by rw [e4, sendS, if_pos q], by rw [sendE, if_pos q]⟩
end Vt
