/-
  OWN WORK. The convolutional code: parity, Step, Symbols.
-/
import Derived.Test.YtnibcchhhebfaaaGreatDoorEngN
import Derived.Test.YtnibcchhhebfaaaGreatDoorTy
import Derived.Test.YtnibcchhhebfaaaGreatDoorQM
namespace Vt
open Go Go.Proofs Eng
set_option linter.unusedVariables false
set_option linter.unusedSimpArgs false
set_option maxRecDepth 100000
def E0 : Env := .base tenv
theorem E0_ok : EnvOk Tryz.prog E0 := .base (by kernel_rfl) tenv_ok
def allB (p : Nat → Bool) : Nat → Bool
  | 0 => true
  | n + 1 => p n && allB p n
theorem allB_true {p : Nat → Bool} : ∀ {n : Nat}, allB p n = true → ∀ i, i < n → p i = true
  | 0, _, i, hi => by omega
  | n + 1, h, i, hi => by
    have h : (p n && allB p n) = true := h
    rw [Bool.and_eq_true] at h
    rcases Nat.lt_or_ge i n with q | q
    · exact allB_true h.2 i q
    · obtain rfl : i = n := by omega
      exact h.1
def i64and (a b : Int) : Int := IntKind.i64.wrap ((BitVec.ofInt IntKind.i64.bits a &&& BitVec.ofInt IntKind.i64.bits b).toNat : Int)
def parOk (n : Nat) : Bool := decide (n = 0) || (decide (i64and n (IntKind.i64.wrap ((n : Int) - 1)) = ((Nat.land n (n - 1) : Nat) : Int)) && decide (Nat.land n (n - 1) < n) && decide (par n + par (Nat.land n (n - 1)) = 1))
theorem par_all : allB parOk 128 = true := by decide +kernel
theorem xor_one {k : Nat} (h : k ≤ 1) : IntKind.i64.wrap ((BitVec.ofInt IntKind.i64.bits (k : Int) ^^^ BitVec.ofInt IntKind.i64.bits 1).toNat : Int) = ((1 - k : Nat) : Int) := by
  rcases (by omega : k = 0 ∨ k = 1) with rfl | rfl <;> decide
theorem one_xor {k : Nat} (h : k ≤ 1) : IntKind.i64.wrap ((BitVec.ofInt IntKind.i64.bits 1 ^^^ BitVec.ofInt IntKind.i64.bits (k : Int)).toNat : Int) = ((1 - k : Nat) : Int) := by
  rcases (by omega : k = 0 ∨ k = 1) with rfl | rfl <;> decide
abbrev aI : ArgL (Int × Unit) := .cons (.elt (.int .i64)) .nil
def parC := pcOf aI (fun x => [0 ≤ x.1 ∧ x.1 < 128]) (fun x => .int .i64 (par x.1.toNat : Nat))
theorem par_ok : PcOk Tryz.prog 146 parC := by
  refine pcOf_run (fun _ => E0_ok) Tryz.func146 rfl (by kernel_rfl) (fun _ => trivial)
    (fun x => [.lp 2 (Nat × Nat) [0, 3] (fun y => [.int .i64 (y.1 : Nat), .int .i64 (y.2 : Nat)]) (fun y => y.1 < 128 ∧ y.2 ≤ 1 ∧ (y.2 + par y.1) % 2 = par x.1.toNat) (fun y => y.1)]) (fun _ => Nat.le_of_ble_eq_true rfl) (fun ⟨n, ()⟩ hp hw => ?_)
  refine vc_of (q :=
      (∃ (x1:Nat × Nat), n=(↑x1.1:Int)∧(0:Int)=(↑x1.2:Int)∧x1.1 < 128∧x1.2≤1∧(x1.2+Vt.par x1.1) % 2=Vt.par (Int.toNat n))∧∀ (x2:Nat × Nat), x2.1 < 128∧x2.2≤1∧(x2.2+Vt.par x2.1) % 2=Vt.par (Int.toNat n)→(((↑x2.1:Int) != (0:Int))=true→∀ (v1:Int), v1=IntKind.i64.wrap (↑(BitVec.toNat (BitVec.ofInt (IntKind.i64.bits) (↑x2.2:Int) ^^^ BitVec.ofInt (IntKind.i64.bits) (1:Int))):Int)→∀ (v2:Int),
      v2=IntKind.i64.wrap ((↑x2.1:Int) - (1:Int))→∀ (v3:Int), v3=IntKind.i64.wrap (↑(BitVec.toNat (BitVec.ofInt (IntKind.i64.bits) (↑x2.1:Int) &&& BitVec.ofInt (IntKind.i64.bits) v2)):Int)→∃ (x3:Nat × Nat), v3=(↑x3.1:Int)∧v1=(↑x3.2:Int)∧(x3.1 < 128∧x3.2≤1∧(x3.2+Vt.par x3.1) % 2=Vt.par (Int.toNat n))∧x3.1 < x2.1)∧(((↑x2.1:Int) != (0:Int))=false→(↑x2.2:Int)=(↑(Vt.par (Int.toNat n)):Int))) (by kernel_rfl) ?_
  obtain ⟨⟨n0, n1⟩, _⟩ := hp
  dsimp only at n0 n1
  refine ⟨⟨(n.toNat, 0), by dsimp only; omega, rfl, by dsimp only; omega, Nat.zero_le _, ?_⟩, ?_⟩
  · have := par_le n.toNat
    dsimp only
    omega
  rintro ⟨m, k⟩ ⟨h1, h2, h3⟩
  dsimp only at h1 h2 h3 ⊢
  refine ⟨fun hm v1 e1 v2 e2 v3 e3 => ?_, fun hm => ?_⟩
  · have hm : m ≠ 0 := by simpa using hm
    have h := allB_true par_all m h1
    simp only [parOk, decide_eq_false hm, Bool.false_or, Bool.and_eq_true, decide_eq_true_eq] at h
    obtain ⟨⟨p1, p2⟩, p3⟩ := h
    have := par_le m
    refine ⟨(Nat.land m (m - 1), 1 - k), by rw [e3, e2]; exact p1, e1.trans (xor_one h2), ⟨by dsimp only; omega, by dsimp only; omega, by dsimp only; omega⟩, p2⟩
  · have hm : m = 0 := by simpa using hm
    subst hm
    have : par 0 = 0 := rfl
    have := par_le n.toNat
    omega
def stepOk (i : Nat) : Bool :=
  decide (IntKind.i64.wrap ((BitVec.ofInt IntKind.i64.bits ((i / 64 : Nat) : Int) &&& ~~~ BitVec.ofInt IntKind.i64.bits 1).toNat : Int) = 0) &&
  decide (IntKind.i64.wrap ((BitVec.ofInt IntKind.i64.bits (IntKind.i64.wrap (((i / 64 : Nat) : Int) * 64)) ||| BitVec.ofInt IntKind.i64.bits ((i % 64 : Nat) : Int)).toNat : Int) = ((reg (i % 64) (i / 64) : Nat) : Int)) &&
  decide (i64and (reg (i % 64) (i / 64) : Nat) 121 = ((Nat.land (reg (i % 64) (i / 64)) 121 : Nat) : Int)) && decide (i64and (reg (i % 64) (i / 64) : Nat) 91 = ((Nat.land (reg (i % 64) (i / 64)) 91 : Nat) : Int)) &&
  decide (Nat.land (reg (i % 64) (i / 64)) 121 < 128) && decide (Nat.land (reg (i % 64) (i / 64)) 91 < 128)
theorem step_all : allB stepOk 128 = true := by decide +kernel
abbrev aII : ArgL (Int × Int × Unit) := .cons (.elt (.int .i64)) (.cons (.elt (.int .i64)) .nil)
def stepC := pcOf aII (fun x => [0 ≤ x.1 ∧ x.1 < 64, 0 ≤ x.2.1 ∧ x.2.1 < 2]) (fun x => .tup [.int .i64 (nxt x.1.toNat x.2.1.toNat : Nat), .int .i64 (fs x.1.toNat x.2.1.toNat : Nat), .int .i64 (sc x.1.toNat x.2.1.toNat : Nat)])
def EST : Env := E0.addP 146 parC
theorem EST_ok : EnvOk Tryz.prog EST := E0_ok.addP par_ok
theorem step_ok : PcOk Tryz.prog 115 stepC := by
  refine pcOf_run (fun _ => EST_ok) Tryz.func115 rfl (by kernel_rfl) (fun _ => ⟨trivial, trivial, trivial, trivial⟩)
    (fun x => []) (fun _ => Nat.le_of_ble_eq_true rfl) (fun ⟨s, b, ()⟩ hp hw => ?_)
  refine vc_of (q :=
      ∀ (t1:Bool), (t1=if decide (s < (0:Int))=true then true else decide (s≥(64:Int)))→∀ (v1:Int), v1=IntKind.i64.wrap (↑(BitVec.toNat (BitVec.ofInt (IntKind.i64.bits) b &&& ~~~BitVec.ofInt (IntKind.i64.bits) (1:Int))):Int)→∀ (t2:Bool), (t2=if t1=true then true else v1 != (0:Int))→(t2=true→(0:Int)=(↑(Vt.nxt (Int.toNat s) (Int.toNat b)):Int)∧(0:Int)=(↑(Vt.fs (Int.toNat s) (Int.toNat
      b)):Int)∧(0:Int)=(↑(Vt.sc (Int.toNat s) (Int.toNat b)):Int))∧(t2=false→∀ (v2:Int), v2=IntKind.i64.wrap (b*(64:Int))→∀ (v3:Int), v3=IntKind.i64.wrap (↑(BitVec.toNat (BitVec.ofInt (IntKind.i64.bits) v2 ||| BitVec.ofInt (IntKind.i64.bits) s)):Int)→(0:Int)≤(1:Int)∧∀ (v4:Int), v4=Int.fdiv v3 ((2:Int) ^ Min.min (Int.toNat (1:Int)) (IntKind.i64.bits))→∀ (v5:Int), v5=IntKind.i64.wrap (↑(BitVec.toNat
      (BitVec.ofInt (IntKind.i64.bits) v3 &&& BitVec.ofInt (IntKind.i64.bits) (121:Int))):Int)→(0≤v5∧v5 < 128)∧∀ (v6:Int), v6=(↑(Vt.par (Int.toNat v5)):Int)→∀ (v7:Int), v7=IntKind.i64.wrap (↑(BitVec.toNat (BitVec.ofInt (IntKind.i64.bits) v3 &&& BitVec.ofInt (IntKind.i64.bits) (91:Int))):Int)→(0≤v7∧v7 < 128)∧∀ (v8:Int), v8=(↑(Vt.par (Int.toNat v7)):Int)→∀ (v9:Int), v9=IntKind.i64.wrap (↑(BitVec.toNat
      (BitVec.ofInt (IntKind.i64.bits) (1:Int) ^^^ BitVec.ofInt (IntKind.i64.bits) v8)):Int)→v4=(↑(Vt.nxt (Int.toNat s) (Int.toNat b)):Int)∧v6=(↑(Vt.fs (Int.toNat s) (Int.toNat b)):Int)∧v9=(↑(Vt.sc (Int.toNat s) (Int.toNat b)):Int))) (by kernel_rfl) ?_
  obtain ⟨⟨s0, s1⟩, ⟨b0, b1⟩, _⟩ := hp
  dsimp only at s0 s1 b0 b1
  obtain ⟨s, rfl⟩ : ∃ k : Nat, s = k := ⟨s.toNat, by omega⟩
  obtain ⟨b, rfl⟩ : ∃ k : Nat, b = k := ⟨b.toNat, by omega⟩
  have h := allB_true step_all (64 * b + s) (by omega)
  simp only [stepOk, show (64 * b + s) / 64 = b by omega, show (64 * b + s) % 64 = s by omega, Bool.and_eq_true, decide_eq_true_eq] at h
  obtain ⟨⟨⟨⟨⟨p1, p2⟩, p3⟩, p4⟩, p5⟩, p6⟩ := h
  simp only [Int.toNat_natCast]
  intro t1 f1 v1 e1 t2 f2
  have ht : t2 = false := by
    have q1 : t1 = false := by rw [f1, if_neg (by simp), decide_eq_false (by omega)]
    rw [f2, q1, if_neg (by decide), e1, p1]; rfl
  subst ht
  refine ⟨fun q => (by cases q), fun _ v2 e2 v3 e3 => ?_⟩
  have e3 : v3 = ((reg s b : Nat) : Int) := by rw [e3, e2]; exact p2
  subst e3
  refine ⟨by decide, fun v4 e4 v5 e5 => ?_⟩
  have e5 : v5 = _ := e5.trans p3
  subst e5
  refine ⟨⟨by omega, by exact_mod_cast p5⟩, fun v6 e6 v7 e7 => ?_⟩
  have e7 : v7 = _ := e7.trans p4
  subst e7
  refine ⟨⟨by omega, by exact_mod_cast p6⟩, fun v8 e8 v9 e9 => ⟨?_, ?_, ?_⟩⟩
  · rw [e4]
    show Int.fdiv ((reg s b : Nat) : Int) 2 = _
    rw [Int.fdiv_eq_ediv_of_nonneg _ (by decide)]
    rfl
  · rw [e6, Int.toNat_natCast]; rfl
  · rw [e9, e8, Int.toNat_natCast]
    exact one_xor (par_le _)
def symsC := pcOf aI (fun _ => []) (fun x => .int .i64 (if x.1 < 0 ∨ x.1 > 1100 then 0 else 16 * x.1 + 12))
theorem syms_ok : PcOk Tryz.prog 32 symsC := by
  refine pcOf_run (fun _ => E0_ok) Tryz.func32 rfl (by kernel_rfl) (fun _ => trivial)
    (fun x => []) (fun _ => Nat.le_of_ble_eq_true rfl) (fun ⟨n, ()⟩ hp hw => ?_)
  refine vc_of (q :=
      ∀ (t1:Bool), (t1=if decide (n < (0:Int))=true then true else decide (n > (1100:Int)))→(t1=true→(0:Int)=if n < (0:Int)∨n > (1100:Int) then (0:Int) else (16:Int)*n+(12:Int))∧(t1=false→∀ (v1:Int), v1=IntKind.i64.wrap ((8:Int)*n)→∀ (v2:Int), v2=IntKind.i64.wrap (v1+(6:Int))→∀ (v3:Int), v3=IntKind.i64.wrap ((2:Int)*v2)→v3=if n < (0:Int)∨n > (1100:Int) then (0:Int) else (16:Int)*n+(12:Int))) (by kernel_rfl) ?_
  intro t1 f1
  refine ⟨fun q => ?_, fun q v1 e1 v2 e2 v3 e3 => ?_⟩
  · rw [if_pos]
    rw [f1] at q
    split at q
    · rename_i h; exact .inl (of_decide_eq_true h)
    · exact .inr (of_decide_eq_true q)
  · rw [f1] at q
    split at q
    · cases q
    · rename_i h
      have h := of_decide_eq_false (by simpa using h : decide (n < 0) = false)
      have := of_decide_eq_false q
      rw [if_neg (by omega), e3, e2, e1, w64_id (x := 8 * n) (by omega) (by omega), w64_id (x := 8 * n + 6) (by omega) (by omega), w64_id (by omega) (by omega)]
      omega
end Vt
