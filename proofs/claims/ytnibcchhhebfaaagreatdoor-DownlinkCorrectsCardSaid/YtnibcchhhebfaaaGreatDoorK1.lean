/-
  OWN WORK. Marker: the register, the sequence.
-/
import Derived.Test.YtnibcchhhebfaaaGreatDoorEngN
import Derived.Test.YtnibcchhhebfaaaGreatDoorTy
namespace Mk
open Go Go.Proofs Eng
set_option linter.unusedVariables false
set_option linter.unusedSimpArgs false
set_option maxRecDepth 100000
set_option maxHeartbeats 4000000

/-! ### the register -/
def stp (r : Nat) : Nat := (2 * r) % 256 + (r / 128 + r / 16 + r / 4 + r) % 2
def reg : Nat → Nat
  | 0 => 255
  | k + 1 => stp (reg k)
theorem stp_lt (r : Nat) : stp r < 256 := by unfold stp; omega
theorem reg_lt (k : Nat) : reg k < 256 := by
  cases k with
  | zero => decide
  | succ k => exact stp_lt _
def allB (p : Nat → Bool) : Nat → Bool
  | 0 => true
  | n + 1 => p n && allB p n
theorem allB_true {p : Nat → Bool} : ∀ {n : Nat}, allB p n = true → ∀ i, i < n → p i = true
  | n + 1, h, i, hi => by
    simp only [allB, Bool.and_eq_true] at h
    by_cases e : i = n
    · rw [e]; exact h.1
    · exact allB_true h.2 i (by omega)
/-- The sequence. -/
def seqF (k : Nat) : Int := (reg (8 * k) : Nat)
def seqL (n : Nat) : List UInt8 := Byt.of seqF n
abbrev aInt : ArgL (Int × Unit) := .cons (.elt (.int .i64)) .nil
def seqS (n : Int) : List UInt8 := if n < 0 ∨ n > 65536 then [] else seqL n.toNat
def seqE (n : Int) : Int := if n < 0 ∨ n > 65536 then 2 else 0
def sequ := pcOf aInt (fun x => []) (fun x => .tup [.str (seqS x.1), .int .i64 (seqE x.1)])
theorem bytof_len (f : Nat → Int) (n : Nat) : (Byt.of f n).length = n := by simp [Byt.of]
theorem seqS_len (n : Int) : (seqS n).length ≤ 65536 := by
  unfold seqS
  split
  · exact Nat.zero_le _
  · unfold seqL; rw [bytof_len]; omega
def E0 : Env := .base tenv
theorem E0_ok : EnvOk Tryz.prog E0 := .base (by kernel_rfl) tenv_ok
theorem step_r {a : Nat} (h : a < 256) : IntKind.u8.wrap ((BitVec.ofInt IntKind.u8.bits (IntKind.u8.wrap ((a : Int) * 2 ^ Min.min (Int.toNat 1) IntKind.u8.bits)) ||| BitVec.ofInt IntKind.u8.bits (IntKind.u8.wrap ((BitVec.ofInt IntKind.u8.bits (IntKind.u8.wrap ((BitVec.ofInt IntKind.u8.bits (IntKind.u8.wrap ((BitVec.ofInt IntKind.u8.bits (IntKind.u8.wrap ((BitVec.ofInt IntKind.u8.bits (Int.fdiv a (2 ^ Min.min (Int.toNat 7) IntKind.u8.bits)) ^^^ BitVec.ofInt IntKind.u8.bits (Int.fdiv a (2 ^ Min.min (Int.toNat 4) IntKind.u8.bits))).toNat : Int)) ^^^ BitVec.ofInt IntKind.u8.bits (Int.fdiv a (2 ^ Min.min (Int.toNat 2) IntKind.u8.bits))).toNat : Int)) ^^^ BitVec.ofInt IntKind.u8.bits (a : Int)).toNat : Int)) &&& BitVec.ofInt IntKind.u8.bits 1).toNat : Int))).toNat : Int) = (stp a : Nat) := by
  have : allB (fun a => decide (IntKind.u8.wrap ((BitVec.ofInt IntKind.u8.bits (IntKind.u8.wrap ((a : Int) * 2 ^ Min.min (Int.toNat 1) IntKind.u8.bits)) ||| BitVec.ofInt IntKind.u8.bits (IntKind.u8.wrap ((BitVec.ofInt IntKind.u8.bits (IntKind.u8.wrap ((BitVec.ofInt IntKind.u8.bits (IntKind.u8.wrap ((BitVec.ofInt IntKind.u8.bits (IntKind.u8.wrap ((BitVec.ofInt IntKind.u8.bits (Int.fdiv a (2 ^ Min.min (Int.toNat 7) IntKind.u8.bits)) ^^^ BitVec.ofInt IntKind.u8.bits (Int.fdiv a (2 ^ Min.min (Int.toNat 4) IntKind.u8.bits))).toNat : Int)) ^^^ BitVec.ofInt IntKind.u8.bits (Int.fdiv a (2 ^ Min.min (Int.toNat 2) IntKind.u8.bits))).toNat : Int)) ^^^ BitVec.ofInt IntKind.u8.bits (a : Int)).toNat : Int)) &&& BitVec.ofInt IntKind.u8.bits 1).toNat : Int))).toNat : Int) = (stp a : Nat))) 256 = true := by kernel_rfl
  exact of_decide_eq_true (allB_true this a h)
theorem bytof_congr {f g : Nat → Int} {n : Nat} (h : ∀ k, k < n → f k = g k) : Byt.of f n = Byt.of g n := by
  unfold Byt.of
  apply List.map_congr_left
  intro k hk
  rw [h k (List.mem_range.1 hk)]
theorem seq_t {n : Int} {t1 : Bool} (h : t1 = if decide (n < 0) = true then true else decide (n > 65536)) : (t1 = true → n < 0 ∨ n > 65536) ∧ (t1 = false → 0 ≤ n ∧ n ≤ 65536) := by
  by_cases h1 : n < 0
  · rw [if_pos (decide_eq_true h1)] at h
    exact ⟨fun _ => .inl h1, fun q => by rw [h] at q; cases q⟩
  · rw [if_neg (by simpa using h1)] at h
    exact ⟨fun q => .inr (of_decide_eq_true (h.symm.trans q)), fun q => by have := of_decide_eq_false (h.symm.trans q); omega⟩
theorem sequ_ok : PcOk Tryz.prog 81 sequ := by
  refine pcOf_run (fun _ => E0_ok) Tryz.func81 rfl (by kernel_rfl) (fun x => ⟨by have := seqS_len x.1; show (seqS x.1).length ≤ _; omega, trivial, trivial⟩)
    (fun x => [.loop ⟨6, Nat × Nat, [4, 5, 17], fun y => [.int .u8 (reg (8 * y.1) : Nat), .slice 0 y.2 0 [] 1 0 x.1.toNat x.1.toNat false, .int .i64 (y.1 : Nat)], [0], fun y => [⟨0, y.2, 0, 1, x.1.toNat, fun k => .int .u8 ((if k < y.1 then reg (8 * k) else 0 : Nat) : Int), true, false, x.1.toNat, 5, false, none⟩], fun y => y.1 ≤ x.1.toNat, fun y => x.1.toNat - y.1⟩,
      .nest ⟨10, Nat × Nat, [4, 17, 24], fun y => [.int .u8 (reg (8 * y.1 + y.2) : Nat), .int .i64 (y.1 : Nat), .int .i64 (y.2 : Nat)], [], fun _ => [], fun y => y.2 ≤ 8, fun y => 8 - y.2⟩]) (fun _ => Nat.le_of_ble_eq_true rfl) (fun ⟨n, ()⟩ hp _ => ?_)
  refine vc_of (q :=
      ∀ (t1:Bool), (t1=if decide (n < (0:Int))=true then true else decide (n > (65536:Int)))→(t1=true→[]=Mk.seqS n∧(2:Int)=Mk.seqE n)∧(t1=false→(0:Int)≤n∧n≤n∧n*(↑(1:Nat):Int)≤(140737488355328:Int)∧n≤(9223372036854775807:Int)∧∀ (b1:Nat) (v1:Int), v1=(↑(Int.toNat n):Int)→(∃ (x1:Nat × Nat), (255:Int)=(↑(Mk.reg (8*x1.1)):Int)∧(b1=x1.2∧0=0∧0=0∧Int.toNat n=Int.toNat n∧Int.toNat n=Int.toNat
      n∧false=false)∧(0:Int)=(↑x1.1:Int)∧((b1=x1.2∧0=0∧false=false∧Int.toNat n≤Int.toNat n∧Int.toNat n≤Int.toNat n∧Int.toNat n≤Int.toNat n)∧∀ (i1:Nat), i1 < Int.toNat n→(0:Int)=(↑(if i1 < x1.1 then Mk.reg (8*i1) else 0):Int))∧Nat.le x1.1 (Int.toNat n))∧∀ (x2:Nat × Nat), x2.1≤Int.toNat n→(decide ((↑x2.1:Int) < v1)=true→(0:Int)≤(↑x2.1:Int)∧(↑x2.1:Int) < (↑(Int.toNat n):Int)∧(x2.2=x2.2∧0=0)∧Int.toNat
      (↑x2.1:Int) < Int.toNat n∧(∃ (x3:Nat × Nat), (↑(Mk.reg (8*x2.1)):Int)=(↑(Mk.reg (8*x3.1+x3.2)):Int)∧(↑x2.1:Int)=(↑x3.1:Int)∧(0:Int)=(↑x3.2:Int)∧Nat.le x3.2 8)∧∀ (x4:Nat × Nat), x4.2≤8→(↑x2.1:Int)=(↑x4.1:Int)→(decide ((↑x4.2:Int) < (8:Int))=true→(0:Int)≤(1:Int)∧∀ (v2:Int), v2=IntKind.u8.wrap ((↑(Mk.reg (8*x4.1+x4.2)):Int)*(2:Int) ^ Min.min (Int.toNat (1:Int)) (IntKind.u8.bits))→(0:Int)≤(7:Int)∧∀
      (v3:Int), v3=Int.fdiv (↑(Mk.reg (8*x4.1+x4.2)):Int) ((2:Int) ^ Min.min (Int.toNat (7:Int)) (IntKind.u8.bits))→(0:Int)≤(4:Int)∧∀ (v4:Int), v4=Int.fdiv (↑(Mk.reg (8*x4.1+x4.2)):Int) ((2:Int) ^ Min.min (Int.toNat (4:Int)) (IntKind.u8.bits))→∀ (v5:Int), v5=IntKind.u8.wrap (↑(BitVec.toNat (BitVec.ofInt (IntKind.u8.bits) v3 ^^^ BitVec.ofInt (IntKind.u8.bits) v4)):Int)→(0:Int)≤(2:Int)∧∀ (v6:Int),
      v6=Int.fdiv (↑(Mk.reg (8*x4.1+x4.2)):Int) ((2:Int) ^ Min.min (Int.toNat (2:Int)) (IntKind.u8.bits))→∀ (v7:Int), v7=IntKind.u8.wrap (↑(BitVec.toNat (BitVec.ofInt (IntKind.u8.bits) v5 ^^^ BitVec.ofInt (IntKind.u8.bits) v6)):Int)→∀ (v8:Int), v8=IntKind.u8.wrap (↑(BitVec.toNat (BitVec.ofInt (IntKind.u8.bits) v7 ^^^ BitVec.ofInt (IntKind.u8.bits) (↑(Mk.reg (8*x4.1+x4.2)):Int))):Int)→∀ (v9:Int),
      v9=IntKind.u8.wrap (↑(BitVec.toNat (BitVec.ofInt (IntKind.u8.bits) v8 &&& BitVec.ofInt (IntKind.u8.bits) (1:Int))):Int)→∀ (v10:Int), v10=IntKind.u8.wrap (↑(BitVec.toNat (BitVec.ofInt (IntKind.u8.bits) v2 ||| BitVec.ofInt (IntKind.u8.bits) v9)):Int)→∀ (v11:Int), v11=IntKind.i64.wrap ((↑x4.2:Int)+(1:Int))→∃ (x5:Nat × Nat), v10=(↑(Mk.reg
      (8*x5.1+x5.2)):Int)∧(↑x4.1:Int)=(↑x5.1:Int)∧v11=(↑x5.2:Int)∧x5.2≤8∧8 - x5.2 < 8 - x4.2)∧(decide ((↑x4.2:Int) < (8:Int))=false→∀ (v3:Int), v3=IntKind.i64.wrap ((↑x4.1:Int)+(1:Int))→∃ (x5:Nat × Nat), (↑(Mk.reg (8*x4.1+x4.2)):Int)=(↑(Mk.reg (8*x5.1)):Int)∧(x2.2=x5.2∧0=0∧0=0∧Int.toNat n=Int.toNat n∧Int.toNat n=Int.toNat n∧false=false)∧v3=(↑x5.1:Int)∧((x2.2=x5.2∧0=0∧false=false∧Int.toNat n≤Int.toNat
      n∧Int.toNat n≤Int.toNat n∧Int.toNat n≤Int.toNat n)∧∀ (i2:Nat), i2 < Int.toNat n→(if i2=Int.toNat (↑x2.1:Int) then (↑(Mk.reg (8*x2.1)):Int) else (↑(if i2 < x2.1 then Mk.reg (8*i2) else 0):Int))=(↑(if i2 < x5.1 then Mk.reg (8*i2) else 0):Int))∧x5.1≤Int.toNat n∧Int.toNat n - x5.1 < Int.toNat n - x2.1))∧(decide ((↑x2.1:Int) < v1)=false→Int.toNat n≤Int.toNat n∧(∀ (k1:Nat), k1 < Int.toNat
      n→true=true)∧(x2.2=x2.2∧0=0)∧∀ (s1:List UInt8), s1=Byt.of (fun (k:Nat) ↦ (↑(if k < x2.1 then Mk.reg (8*k) else 0):Int)) (Int.toNat n)→s1=Mk.seqS n∧(0:Int)=Mk.seqE n))) (by kernel_rfl) ?_
  try simp only [eq_self, true_and, and_true, Nat.le_refl, implies_true, forall_const, Bool.false_eq_true, Bool.true_eq_false, reduceCtorEq, false_imp_iff, true_imp_iff, Int.toNat_zero, Int.toNat_natCast, Nat.zero_lt_one, Int.le_refl, allGet]
  intro t1 ht1
  have ht := seq_t ht1
  refine ⟨fun h => ?_, fun h => ?_⟩
  · have h := ht.1 h
    exact ⟨by rw [seqS, if_pos h], by rw [seqE, if_pos h]⟩
  · have hn := ht.2 h
    have hnn : ¬ (n < 0 ∨ n > 65536) := by omega
    refine ⟨by omega, by omega, by omega, fun b1 v1 hv1 => ⟨⟨(0, b1), rfl, rfl, rfl, ⟨rfl, fun i hi => by simp⟩, Nat.zero_le _⟩, ?_⟩⟩
    rintro ⟨i, b⟩ hi
    dsimp only at hi ⊢
    refine ⟨fun hlt => ?_, fun hge s1 hs1 => ?_⟩
    · have hlt := of_decide_eq_true hlt
      refine ⟨by omega, by omega, by omega, ⟨(i, 0), rfl, rfl, rfl, Nat.zero_le _⟩, ?_⟩
      rintro ⟨i', j⟩ hj e
      dsimp only at hj e ⊢
      obtain rfl : i = i' := by omega
      refine ⟨fun hl2 => ⟨by decide, fun v2 h2 => ⟨by decide, fun v3 h3 => ⟨by decide, fun v4 h4 v5 h5 => ⟨by decide, fun v6 h6 v7 h7 v8 h8 v9 h9 v10 h10 v11 h11 => ?_⟩⟩⟩⟩, fun hg2 v3 h3 => ?_⟩
      · have hl2 := of_decide_eq_true hl2
        subst h2 h3 h4 h5 h6 h7 h8 h9
        exact ⟨(i, j + 1), h10.trans (step_r (reg_lt _)), rfl, h11.trans (l_succ (by omega)), by show j + 1 ≤ 8; omega, by show 8 - (j + 1) < 8 - j; omega⟩
      · have hg2 := of_decide_eq_false hg2
        obtain rfl : j = 8 := by omega
        refine ⟨(i + 1, b), rfl, rfl, h3.trans (l_succ (by omega)), ⟨rfl, fun k hk => ?_⟩, by show i + 1 ≤ _; omega, by show _ - (i + 1) < _ - i; omega⟩
        by_cases e1 : k = i
        · subst e1; rw [if_pos rfl, if_pos (Nat.lt_succ_self _)]
        · rw [if_neg e1]
          by_cases e2 : k < i
          · rw [if_pos e2, if_pos (by omega)]
          · rw [if_neg e2, if_neg (by omega)]
    · have hge := of_decide_eq_false hge
      obtain rfl : i = n.toNat := by omega
      refine ⟨?_, by rw [seqE, if_neg hnn]⟩
      rw [hs1, seqS, if_neg hnn, seqL]
      exact bytof_congr fun k hk => by rw [if_pos hk]; rfl
theorem bv_nat {n w : Nat} (h : n < 2 ^ w) : (BitVec.ofInt w (n : Int)).toNat = n := by
  simp [BitVec.toNat_ofInt]
  exact_mod_cast Nat.mod_eq_of_lt h
theorem u8_id {x : Int} (h1 : 0 ≤ x) (h2 : x ≤ 255) : IntKind.u8.wrap x = x := by
  rw [IntKind.wrap_u8]; omega
theorem u8_nat {n : Nat} (h : n < 256) : IntKind.u8.wrap (n : Int) = n := u8_id (by omega) (by omega)
theorem xor_lt {a b : Nat} (ha : a < 256) (hb : b < 256) : Nat.xor a b < 256 := Nat.xor_lt_two_pow (n := 8) ha hb
theorem xor8 {a b : Nat} (ha : a < 256) (hb : b < 256) : IntKind.u8.wrap ((BitVec.ofInt IntKind.u8.bits (a : Int) ^^^ BitVec.ofInt IntKind.u8.bits (b : Int)).toNat : Int) = ((Nat.xor a b : Nat) : Int) := by
  rw [BitVec.toNat_xor, show IntKind.u8.bits = 8 from rfl, bv_nat (w := 8) ha, bv_nat (w := 8) hb]
  exact u8_nat (xor_lt ha hb)
end Mk
