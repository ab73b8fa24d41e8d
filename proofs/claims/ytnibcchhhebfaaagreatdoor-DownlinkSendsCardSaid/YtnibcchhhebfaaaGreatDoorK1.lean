/-
  OWN WORK. Marker: the register, the sequence.
-/
import Derived.Test.YtnibcchhhebfaaaGreatDoorEngN
import Derived.Test.YtnibcchhhebfaaaGreatDoorTy
namespace Mk
open Go Go.Proofs Eng
set_option linter.unusedVariables false
set_option linter.unusedSimpArgs false
set_option maxRecDepth 100000
set_option maxHeartbeats 4000000

/-! ### the register -/
def stp (r : Nat) : Nat := (2 * r) % 256 + (r / 128 + r / 16 + r / 4 + r) % 2
def reg : Nat → Nat
  | 0 => 255
  | k + 1 => stp (reg k)
theorem stp_lt (r : Nat) : stp r < 256 := by unfold stp; omega
theorem reg_lt (k : Nat) : reg k < 256 := by
  cases k with
  | zero => decide
  | succ k => exact stp_lt _
def allB (p : Nat → Bool) : Nat → Bool
  | 0 => true
  | n + 1 => p n && allB p n
theorem allB_true {p : Nat → Bool} : ∀ {n : Nat}, allB p n = true → ∀ i, i < n → p i = true
  | n + 1, h, i, hi => by
    simp only [allB, Bool.and_eq_true] at h
    by_cases e : i = n
    · rw [e]; exact h.1
    · exact allB_true h.2 i (by omega)
def bitS (k : Nat) : Nat := reg k / 128
def stpN : Nat → Nat → Nat
  | 0, r => r
  | j + 1, r => stp (stpN j r)
theorem reg_add (k : Nat) : ∀ j, reg (k + j) = stpN j (reg k)
  | 0 => rfl
  | j + 1 => by show stp (reg (k + j)) = stp (stpN j (reg k)); rw [reg_add k j]
theorem bits_r : ∀ r, r < 256 → ∀ j, j < 8 → stpN j r / 128 = r / 2 ^ (7 - j) % 2 := by
  have h : allB (fun r => allB (fun j => Nat.beq (stpN j r / 128) (r / 2 ^ (7 - j) % 2)) 8) 256 = true := by kernel_rfl
  intro r hr j hj
  exact Nat.eq_of_beq_eq_true (allB_true (allB_true h r hr) j hj)
theorem bitS_at (k j : Nat) (hj : j < 8) : bitS (k + j) = reg k / 2 ^ (7 - j) % 2 := by
  rw [bitS, reg_add]; exact bits_r _ (reg_lt k) j hj
theorem bitS_lt (k : Nat) : bitS k < 2 := by have := reg_lt k; unfold bitS; omega
theorem bit_first (k : Nat) (hk : k < 8) : bitS k = 1 := by
  have h : allB (fun k => Nat.beq (bitS k) 1) 8 = true := by kernel_rfl
  exact Nat.eq_of_beq_eq_true (allB_true h k hk)
theorem new_bit (k : Nat) : bitS (k + 8) = Nat.xor (Nat.xor (Nat.xor (bitS (k + 7)) (bitS (k + 5))) (bitS (k + 3))) (bitS k) := by
  have h : allB (fun r => Nat.beq (stpN 8 r / 128) (Nat.xor (Nat.xor (Nat.xor (stpN 7 r / 128) (stpN 5 r / 128)) (stpN 3 r / 128)) (r / 128))) 256 = true := by kernel_rfl
  have := Nat.eq_of_beq_eq_true (allB_true h _ (reg_lt k))
  simp only [bitS, reg_add]
  exact this
/-- The sequence. -/
def seqF (k : Nat) : Int := (reg (8 * k) : Nat)
def seqL (n : Nat) : List UInt8 := Byt.of seqF n
abbrev aInt : ArgL (Int × Unit) := .cons (.elt (.int .i64)) .nil
def seqS (n : Int) : List UInt8 := if n < 0 ∨ n > 65536 then [] else seqL n.toNat
def seqE (n : Int) : Int := if n < 0 ∨ n > 65536 then 2 else 0
def sequ := pcOf aInt (fun x => []) (fun x => .tup [.str (seqS x.1), .int .i64 (seqE x.1)])
theorem bytof_len (f : Nat → Int) (n : Nat) : (Byt.of f n).length = n := by simp [Byt.of]
theorem seqS_len (n : Int) : (seqS n).length ≤ 65536 := by
  unfold seqS
  split
  · exact Nat.zero_le _
  · unfold seqL; rw [bytof_len]; omega
def E0 : Env := .base tenv
theorem E0_ok : EnvOk Tryz.prog E0 := .base (by kernel_rfl) tenv_ok
theorem step_r {a : Nat} (h : a < 256) : IntKind.u8.wrap ((BitVec.ofInt IntKind.u8.bits (IntKind.u8.wrap ((a : Int) * 2 ^ Min.min (Int.toNat 1) IntKind.u8.bits)) ||| BitVec.ofInt IntKind.u8.bits (IntKind.u8.wrap ((BitVec.ofInt IntKind.u8.bits (IntKind.u8.wrap ((BitVec.ofInt IntKind.u8.bits (IntKind.u8.wrap ((BitVec.ofInt IntKind.u8.bits (IntKind.u8.wrap ((BitVec.ofInt IntKind.u8.bits (Int.fdiv a (2 ^ Min.min (Int.toNat 7) IntKind.u8.bits)) ^^^ BitVec.ofInt IntKind.u8.bits (Int.fdiv a (2 ^ Min.min (Int.toNat 4) IntKind.u8.bits))).toNat : Int)) ^^^ BitVec.ofInt IntKind.u8.bits (Int.fdiv a (2 ^ Min.min (Int.toNat 2) IntKind.u8.bits))).toNat : Int)) ^^^ BitVec.ofInt IntKind.u8.bits (a : Int)).toNat : Int)) &&& BitVec.ofInt IntKind.u8.bits 1).toNat : Int))).toNat : Int) = (stp a : Nat) := by
  have : allB (fun a => decide (IntKind.u8.wrap ((BitVec.ofInt IntKind.u8.bits (IntKind.u8.wrap ((a : Int) * 2 ^ Min.min (Int.toNat 1) IntKind.u8.bits)) ||| BitVec.ofInt IntKind.u8.bits (IntKind.u8.wrap ((BitVec.ofInt IntKind.u8.bits (IntKind.u8.wrap ((BitVec.ofInt IntKind.u8.bits (IntKind.u8.wrap ((BitVec.ofInt IntKind.u8.bits (IntKind.u8.wrap ((BitVec.ofInt IntKind.u8.bits (Int.fdiv a (2 ^ Min.min (Int.toNat 7) IntKind.u8.bits)) ^^^ BitVec.ofInt IntKind.u8.bits (Int.fdiv a (2 ^ Min.min (Int.toNat 4) IntKind.u8.bits))).toNat : Int)) ^^^ BitVec.ofInt IntKind.u8.bits (Int.fdiv a (2 ^ Min.min (Int.toNat 2) IntKind.u8.bits))).toNat : Int)) ^^^ BitVec.ofInt IntKind.u8.bits (a : Int)).toNat : Int)) &&& BitVec.ofInt IntKind.u8.bits 1).toNat : Int))).toNat : Int) = (stp a : Nat))) 256 = true := by kernel_rfl
  exact of_decide_eq_true (allB_true this a h)
theorem bytof_congr {f g : Nat → Int} {n : Nat} (h : ∀ k, k < n → f k = g k) : Byt.of f n = Byt.of g n := by
  unfold Byt.of
  apply List.map_congr_left
  intro k hk
  rw [h k (List.mem_range.1 hk)]
theorem seq_t {n : Int} {t1 : Bool} (h : t1 = if decide (n < 0) = true then true else decide (n > 65536)) : (t1 = true → n < 0 ∨ n > 65536) ∧ (t1 = false → 0 ≤ n ∧ n ≤ 65536) := by
  by_cases h1 : n < 0
  · rw [if_pos (decide_eq_true h1)] at h
    exact ⟨fun _ => .inl h1, fun q => by rw [h] at q; cases q⟩
  · rw [if_neg (by simpa using h1)] at h
    exact ⟨fun q => .inr (of_decide_eq_true (h.symm.trans q)), fun q => by have := of_decide_eq_false (h.symm.trans q); omega⟩
theorem sequ_ok : PcOk Tryz.prog 81 sequ := by
  refine pcOf_run (fun _ => E0_ok) Tryz.func81 rfl (by kernel_rfl) (fun x => ⟨by have := seqS_len x.1; show (seqS x.1).length ≤ _; omega, trivial, trivial⟩)
    (fun x => [.loop ⟨6, Nat × Nat, [4, 5, 17], fun y => [.int .u8 (reg (8 * y.1) : Nat), .slice 0 y.2 0 [] 1 0 x.1.toNat x.1.toNat false, .int .i64 (y.1 : Nat)], [0], fun y => [⟨0, y.2, 0, 1, x.1.toNat, fun k => .int .u8 ((if k < y.1 then reg (8 * k) else 0 : Nat) : Int), true, false, x.1.toNat, 5, false, none⟩], fun y => y.1 ≤ x.1.toNat, fun y => x.1.toNat - y.1⟩,
      .nest ⟨10, Nat × Nat, [4, 17, 24], fun y => [.int .u8 (reg (8 * y.1 + y.2) : Nat), .int .i64 (y.1 : Nat), .int .i64 (y.2 : Nat)], [], fun _ => [], fun y => y.2 ≤ 8, fun y => 8 - y.2⟩]) (fun _ => Nat.le_of_ble_eq_true rfl) (fun ⟨n, ()⟩ hp _ => ?_)
  refine vc_of (q :=
      ∀ (t1:Bool), (t1=if decide (n < (0:Int))=true then true else decide (n > (65536:Int)))→(t1=true→[]=Mk.seqS n∧(2:Int)=Mk.seqE n)∧(t1=false→(0:Int)≤n∧n≤n∧n*(↑(1:Nat):Int)≤(140737488355328:Int)∧n≤(9223372036854775807:Int)∧∀ (b1:Nat) (v1:Int), v1=(↑(Int.toNat n):Int)→(∃ (x1:Nat × Nat), (255:Int)=(↑(Mk.reg (8*x1.1)):Int)∧(b1=x1.2∧0=0∧0=0∧Int.toNat n=Int.toNat n∧Int.toNat n=Int.toNat
      n∧false=false)∧(0:Int)=(↑x1.1:Int)∧((b1=x1.2∧0=0∧false=false∧Int.toNat n≤Int.toNat n∧Int.toNat n≤Int.toNat n∧Int.toNat n≤Int.toNat n)∧∀ (i1:Nat), i1 < Int.toNat n→(0:Int)=(↑(if i1 < x1.1 then Mk.reg (8*i1) else 0):Int))∧Nat.le x1.1 (Int.toNat n))∧∀ (x2:Nat × Nat), x2.1≤Int.toNat n→(decide ((↑x2.1:Int) < v1)=true→(0:Int)≤(↑x2.1:Int)∧(↑x2.1:Int) < (↑(Int.toNat n):Int)∧(x2.2=x2.2∧0=0)∧Int.toNat
      (↑x2.1:Int) < Int.toNat n∧(∃ (x3:Nat × Nat), (↑(Mk.reg (8*x2.1)):Int)=(↑(Mk.reg (8*x3.1+x3.2)):Int)∧(↑x2.1:Int)=(↑x3.1:Int)∧(0:Int)=(↑x3.2:Int)∧Nat.le x3.2 8)∧∀ (x4:Nat × Nat), x4.2≤8→(↑x2.1:Int)=(↑x4.1:Int)→(decide ((↑x4.2:Int) < (8:Int))=true→(0:Int)≤(1:Int)∧∀ (v2:Int), v2=IntKind.u8.wrap ((↑(Mk.reg (8*x4.1+x4.2)):Int)*(2:Int) ^ Min.min (Int.toNat (1:Int)) (IntKind.u8.bits))→(0:Int)≤(7:Int)∧∀
      (v3:Int), v3=Int.fdiv (↑(Mk.reg (8*x4.1+x4.2)):Int) ((2:Int) ^ Min.min (Int.toNat (7:Int)) (IntKind.u8.bits))→(0:Int)≤(4:Int)∧∀ (v4:Int), v4=Int.fdiv (↑(Mk.reg (8*x4.1+x4.2)):Int) ((2:Int) ^ Min.min (Int.toNat (4:Int)) (IntKind.u8.bits))→∀ (v5:Int), v5=IntKind.u8.wrap (↑(BitVec.toNat (BitVec.ofInt (IntKind.u8.bits) v3 ^^^ BitVec.ofInt (IntKind.u8.bits) v4)):Int)→(0:Int)≤(2:Int)∧∀ (v6:Int),
      v6=Int.fdiv (↑(Mk.reg (8*x4.1+x4.2)):Int) ((2:Int) ^ Min.min (Int.toNat (2:Int)) (IntKind.u8.bits))→∀ (v7:Int), v7=IntKind.u8.wrap (↑(BitVec.toNat (BitVec.ofInt (IntKind.u8.bits) v5 ^^^ BitVec.ofInt (IntKind.u8.bits) v6)):Int)→∀ (v8:Int), v8=IntKind.u8.wrap (↑(BitVec.toNat (BitVec.ofInt (IntKind.u8.bits) v7 ^^^ BitVec.ofInt (IntKind.u8.bits) (↑(Mk.reg (8*x4.1+x4.2)):Int))):Int)→∀ (v9:Int),
      v9=IntKind.u8.wrap (↑(BitVec.toNat (BitVec.ofInt (IntKind.u8.bits) v8 &&& BitVec.ofInt (IntKind.u8.bits) (1:Int))):Int)→∀ (v10:Int), v10=IntKind.u8.wrap (↑(BitVec.toNat (BitVec.ofInt (IntKind.u8.bits) v2 ||| BitVec.ofInt (IntKind.u8.bits) v9)):Int)→∀ (v11:Int), v11=IntKind.i64.wrap ((↑x4.2:Int)+(1:Int))→∃ (x5:Nat × Nat), v10=(↑(Mk.reg
      (8*x5.1+x5.2)):Int)∧(↑x4.1:Int)=(↑x5.1:Int)∧v11=(↑x5.2:Int)∧x5.2≤8∧8 - x5.2 < 8 - x4.2)∧(decide ((↑x4.2:Int) < (8:Int))=false→∀ (v3:Int), v3=IntKind.i64.wrap ((↑x4.1:Int)+(1:Int))→∃ (x5:Nat × Nat), (↑(Mk.reg (8*x4.1+x4.2)):Int)=(↑(Mk.reg (8*x5.1)):Int)∧(x2.2=x5.2∧0=0∧0=0∧Int.toNat n=Int.toNat n∧Int.toNat n=Int.toNat n∧false=false)∧v3=(↑x5.1:Int)∧((x2.2=x5.2∧0=0∧false=false∧Int.toNat n≤Int.toNat
      n∧Int.toNat n≤Int.toNat n∧Int.toNat n≤Int.toNat n)∧∀ (i2:Nat), i2 < Int.toNat n→(if i2=Int.toNat (↑x2.1:Int) then (↑(Mk.reg (8*x2.1)):Int) else (↑(if i2 < x2.1 then Mk.reg (8*i2) else 0):Int))=(↑(if i2 < x5.1 then Mk.reg (8*i2) else 0):Int))∧x5.1≤Int.toNat n∧Int.toNat n - x5.1 < Int.toNat n - x2.1))∧(decide ((↑x2.1:Int) < v1)=false→Int.toNat n≤Int.toNat n∧(∀ (k1:Nat), k1 < Int.toNat
      n→true=true)∧(x2.2=x2.2∧0=0)∧∀ (s1:List UInt8), s1=Byt.of (fun (k:Nat) ↦ (↑(if k < x2.1 then Mk.reg (8*k) else 0):Int)) (Int.toNat n)→s1=Mk.seqS n∧(0:Int)=Mk.seqE n))) (by kernel_rfl) ?_
  try simp only [eq_self, true_and, and_true, Nat.le_refl, implies_true, forall_const, Bool.false_eq_true, Bool.true_eq_false, reduceCtorEq, false_imp_iff, true_imp_iff, Int.toNat_zero, Int.toNat_natCast, Nat.zero_lt_one, Int.le_refl, allGet]
  intro t1 ht1
  have ht := seq_t ht1
  refine ⟨fun h => ?_, fun h => ?_⟩
  · have h := ht.1 h
    exact ⟨by rw [seqS, if_pos h], by rw [seqE, if_pos h]⟩
  · have hn := ht.2 h
    have hnn : ¬ (n < 0 ∨ n > 65536) := by omega
    refine ⟨by omega, by omega, by omega, fun b1 v1 hv1 => ⟨⟨(0, b1), rfl, rfl, rfl, ⟨rfl, fun i hi => by simp⟩, Nat.zero_le _⟩, ?_⟩⟩
    rintro ⟨i, b⟩ hi
    dsimp only at hi ⊢
    refine ⟨fun hlt => ?_, fun hge s1 hs1 => ?_⟩
    · have hlt := of_decide_eq_true hlt
      refine ⟨by omega, by omega, by omega, ⟨(i, 0), rfl, rfl, rfl, Nat.zero_le _⟩, ?_⟩
      rintro ⟨i', j⟩ hj e
      dsimp only at hj e ⊢
      obtain rfl : i = i' := by omega
      refine ⟨fun hl2 => ⟨by decide, fun v2 h2 => ⟨by decide, fun v3 h3 => ⟨by decide, fun v4 h4 v5 h5 => ⟨by decide, fun v6 h6 v7 h7 v8 h8 v9 h9 v10 h10 v11 h11 => ?_⟩⟩⟩⟩, fun hg2 v3 h3 => ?_⟩
      · have hl2 := of_decide_eq_true hl2
        subst h2 h3 h4 h5 h6 h7 h8 h9
        exact ⟨(i, j + 1), h10.trans (step_r (reg_lt _)), rfl, h11.trans (l_succ (by omega)), by show j + 1 ≤ 8; omega, by show 8 - (j + 1) < 8 - j; omega⟩
      · have hg2 := of_decide_eq_false hg2
        obtain rfl : j = 8 := by omega
        refine ⟨(i + 1, b), rfl, rfl, h3.trans (l_succ (by omega)), ⟨rfl, fun k hk => ?_⟩, by show i + 1 ≤ _; omega, by show _ - (i + 1) < _ - i; omega⟩
        by_cases e1 : k = i
        · subst e1; rw [if_pos rfl, if_pos (Nat.lt_succ_self _)]
        · rw [if_neg e1]
          by_cases e2 : k < i
          · rw [if_pos e2, if_pos (by omega)]
          · rw [if_neg e2, if_neg (by omega)]
    · have hge := of_decide_eq_false hge
      obtain rfl : i = n.toNat := by omega
      refine ⟨?_, by rw [seqE, if_neg hnn]⟩
      rw [hs1, seqS, if_neg hnn, seqL]
      exact bytof_congr fun k hk => by rw [if_pos hk]; rfl
theorem bv_nat {n w : Nat} (h : n < 2 ^ w) : (BitVec.ofInt w (n : Int)).toNat = n := by
  simp [BitVec.toNat_ofInt]
  exact_mod_cast Nat.mod_eq_of_lt h
theorem u8_id {x : Int} (h1 : 0 ≤ x) (h2 : x ≤ 255) : IntKind.u8.wrap x = x := by
  rw [IntKind.wrap_u8]; omega
theorem u8_nat {n : Nat} (h : n < 256) : IntKind.u8.wrap (n : Int) = n := u8_id (by omega) (by omega)
theorem xor_lt {a b : Nat} (ha : a < 256) (hb : b < 256) : Nat.xor a b < 256 := Nat.xor_lt_two_pow (n := 8) ha hb
theorem xor8 {a b : Nat} (ha : a < 256) (hb : b < 256) : IntKind.u8.wrap ((BitVec.ofInt IntKind.u8.bits (a : Int) ^^^ BitVec.ofInt IntKind.u8.bits (b : Int)).toNat : Int) = ((Nat.xor a b : Nat) : Int) := by
  rw [BitVec.toNat_xor, show IntKind.u8.bits = 8 from rfl, bv_nat (w := 8) ha, bv_nat (w := 8) hb]
  exact u8_nat (xor_lt ha hb)
theorem bit8 (k : Nat) : bitS k < 256 := by have := bitS_lt k; omega
theorem xchain {i a b c d : Nat} (ha : a + 1 = i) (hb : b + 3 = i) (hc : c + 5 = i) (hd : d + 8 = i) {v w u : Int} (h1 : v = IntKind.u8.wrap ((BitVec.ofInt IntKind.u8.bits (bitS a : Int) ^^^ BitVec.ofInt IntKind.u8.bits (bitS b : Int)).toNat : Int))
    (h2 : w = IntKind.u8.wrap ((BitVec.ofInt IntKind.u8.bits v ^^^ BitVec.ofInt IntKind.u8.bits (bitS c : Int)).toNat : Int)) (h3 : u = IntKind.u8.wrap ((BitVec.ofInt IntKind.u8.bits w ^^^ BitVec.ofInt IntKind.u8.bits (bitS d : Int)).toNat : Int)) : u = bitS i := by
  rw [xor8 (bit8 _) (bit8 _)] at h1
  rw [h1, xor8 (xor_lt (bit8 _) (bit8 _)) (bit8 _)] at h2
  rw [h2, xor8 (xor_lt (xor_lt (bit8 _) (bit8 _)) (bit8 _)) (bit8 _)] at h3
  have := new_bit d
  rw [h3, show i = d + 8 from hd.symm, this, show d + 7 = a by omega, show d + 5 = b by omega, show d + 3 = c by omega]
theorem seqr_leaf {i N b3 b4 b5 : Nat} {v w : Int} (h8 : 8 ≤ i) (hlt : i < 8 * N) (hN : N ≤ 65536) (hv : v = bitS i) (hb : i + 1 ≤ b5) (hw : w = IntKind.i64.wrap ((i : Int) + 1)) :
    ∃ x3 : Nat × Nat × Nat × Nat, (b3 = x3.2.1 ∧ b4 = x3.2.2.1 ∧ i + 1 = x3.1 ∧ b5 = x3.2.2.2 ∧ (false && decide False) = false) ∧ w = (x3.1 : Int) ∧
      ((b3 = x3.2.1 ∧ b4 = x3.2.2.1 ∧ (false && decide False) = false ∧ x3.1 ≤ i + 1 ∧ x3.1 ≤ x3.2.2.2 ∧ x3.2.2.2 ≤ b5) ∧ ∀ i2 : Nat, i2 < x3.1 → (if i2 < i then ((bitS i2 : Nat) : Int) else v) = ((bitS i2 : Nat) : Int)) ∧
      (8 ≤ x3.1 ∧ (x3.1 = 8 ∨ x3.1 ≤ 8 * N) ∧ x3.1 ≤ x3.2.2.2) ∧ 8 * N - x3.1 < 8 * N - i := by
  refine ⟨(i + 1, b3, b4, b5), ⟨rfl, rfl, rfl, rfl, rfl⟩, hw.trans (l_succ (by omega)), ⟨⟨rfl, rfl, rfl, Nat.le_refl _, hb, Nat.le_refl _⟩, fun k hk => ?_⟩, ⟨by show 8 ≤ i + 1; omega, .inr (by show i + 1 ≤ _; omega), hb⟩, by show _ - (i + 1) < _; omega⟩
  have hk : k < i + 1 := hk
  by_cases e : k < i
  · rw [if_pos e]
  · rw [if_neg e, hv, show k = i by omega]
theorem sequR_ok : PcOk Tryz.prog 48 sequ := by
  refine pcOf_run (fun _ => E0_ok) Tryz.func48 rfl (by kernel_rfl) (fun x => ⟨by have := seqS_len x.1; show (seqS x.1).length ≤ _; omega, trivial, trivial⟩)
    (fun x => [.loop ⟨5, Nat × Nat × Nat × Nat, [4, 5], fun y => [.slice 0 y.2.1 y.2.2.1 [] 1 0 y.1 y.2.2.2 false, .int .i64 (y.1 : Nat)], [0], fun y => [⟨0, y.2.1, y.2.2.1, 1, y.1, fun k => .int .u8 (bitS k : Nat), true, false, y.2.2.2, 5, false, none⟩], fun y => 8 ≤ y.1 ∧ (y.1 = 8 ∨ y.1 ≤ 8 * x.1.toNat) ∧ y.1 ≤ y.2.2.2, fun y => 8 * x.1.toNat - y.1⟩,
      .loop ⟨10, Nat × Nat × Nat × Nat, [6, 7], fun y => [.slice 500 y.2.1 y.2.2.1 [] 1 0 y.1 y.2.2.2 (Nat.beq y.1 0), .int .i64 (y.1 : Nat)], [], fun y => [⟨500, y.2.1, y.2.2.1, 1, y.1, fun k => .int .u8 (seqF k), true, false, y.2.2.2, 5, Nat.beq y.1 0, none⟩], fun y => y.1 ≤ x.1.toNat ∧ y.1 ≤ y.2.2.2, fun y => x.1.toNat - y.1⟩,
      .draw 7 (.take 0 (.take 1 (.take 2 (.take 3 (.take 4 (.take 6 (.take 7 (.take 8 (.take 9 (.take 12 (.take 13 (.take 14 (.take 15 (.take 18 (.take 19 (.take 20 (.take 21 (.br 5 (.br 10 (.take 11 (.br 16 (.take 17 (.br 22 (.take 23 (.br 24 (.br 25 (.take 26 .fin) .stop) .stop)) .stop)) (.br 22 (.br 16 (.take 17 (.take 23 (.br 24 (.br 25 (.take 26 .fin) .stop) .stop))) .stop) .stop))) (.br 16 (.br 10 (.take 11 (.take 17 (.br 22 (.take 23 (.br 24 (.br 25 (.take 26 .fin) .stop) .stop)) .stop))) (.br 22 (.br 10 (.take 11 (.take 17 (.take 23 (.br 24 (.br 25 (.take 26 .fin) .stop) .stop)))) .stop) .stop)) (.br 22 (.br 10 (.take 11 (.br 16 (.take 17 (.take 23 (.br 24 (.br 25 (.take 26 .fin) .stop) .stop))) .stop)) (.br 16 (.br 10 (.take 11 (.take 17 (.take 23 (.br 24 (.br 25 (.take 26 .fin) .stop) .stop)))) .stop) .stop)) .stop))) (.br 10 (.br 5 (.take 11 (.br 16 (.take 17 (.br 22 (.take 23 (.br 24 (.br 25 (.take 26 .fin) .stop) .stop)) .stop)) (.br 22 (.br 16 (.take 17 (.take 23 (.br 24 (.br 25 (.take 26 .fin) .stop) .stop))) .stop) .stop))) (.br 16 (.br 5 (.take 11 (.take 17 (.br 22 (.take 23 (.br 24 (.br 25 (.take 26 .fin) .stop) .stop)) .stop))) (.br 22 (.br 5 (.take 11 (.take 17 (.take 23 (.br 24 (.br 25 (.take 26 .fin) .stop) .stop)))) .stop) .stop)) (.br 22 (.br 5 (.take 11 (.br 16 (.take 17 (.take 23 (.br 24 (.br 25 (.take 26 .fin) .stop) .stop))) .stop)) (.br 16 (.br 5 (.take 11 (.take 17 (.take 23 (.br 24 (.br 25 (.take 26 .fin) .stop) .stop)))) .stop) .stop)) .stop))) (.br 16 (.br 5 (.br 10 (.take 11 (.take 17 (.br 22 (.take 23 (.br 24 (.br 25 (.take 26 .fin) .stop) .stop)) .stop))) (.br 22 (.br 10 (.take 11 (.take 17 (.take 23 (.br 24 (.br 25 (.take 26 .fin) .stop) .stop)))) .stop) .stop)) (.br 10 (.br 5 (.take 11 (.take 17 (.br 22 (.take 23 (.br 24 (.br 25 (.take 26 .fin) .stop) .stop)) .stop))) (.br 22 (.br 5 (.take 11 (.take 17 (.take 23 (.br 24 (.br 25 (.take 26 .fin) .stop) .stop)))) .stop) .stop)) (.br 22 (.br 5 (.br 10 (.take 11 (.take 17 (.take 23 (.br 24 (.br 25 (.take 26 .fin) .stop) .stop)))) .stop) (.br 10 (.br 5 (.take 11 (.take 17 (.take 23 (.br 24 (.br 25 (.take 26 .fin) .stop) .stop)))) .stop) .stop)) .stop))) (.br 22 (.br 5 (.br 10 (.take 11 (.br 16 (.take 17 (.take 23 (.br 24 (.br 25 (.take 26 .fin) .stop) .stop))) .stop)) (.br 16 (.br 10 (.take 11 (.take 17 (.take 23 (.br 24 (.br 25 (.take 26 .fin) .stop) .stop)))) .stop) .stop)) (.br 10 (.br 5 (.take 11 (.br 16 (.take 17 (.take 23 (.br 24 (.br 25 (.take 26 .fin) .stop) .stop))) .stop)) (.br 16 (.br 5 (.take 11 (.take 17 (.take 23 (.br 24 (.br 25 (.take 26 .fin) .stop) .stop)))) .stop) .stop)) (.br 16 (.br 5 (.br 10 (.take 11 (.take 17 (.take 23 (.br 24 (.br 25 (.take 26 .fin) .stop) .stop)))) .stop) (.br 10 (.br 5 (.take 11 (.take 17 (.take 23 (.br 24 (.br 25 (.take 26 .fin) .stop) .stop)))) .stop) .stop)) .stop))) .stop))))))))))))))))))))) [4],
      .nest ⟨14, Nat × Nat, [7, 8, 9], fun y => [.int .i64 (y.1 : Nat), .int .u8 (reg (8 * y.1) / 2 ^ (8 - y.2) : Nat), .int .i64 (y.2 : Nat)], [], fun _ => [], fun y => y.2 ≤ 8, fun y => 8 - y.2⟩]) (fun _ => Nat.le_of_ble_eq_true rfl) (fun ⟨n, ()⟩ hp _ => ?_)
  refine vc_of (q :=
      ∀ (t1:Bool), (t1=if decide (n < (0:Int))=true then true else decide (n > (65536:Int)))→(t1=true→[]=Mk.seqS n∧(2:Int)=Mk.seqE n)∧(t1=false→∀ (b1:Nat), (∃ (x1:Nat × Nat × Nat × Nat), (b1=x1.2.1∧0=x1.2.2.1∧0=0∧8=x1.1∧8=x1.2.2.2∧false=false)∧(8:Int)=(↑x1.1:Int)∧((b1=x1.2.1∧0=x1.2.2.1∧false=false∧x1.1≤8∧x1.1≤x1.2.2.2∧x1.2.2.2≤8)∧∀ (i1:Nat), i1 < x1.1→(if i1=0 then (1:Int) else if i1=1 then (1:Int) else
      if i1=2 then (1:Int) else if i1=3 then (1:Int) else if i1=4 then (1:Int) else if i1=5 then (1:Int) else if i1=6 then (1:Int) else (1:Int))=(↑(Mk.bitS i1):Int))∧8≤x1.1∧(x1.1=8∨x1.1≤8*Int.toNat n)∧x1.1≤x1.2.2.2)∧∀ (x2:Nat × Nat × Nat × Nat), 8≤x2.1∧(x2.1=8∨x2.1≤8*Int.toNat n)∧x2.1≤x2.2.2.2→∀ (v1:Int), v1=IntKind.i64.wrap ((8:Int)*n)→(decide ((↑x2.1:Int) < v1)=true→∀ (v2:Int), v2=IntKind.i64.wrap
      ((↑x2.1:Int) - (1:Int))→0≤v2∧v2 < (↑x2.1:Int)∧∀ (v3:Int), v3=IntKind.i64.wrap ((↑x2.1:Int) - (3:Int))→0≤v3∧v3 < (↑x2.1:Int)∧∀ (v4:Int), v4=IntKind.i64.wrap ((↑x2.1:Int) - (5:Int))→0≤v4∧v4 < (↑x2.1:Int)∧∀ (v5:Int), v5=IntKind.i64.wrap ((↑x2.1:Int) - (8:Int))→0≤v5∧v5 < (↑x2.1:Int)∧((x2.2.1=x2.2.1∧x2.2.2.1=x2.2.2.1)∧Int.toNat v2 < x2.1∧((x2.2.1=x2.2.1∧x2.2.2.1=x2.2.2.1)∧Int.toNat v3 < x2.1∧∀ (v6:Int),
      v6=IntKind.u8.wrap (↑(BitVec.toNat (BitVec.ofInt (IntKind.u8.bits) (↑(Mk.bitS (Int.toNat v2)):Int) ^^^ BitVec.ofInt (IntKind.u8.bits) (↑(Mk.bitS (Int.toNat v3)):Int))):Int)→((x2.2.1=x2.2.1∧x2.2.2.1=x2.2.2.1)∧Int.toNat v4 < x2.1∧∀ (v7:Int), v7=IntKind.u8.wrap (↑(BitVec.toNat (BitVec.ofInt (IntKind.u8.bits) v6 ^^^ BitVec.ofInt (IntKind.u8.bits) (↑(Mk.bitS (Int.toNat
      v4)):Int))):Int)→((x2.2.1=x2.2.1∧x2.2.2.1=x2.2.2.1)∧Int.toNat v5 < x2.1∧∀ (v8:Int), v8=IntKind.u8.wrap (↑(BitVec.toNat (BitVec.ofInt (IntKind.u8.bits) v7 ^^^ BitVec.ofInt (IntKind.u8.bits) (↑(Mk.bitS (Int.toNat v5)):Int))):Int)→(∀ (b2:Nat),
      ((x2.2.1=x2.2.1∧x2.2.2.1=x2.2.2.1)∧(false=true→false=true)∧0=0∧x2.1≤x2.1∧x2.2.2.2≤x2.2.2.2∧(x2.1+1)*1≤140737488355328∧x2.1+1≤9223372036854775807∧1≤1∧(b2=b2∧0=0)∧∀ (b3 b4 b5:Nat), x2.1+1≤b5→b5≤9223372036854775807→(false=true→1=0→b5=0)→∀ (v9:Int), v9=IntKind.i64.wrap ((↑x2.1:Int)+(1:Int))→∃ (x3:Nat × Nat × Nat × Nat), (b3=x3.2.1∧b4=x3.2.2.1∧0=0∧x2.1+1=x3.1∧b5=x3.2.2.2∧(false&&decide
      (1=0))=false)∧v9=(↑x3.1:Int)∧((b3=x3.2.1∧b4=x3.2.2.1∧(false&&decide (1=0))=false∧x3.1≤x2.1+1∧x3.1≤x3.2.2.2∧x3.2.2.2≤b5)∧∀ (i2:Nat), i2 < x3.1→(if i2 < x2.1 then (↑(Mk.bitS i2):Int) else v8)=(↑(Mk.bitS i2):Int))∧(8≤x3.1∧(x3.1=8∨x3.1≤8*Int.toNat n)∧x3.1≤x3.2.2.2)∧8*Int.toNat n - x3.1 < 8*Int.toNat n - x2.1)∧True)∧True)∧True)∧((x2.2.1=x2.2.1∧x2.2.2.1=x2.2.2.1)∧Int.toNat v5 <
      x2.1∧((x2.2.1=x2.2.1∧x2.2.2.1=x2.2.2.1)∧Int.toNat v4 < x2.1∧∀ (v8:Int), v8=IntKind.u8.wrap (↑(BitVec.toNat (BitVec.ofInt (IntKind.u8.bits) v6 ^^^ BitVec.ofInt (IntKind.u8.bits) (↑(Mk.bitS (Int.toNat v4)):Int))):Int)→∀ (v9:Int), v9=IntKind.u8.wrap (↑(BitVec.toNat (BitVec.ofInt (IntKind.u8.bits) v8 ^^^ BitVec.ofInt (IntKind.u8.bits) (↑(Mk.bitS (Int.toNat v5)):Int))):Int)→(∀ (b2:Nat),
      ((x2.2.1=x2.2.1∧x2.2.2.1=x2.2.2.1)∧(false=true→false=true)∧0=0∧x2.1≤x2.1∧x2.2.2.2≤x2.2.2.2∧(x2.1+1)*1≤140737488355328∧x2.1+1≤9223372036854775807∧1≤1∧(b2=b2∧0=0)∧∀ (b3 b4 b5:Nat), x2.1+1≤b5→b5≤9223372036854775807→(false=true→1=0→b5=0)→∀ (v10:Int), v10=IntKind.i64.wrap ((↑x2.1:Int)+(1:Int))→∃ (x3:Nat × Nat × Nat × Nat), (b3=x3.2.1∧b4=x3.2.2.1∧0=0∧x2.1+1=x3.1∧b5=x3.2.2.2∧(false&&decide
      (1=0))=false)∧v10=(↑x3.1:Int)∧((b3=x3.2.1∧b4=x3.2.2.1∧(false&&decide (1=0))=false∧x3.1≤x2.1+1∧x3.1≤x3.2.2.2∧x3.2.2.2≤b5)∧∀ (i2:Nat), i2 < x3.1→(if i2 < x2.1 then (↑(Mk.bitS i2):Int) else v9)=(↑(Mk.bitS i2):Int))∧(8≤x3.1∧(x3.1=8∨x3.1≤8*Int.toNat n)∧x3.1≤x3.2.2.2)∧8*Int.toNat n - x3.1 < 8*Int.toNat n - x2.1)∧True)∧True)∧True)∧True)∧((x2.2.1=x2.2.1∧x2.2.2.1=x2.2.2.1)∧Int.toNat v4 <
      x2.1∧((x2.2.1=x2.2.1∧x2.2.2.1=x2.2.2.1)∧Int.toNat v3 < x2.1∧∀ (v7:Int), v7=IntKind.u8.wrap (↑(BitVec.toNat (BitVec.ofInt (IntKind.u8.bits) (↑(Mk.bitS (Int.toNat v2)):Int) ^^^ BitVec.ofInt (IntKind.u8.bits) (↑(Mk.bitS (Int.toNat v3)):Int))):Int)→∀ (v8:Int), v8=IntKind.u8.wrap (↑(BitVec.toNat (BitVec.ofInt (IntKind.u8.bits) v7 ^^^ BitVec.ofInt (IntKind.u8.bits) (↑(Mk.bitS (Int.toNat
      v4)):Int))):Int)→((x2.2.1=x2.2.1∧x2.2.2.1=x2.2.2.1)∧Int.toNat v5 < x2.1∧∀ (v9:Int), v9=IntKind.u8.wrap (↑(BitVec.toNat (BitVec.ofInt (IntKind.u8.bits) v8 ^^^ BitVec.ofInt (IntKind.u8.bits) (↑(Mk.bitS (Int.toNat v5)):Int))):Int)→(∀ (b2:Nat),
      ((x2.2.1=x2.2.1∧x2.2.2.1=x2.2.2.1)∧(false=true→false=true)∧0=0∧x2.1≤x2.1∧x2.2.2.2≤x2.2.2.2∧(x2.1+1)*1≤140737488355328∧x2.1+1≤9223372036854775807∧1≤1∧(b2=b2∧0=0)∧∀ (b3 b4 b5:Nat), x2.1+1≤b5→b5≤9223372036854775807→(false=true→1=0→b5=0)→∀ (v10:Int), v10=IntKind.i64.wrap ((↑x2.1:Int)+(1:Int))→∃ (x3:Nat × Nat × Nat × Nat), (b3=x3.2.1∧b4=x3.2.2.1∧0=0∧x2.1+1=x3.1∧b5=x3.2.2.2∧(false&&decide
      (1=0))=false)∧v10=(↑x3.1:Int)∧((b3=x3.2.1∧b4=x3.2.2.1∧(false&&decide (1=0))=false∧x3.1≤x2.1+1∧x3.1≤x3.2.2.2∧x3.2.2.2≤b5)∧∀ (i2:Nat), i2 < x3.1→(if i2 < x2.1 then (↑(Mk.bitS i2):Int) else v9)=(↑(Mk.bitS i2):Int))∧(8≤x3.1∧(x3.1=8∨x3.1≤8*Int.toNat n)∧x3.1≤x3.2.2.2)∧8*Int.toNat n - x3.1 < 8*Int.toNat n - x2.1)∧True)∧True)∧True)∧((x2.2.1=x2.2.1∧x2.2.2.1=x2.2.2.1)∧Int.toNat v5 <
      x2.1∧((x2.2.1=x2.2.1∧x2.2.2.1=x2.2.2.1)∧Int.toNat v3 < x2.1∧∀ (v8:Int), v8=IntKind.u8.wrap (↑(BitVec.toNat (BitVec.ofInt (IntKind.u8.bits) (↑(Mk.bitS (Int.toNat v2)):Int) ^^^ BitVec.ofInt (IntKind.u8.bits) (↑(Mk.bitS (Int.toNat v3)):Int))):Int)→∀ (v9:Int), v9=IntKind.u8.wrap (↑(BitVec.toNat (BitVec.ofInt (IntKind.u8.bits) v8 ^^^ BitVec.ofInt (IntKind.u8.bits) (↑(Mk.bitS (Int.toNat
      v4)):Int))):Int)→∀ (v10:Int), v10=IntKind.u8.wrap (↑(BitVec.toNat (BitVec.ofInt (IntKind.u8.bits) v9 ^^^ BitVec.ofInt (IntKind.u8.bits) (↑(Mk.bitS (Int.toNat v5)):Int))):Int)→(∀ (b2:Nat), ((x2.2.1=x2.2.1∧x2.2.2.1=x2.2.2.1)∧(false=true→false=true)∧0=0∧x2.1≤x2.1∧x2.2.2.2≤x2.2.2.2∧(x2.1+1)*1≤140737488355328∧x2.1+1≤9223372036854775807∧1≤1∧(b2=b2∧0=0)∧∀ (b3 b4 b5:Nat),
      x2.1+1≤b5→b5≤9223372036854775807→(false=true→1=0→b5=0)→∀ (v11:Int), v11=IntKind.i64.wrap ((↑x2.1:Int)+(1:Int))→∃ (x3:Nat × Nat × Nat × Nat), (b3=x3.2.1∧b4=x3.2.2.1∧0=0∧x2.1+1=x3.1∧b5=x3.2.2.2∧(false&&decide (1=0))=false)∧v11=(↑x3.1:Int)∧((b3=x3.2.1∧b4=x3.2.2.1∧(false&&decide (1=0))=false∧x3.1≤x2.1+1∧x3.1≤x3.2.2.2∧x3.2.2.2≤b5)∧∀ (i2:Nat), i2 < x3.1→(if i2 < x2.1 then (↑(Mk.bitS i2):Int) else
      v10)=(↑(Mk.bitS i2):Int))∧(8≤x3.1∧(x3.1=8∨x3.1≤8*Int.toNat n)∧x3.1≤x3.2.2.2)∧8*Int.toNat n - x3.1 < 8*Int.toNat n - x2.1)∧True)∧True)∧True)∧True)∧((x2.2.1=x2.2.1∧x2.2.2.1=x2.2.2.1)∧Int.toNat v5 < x2.1∧((x2.2.1=x2.2.1∧x2.2.2.1=x2.2.2.1)∧Int.toNat v3 < x2.1∧∀ (v9:Int), v9=IntKind.u8.wrap (↑(BitVec.toNat (BitVec.ofInt (IntKind.u8.bits) (↑(Mk.bitS (Int.toNat v2)):Int) ^^^ BitVec.ofInt (IntKind.u8.bits)
      (↑(Mk.bitS (Int.toNat v3)):Int))):Int)→((x2.2.1=x2.2.1∧x2.2.2.1=x2.2.2.1)∧Int.toNat v4 < x2.1∧∀ (v10:Int), v10=IntKind.u8.wrap (↑(BitVec.toNat (BitVec.ofInt (IntKind.u8.bits) v9 ^^^ BitVec.ofInt (IntKind.u8.bits) (↑(Mk.bitS (Int.toNat v4)):Int))):Int)→∀ (v11:Int), v11=IntKind.u8.wrap (↑(BitVec.toNat (BitVec.ofInt (IntKind.u8.bits) v10 ^^^ BitVec.ofInt (IntKind.u8.bits) (↑(Mk.bitS (Int.toNat
      v5)):Int))):Int)→(∀ (b2:Nat), ((x2.2.1=x2.2.1∧x2.2.2.1=x2.2.2.1)∧(false=true→false=true)∧0=0∧x2.1≤x2.1∧x2.2.2.2≤x2.2.2.2∧(x2.1+1)*1≤140737488355328∧x2.1+1≤9223372036854775807∧1≤1∧(b2=b2∧0=0)∧∀ (b3 b4 b5:Nat), x2.1+1≤b5→b5≤9223372036854775807→(false=true→1=0→b5=0)→∀ (v12:Int), v12=IntKind.i64.wrap ((↑x2.1:Int)+(1:Int))→∃ (x3:Nat × Nat × Nat × Nat),
      (b3=x3.2.1∧b4=x3.2.2.1∧0=0∧x2.1+1=x3.1∧b5=x3.2.2.2∧(false&&decide (1=0))=false)∧v12=(↑x3.1:Int)∧((b3=x3.2.1∧b4=x3.2.2.1∧(false&&decide (1=0))=false∧x3.1≤x2.1+1∧x3.1≤x3.2.2.2∧x3.2.2.2≤b5)∧∀ (i2:Nat), i2 < x3.1→(if i2 < x2.1 then (↑(Mk.bitS i2):Int) else v11)=(↑(Mk.bitS i2):Int))∧(8≤x3.1∧(x3.1=8∨x3.1≤8*Int.toNat n)∧x3.1≤x3.2.2.2)∧8*Int.toNat n - x3.1 < 8*Int.toNat n -
      x2.1)∧True)∧True)∧True)∧((x2.2.1=x2.2.1∧x2.2.2.1=x2.2.2.1)∧Int.toNat v4 < x2.1∧((x2.2.1=x2.2.1∧x2.2.2.1=x2.2.2.1)∧Int.toNat v3 < x2.1∧∀ (v10:Int), v10=IntKind.u8.wrap (↑(BitVec.toNat (BitVec.ofInt (IntKind.u8.bits) (↑(Mk.bitS (Int.toNat v2)):Int) ^^^ BitVec.ofInt (IntKind.u8.bits) (↑(Mk.bitS (Int.toNat v3)):Int))):Int)→∀ (v11:Int), v11=IntKind.u8.wrap (↑(BitVec.toNat (BitVec.ofInt (IntKind.u8.bits)
      v10 ^^^ BitVec.ofInt (IntKind.u8.bits) (↑(Mk.bitS (Int.toNat v4)):Int))):Int)→∀ (v12:Int), v12=IntKind.u8.wrap (↑(BitVec.toNat (BitVec.ofInt (IntKind.u8.bits) v11 ^^^ BitVec.ofInt (IntKind.u8.bits) (↑(Mk.bitS (Int.toNat v5)):Int))):Int)→(∀ (b2:Nat),
      ((x2.2.1=x2.2.1∧x2.2.2.1=x2.2.2.1)∧(false=true→false=true)∧0=0∧x2.1≤x2.1∧x2.2.2.2≤x2.2.2.2∧(x2.1+1)*1≤140737488355328∧x2.1+1≤9223372036854775807∧1≤1∧(b2=b2∧0=0)∧∀ (b3 b4 b5:Nat), x2.1+1≤b5→b5≤9223372036854775807→(false=true→1=0→b5=0)→∀ (v13:Int), v13=IntKind.i64.wrap ((↑x2.1:Int)+(1:Int))→∃ (x3:Nat × Nat × Nat × Nat), (b3=x3.2.1∧b4=x3.2.2.1∧0=0∧x2.1+1=x3.1∧b5=x3.2.2.2∧(false&&decide
      (1=0))=false)∧v13=(↑x3.1:Int)∧((b3=x3.2.1∧b4=x3.2.2.1∧(false&&decide (1=0))=false∧x3.1≤x2.1+1∧x3.1≤x3.2.2.2∧x3.2.2.2≤b5)∧∀ (i2:Nat), i2 < x3.1→(if i2 < x2.1 then (↑(Mk.bitS i2):Int) else v12)=(↑(Mk.bitS i2):Int))∧(8≤x3.1∧(x3.1=8∨x3.1≤8*Int.toNat n)∧x3.1≤x3.2.2.2)∧8*Int.toNat n - x3.1 < 8*Int.toNat n - x2.1)∧True)∧True)∧True)∧True)∧True)∧((x2.2.1=x2.2.1∧x2.2.2.1=x2.2.2.1)∧Int.toNat v3 <
      x2.1∧((x2.2.1=x2.2.1∧x2.2.2.1=x2.2.2.1)∧Int.toNat v2 < x2.1∧∀ (v11:Int), v11=IntKind.u8.wrap (↑(BitVec.toNat (BitVec.ofInt (IntKind.u8.bits) (↑(Mk.bitS (Int.toNat v2)):Int) ^^^ BitVec.ofInt (IntKind.u8.bits) (↑(Mk.bitS (Int.toNat v3)):Int))):Int)→((x2.2.1=x2.2.1∧x2.2.2.1=x2.2.2.1)∧Int.toNat v4 < x2.1∧∀ (v12:Int), v12=IntKind.u8.wrap (↑(BitVec.toNat (BitVec.ofInt (IntKind.u8.bits) v11 ^^^
      BitVec.ofInt (IntKind.u8.bits) (↑(Mk.bitS (Int.toNat v4)):Int))):Int)→((x2.2.1=x2.2.1∧x2.2.2.1=x2.2.2.1)∧Int.toNat v5 < x2.1∧∀ (v13:Int), v13=IntKind.u8.wrap (↑(BitVec.toNat (BitVec.ofInt (IntKind.u8.bits) v12 ^^^ BitVec.ofInt (IntKind.u8.bits) (↑(Mk.bitS (Int.toNat v5)):Int))):Int)→(∀ (b2:Nat),
      ((x2.2.1=x2.2.1∧x2.2.2.1=x2.2.2.1)∧(false=true→false=true)∧0=0∧x2.1≤x2.1∧x2.2.2.2≤x2.2.2.2∧(x2.1+1)*1≤140737488355328∧x2.1+1≤9223372036854775807∧1≤1∧(b2=b2∧0=0)∧∀ (b3 b4 b5:Nat), x2.1+1≤b5→b5≤9223372036854775807→(false=true→1=0→b5=0)→∀ (v14:Int), v14=IntKind.i64.wrap ((↑x2.1:Int)+(1:Int))→∃ (x3:Nat × Nat × Nat × Nat), (b3=x3.2.1∧b4=x3.2.2.1∧0=0∧x2.1+1=x3.1∧b5=x3.2.2.2∧(false&&decide
      (1=0))=false)∧v14=(↑x3.1:Int)∧((b3=x3.2.1∧b4=x3.2.2.1∧(false&&decide (1=0))=false∧x3.1≤x2.1+1∧x3.1≤x3.2.2.2∧x3.2.2.2≤b5)∧∀ (i2:Nat), i2 < x3.1→(if i2 < x2.1 then (↑(Mk.bitS i2):Int) else v13)=(↑(Mk.bitS i2):Int))∧(8≤x3.1∧(x3.1=8∨x3.1≤8*Int.toNat n)∧x3.1≤x3.2.2.2)∧8*Int.toNat n - x3.1 < 8*Int.toNat n - x2.1)∧True)∧True)∧True)∧((x2.2.1=x2.2.1∧x2.2.2.1=x2.2.2.1)∧Int.toNat v5 <
      x2.1∧((x2.2.1=x2.2.1∧x2.2.2.1=x2.2.2.1)∧Int.toNat v4 < x2.1∧∀ (v13:Int), v13=IntKind.u8.wrap (↑(BitVec.toNat (BitVec.ofInt (IntKind.u8.bits) v11 ^^^ BitVec.ofInt (IntKind.u8.bits) (↑(Mk.bitS (Int.toNat v4)):Int))):Int)→∀ (v14:Int), v14=IntKind.u8.wrap (↑(BitVec.toNat (BitVec.ofInt (IntKind.u8.bits) v13 ^^^ BitVec.ofInt (IntKind.u8.bits) (↑(Mk.bitS (Int.toNat v5)):Int))):Int)→(∀ (b2:Nat),
      ((x2.2.1=x2.2.1∧x2.2.2.1=x2.2.2.1)∧(false=true→false=true)∧0=0∧x2.1≤x2.1∧x2.2.2.2≤x2.2.2.2∧(x2.1+1)*1≤140737488355328∧x2.1+1≤9223372036854775807∧1≤1∧(b2=b2∧0=0)∧∀ (b3 b4 b5:Nat), x2.1+1≤b5→b5≤9223372036854775807→(false=true→1=0→b5=0)→∀ (v15:Int), v15=IntKind.i64.wrap ((↑x2.1:Int)+(1:Int))→∃ (x3:Nat × Nat × Nat × Nat), (b3=x3.2.1∧b4=x3.2.2.1∧0=0∧x2.1+1=x3.1∧b5=x3.2.2.2∧(false&&decide
      (1=0))=false)∧v15=(↑x3.1:Int)∧((b3=x3.2.1∧b4=x3.2.2.1∧(false&&decide (1=0))=false∧x3.1≤x2.1+1∧x3.1≤x3.2.2.2∧x3.2.2.2≤b5)∧∀ (i2:Nat), i2 < x3.1→(if i2 < x2.1 then (↑(Mk.bitS i2):Int) else v14)=(↑(Mk.bitS i2):Int))∧(8≤x3.1∧(x3.1=8∨x3.1≤8*Int.toNat n)∧x3.1≤x3.2.2.2)∧8*Int.toNat n - x3.1 < 8*Int.toNat n - x2.1)∧True)∧True)∧True)∧True)∧((x2.2.1=x2.2.1∧x2.2.2.1=x2.2.2.1)∧Int.toNat v4 <
      x2.1∧((x2.2.1=x2.2.1∧x2.2.2.1=x2.2.2.1)∧Int.toNat v2 < x2.1∧∀ (v12:Int), v12=IntKind.u8.wrap (↑(BitVec.toNat (BitVec.ofInt (IntKind.u8.bits) (↑(Mk.bitS (Int.toNat v2)):Int) ^^^ BitVec.ofInt (IntKind.u8.bits) (↑(Mk.bitS (Int.toNat v3)):Int))):Int)→∀ (v13:Int), v13=IntKind.u8.wrap (↑(BitVec.toNat (BitVec.ofInt (IntKind.u8.bits) v12 ^^^ BitVec.ofInt (IntKind.u8.bits) (↑(Mk.bitS (Int.toNat
      v4)):Int))):Int)→((x2.2.1=x2.2.1∧x2.2.2.1=x2.2.2.1)∧Int.toNat v5 < x2.1∧∀ (v14:Int), v14=IntKind.u8.wrap (↑(BitVec.toNat (BitVec.ofInt (IntKind.u8.bits) v13 ^^^ BitVec.ofInt (IntKind.u8.bits) (↑(Mk.bitS (Int.toNat v5)):Int))):Int)→(∀ (b2:Nat),
      ((x2.2.1=x2.2.1∧x2.2.2.1=x2.2.2.1)∧(false=true→false=true)∧0=0∧x2.1≤x2.1∧x2.2.2.2≤x2.2.2.2∧(x2.1+1)*1≤140737488355328∧x2.1+1≤9223372036854775807∧1≤1∧(b2=b2∧0=0)∧∀ (b3 b4 b5:Nat), x2.1+1≤b5→b5≤9223372036854775807→(false=true→1=0→b5=0)→∀ (v15:Int), v15=IntKind.i64.wrap ((↑x2.1:Int)+(1:Int))→∃ (x3:Nat × Nat × Nat × Nat), (b3=x3.2.1∧b4=x3.2.2.1∧0=0∧x2.1+1=x3.1∧b5=x3.2.2.2∧(false&&decide
      (1=0))=false)∧v15=(↑x3.1:Int)∧((b3=x3.2.1∧b4=x3.2.2.1∧(false&&decide (1=0))=false∧x3.1≤x2.1+1∧x3.1≤x3.2.2.2∧x3.2.2.2≤b5)∧∀ (i2:Nat), i2 < x3.1→(if i2 < x2.1 then (↑(Mk.bitS i2):Int) else v14)=(↑(Mk.bitS i2):Int))∧(8≤x3.1∧(x3.1=8∨x3.1≤8*Int.toNat n)∧x3.1≤x3.2.2.2)∧8*Int.toNat n - x3.1 < 8*Int.toNat n - x2.1)∧True)∧True)∧True)∧((x2.2.1=x2.2.1∧x2.2.2.1=x2.2.2.1)∧Int.toNat v5 <
      x2.1∧((x2.2.1=x2.2.1∧x2.2.2.1=x2.2.2.1)∧Int.toNat v2 < x2.1∧∀ (v13:Int), v13=IntKind.u8.wrap (↑(BitVec.toNat (BitVec.ofInt (IntKind.u8.bits) (↑(Mk.bitS (Int.toNat v2)):Int) ^^^ BitVec.ofInt (IntKind.u8.bits) (↑(Mk.bitS (Int.toNat v3)):Int))):Int)→∀ (v14:Int), v14=IntKind.u8.wrap (↑(BitVec.toNat (BitVec.ofInt (IntKind.u8.bits) v13 ^^^ BitVec.ofInt (IntKind.u8.bits) (↑(Mk.bitS (Int.toNat
      v4)):Int))):Int)→∀ (v15:Int), v15=IntKind.u8.wrap (↑(BitVec.toNat (BitVec.ofInt (IntKind.u8.bits) v14 ^^^ BitVec.ofInt (IntKind.u8.bits) (↑(Mk.bitS (Int.toNat v5)):Int))):Int)→(∀ (b2:Nat), ((x2.2.1=x2.2.1∧x2.2.2.1=x2.2.2.1)∧(false=true→false=true)∧0=0∧x2.1≤x2.1∧x2.2.2.2≤x2.2.2.2∧(x2.1+1)*1≤140737488355328∧x2.1+1≤9223372036854775807∧1≤1∧(b2=b2∧0=0)∧∀ (b3 b4 b5:Nat),
      x2.1+1≤b5→b5≤9223372036854775807→(false=true→1=0→b5=0)→∀ (v16:Int), v16=IntKind.i64.wrap ((↑x2.1:Int)+(1:Int))→∃ (x3:Nat × Nat × Nat × Nat), (b3=x3.2.1∧b4=x3.2.2.1∧0=0∧x2.1+1=x3.1∧b5=x3.2.2.2∧(false&&decide (1=0))=false)∧v16=(↑x3.1:Int)∧((b3=x3.2.1∧b4=x3.2.2.1∧(false&&decide (1=0))=false∧x3.1≤x2.1+1∧x3.1≤x3.2.2.2∧x3.2.2.2≤b5)∧∀ (i2:Nat), i2 < x3.1→(if i2 < x2.1 then (↑(Mk.bitS i2):Int) else
      v15)=(↑(Mk.bitS i2):Int))∧(8≤x3.1∧(x3.1=8∨x3.1≤8*Int.toNat n)∧x3.1≤x3.2.2.2)∧8*Int.toNat n - x3.1 < 8*Int.toNat n - x2.1)∧True)∧True)∧True)∧True)∧((x2.2.1=x2.2.1∧x2.2.2.1=x2.2.2.1)∧Int.toNat v5 < x2.1∧((x2.2.1=x2.2.1∧x2.2.2.1=x2.2.2.1)∧Int.toNat v2 < x2.1∧∀ (v14:Int), v14=IntKind.u8.wrap (↑(BitVec.toNat (BitVec.ofInt (IntKind.u8.bits) (↑(Mk.bitS (Int.toNat v2)):Int) ^^^ BitVec.ofInt
      (IntKind.u8.bits) (↑(Mk.bitS (Int.toNat v3)):Int))):Int)→((x2.2.1=x2.2.1∧x2.2.2.1=x2.2.2.1)∧Int.toNat v4 < x2.1∧∀ (v15:Int), v15=IntKind.u8.wrap (↑(BitVec.toNat (BitVec.ofInt (IntKind.u8.bits) v14 ^^^ BitVec.ofInt (IntKind.u8.bits) (↑(Mk.bitS (Int.toNat v4)):Int))):Int)→∀ (v16:Int), v16=IntKind.u8.wrap (↑(BitVec.toNat (BitVec.ofInt (IntKind.u8.bits) v15 ^^^ BitVec.ofInt (IntKind.u8.bits) (↑(Mk.bitS
      (Int.toNat v5)):Int))):Int)→(∀ (b2:Nat), ((x2.2.1=x2.2.1∧x2.2.2.1=x2.2.2.1)∧(false=true→false=true)∧0=0∧x2.1≤x2.1∧x2.2.2.2≤x2.2.2.2∧(x2.1+1)*1≤140737488355328∧x2.1+1≤9223372036854775807∧1≤1∧(b2=b2∧0=0)∧∀ (b3 b4 b5:Nat), x2.1+1≤b5→b5≤9223372036854775807→(false=true→1=0→b5=0)→∀ (v17:Int), v17=IntKind.i64.wrap ((↑x2.1:Int)+(1:Int))→∃ (x3:Nat × Nat × Nat × Nat),
      (b3=x3.2.1∧b4=x3.2.2.1∧0=0∧x2.1+1=x3.1∧b5=x3.2.2.2∧(false&&decide (1=0))=false)∧v17=(↑x3.1:Int)∧((b3=x3.2.1∧b4=x3.2.2.1∧(false&&decide (1=0))=false∧x3.1≤x2.1+1∧x3.1≤x3.2.2.2∧x3.2.2.2≤b5)∧∀ (i2:Nat), i2 < x3.1→(if i2 < x2.1 then (↑(Mk.bitS i2):Int) else v16)=(↑(Mk.bitS i2):Int))∧(8≤x3.1∧(x3.1=8∨x3.1≤8*Int.toNat n)∧x3.1≤x3.2.2.2)∧8*Int.toNat n - x3.1 < 8*Int.toNat n -
      x2.1)∧True)∧True)∧True)∧((x2.2.1=x2.2.1∧x2.2.2.1=x2.2.2.1)∧Int.toNat v4 < x2.1∧((x2.2.1=x2.2.1∧x2.2.2.1=x2.2.2.1)∧Int.toNat v2 < x2.1∧∀ (v15:Int), v15=IntKind.u8.wrap (↑(BitVec.toNat (BitVec.ofInt (IntKind.u8.bits) (↑(Mk.bitS (Int.toNat v2)):Int) ^^^ BitVec.ofInt (IntKind.u8.bits) (↑(Mk.bitS (Int.toNat v3)):Int))):Int)→∀ (v16:Int), v16=IntKind.u8.wrap (↑(BitVec.toNat (BitVec.ofInt (IntKind.u8.bits)
      v15 ^^^ BitVec.ofInt (IntKind.u8.bits) (↑(Mk.bitS (Int.toNat v4)):Int))):Int)→∀ (v17:Int), v17=IntKind.u8.wrap (↑(BitVec.toNat (BitVec.ofInt (IntKind.u8.bits) v16 ^^^ BitVec.ofInt (IntKind.u8.bits) (↑(Mk.bitS (Int.toNat v5)):Int))):Int)→(∀ (b2:Nat),
      ((x2.2.1=x2.2.1∧x2.2.2.1=x2.2.2.1)∧(false=true→false=true)∧0=0∧x2.1≤x2.1∧x2.2.2.2≤x2.2.2.2∧(x2.1+1)*1≤140737488355328∧x2.1+1≤9223372036854775807∧1≤1∧(b2=b2∧0=0)∧∀ (b3 b4 b5:Nat), x2.1+1≤b5→b5≤9223372036854775807→(false=true→1=0→b5=0)→∀ (v18:Int), v18=IntKind.i64.wrap ((↑x2.1:Int)+(1:Int))→∃ (x3:Nat × Nat × Nat × Nat), (b3=x3.2.1∧b4=x3.2.2.1∧0=0∧x2.1+1=x3.1∧b5=x3.2.2.2∧(false&&decide
      (1=0))=false)∧v18=(↑x3.1:Int)∧((b3=x3.2.1∧b4=x3.2.2.1∧(false&&decide (1=0))=false∧x3.1≤x2.1+1∧x3.1≤x3.2.2.2∧x3.2.2.2≤b5)∧∀ (i2:Nat), i2 < x3.1→(if i2 < x2.1 then (↑(Mk.bitS i2):Int) else v17)=(↑(Mk.bitS i2):Int))∧(8≤x3.1∧(x3.1=8∨x3.1≤8*Int.toNat n)∧x3.1≤x3.2.2.2)∧8*Int.toNat n - x3.1 < 8*Int.toNat n - x2.1)∧True)∧True)∧True)∧True)∧True)∧((x2.2.1=x2.2.1∧x2.2.2.1=x2.2.2.1)∧Int.toNat v4 <
      x2.1∧((x2.2.1=x2.2.1∧x2.2.2.1=x2.2.2.1)∧Int.toNat v2 < x2.1∧((x2.2.1=x2.2.1∧x2.2.2.1=x2.2.2.1)∧Int.toNat v3 < x2.1∧∀ (v16:Int), v16=IntKind.u8.wrap (↑(BitVec.toNat (BitVec.ofInt (IntKind.u8.bits) (↑(Mk.bitS (Int.toNat v2)):Int) ^^^ BitVec.ofInt (IntKind.u8.bits) (↑(Mk.bitS (Int.toNat v3)):Int))):Int)→∀ (v17:Int), v17=IntKind.u8.wrap (↑(BitVec.toNat (BitVec.ofInt (IntKind.u8.bits) v16 ^^^
      BitVec.ofInt (IntKind.u8.bits) (↑(Mk.bitS (Int.toNat v4)):Int))):Int)→((x2.2.1=x2.2.1∧x2.2.2.1=x2.2.2.1)∧Int.toNat v5 < x2.1∧∀ (v18:Int), v18=IntKind.u8.wrap (↑(BitVec.toNat (BitVec.ofInt (IntKind.u8.bits) v17 ^^^ BitVec.ofInt (IntKind.u8.bits) (↑(Mk.bitS (Int.toNat v5)):Int))):Int)→(∀ (b2:Nat),
      ((x2.2.1=x2.2.1∧x2.2.2.1=x2.2.2.1)∧(false=true→false=true)∧0=0∧x2.1≤x2.1∧x2.2.2.2≤x2.2.2.2∧(x2.1+1)*1≤140737488355328∧x2.1+1≤9223372036854775807∧1≤1∧(b2=b2∧0=0)∧∀ (b3 b4 b5:Nat), x2.1+1≤b5→b5≤9223372036854775807→(false=true→1=0→b5=0)→∀ (v19:Int), v19=IntKind.i64.wrap ((↑x2.1:Int)+(1:Int))→∃ (x3:Nat × Nat × Nat × Nat), (b3=x3.2.1∧b4=x3.2.2.1∧0=0∧x2.1+1=x3.1∧b5=x3.2.2.2∧(false&&decide
      (1=0))=false)∧v19=(↑x3.1:Int)∧((b3=x3.2.1∧b4=x3.2.2.1∧(false&&decide (1=0))=false∧x3.1≤x2.1+1∧x3.1≤x3.2.2.2∧x3.2.2.2≤b5)∧∀ (i2:Nat), i2 < x3.1→(if i2 < x2.1 then (↑(Mk.bitS i2):Int) else v18)=(↑(Mk.bitS i2):Int))∧(8≤x3.1∧(x3.1=8∨x3.1≤8*Int.toNat n)∧x3.1≤x3.2.2.2)∧8*Int.toNat n - x3.1 < 8*Int.toNat n - x2.1)∧True)∧True)∧True)∧((x2.2.1=x2.2.1∧x2.2.2.1=x2.2.2.1)∧Int.toNat v5 <
      x2.1∧((x2.2.1=x2.2.1∧x2.2.2.1=x2.2.2.1)∧Int.toNat v3 < x2.1∧∀ (v17:Int), v17=IntKind.u8.wrap (↑(BitVec.toNat (BitVec.ofInt (IntKind.u8.bits) (↑(Mk.bitS (Int.toNat v2)):Int) ^^^ BitVec.ofInt (IntKind.u8.bits) (↑(Mk.bitS (Int.toNat v3)):Int))):Int)→∀ (v18:Int), v18=IntKind.u8.wrap (↑(BitVec.toNat (BitVec.ofInt (IntKind.u8.bits) v17 ^^^ BitVec.ofInt (IntKind.u8.bits) (↑(Mk.bitS (Int.toNat
      v4)):Int))):Int)→∀ (v19:Int), v19=IntKind.u8.wrap (↑(BitVec.toNat (BitVec.ofInt (IntKind.u8.bits) v18 ^^^ BitVec.ofInt (IntKind.u8.bits) (↑(Mk.bitS (Int.toNat v5)):Int))):Int)→(∀ (b2:Nat), ((x2.2.1=x2.2.1∧x2.2.2.1=x2.2.2.1)∧(false=true→false=true)∧0=0∧x2.1≤x2.1∧x2.2.2.2≤x2.2.2.2∧(x2.1+1)*1≤140737488355328∧x2.1+1≤9223372036854775807∧1≤1∧(b2=b2∧0=0)∧∀ (b3 b4 b5:Nat),
      x2.1+1≤b5→b5≤9223372036854775807→(false=true→1=0→b5=0)→∀ (v20:Int), v20=IntKind.i64.wrap ((↑x2.1:Int)+(1:Int))→∃ (x3:Nat × Nat × Nat × Nat), (b3=x3.2.1∧b4=x3.2.2.1∧0=0∧x2.1+1=x3.1∧b5=x3.2.2.2∧(false&&decide (1=0))=false)∧v20=(↑x3.1:Int)∧((b3=x3.2.1∧b4=x3.2.2.1∧(false&&decide (1=0))=false∧x3.1≤x2.1+1∧x3.1≤x3.2.2.2∧x3.2.2.2≤b5)∧∀ (i2:Nat), i2 < x3.1→(if i2 < x2.1 then (↑(Mk.bitS i2):Int) else
      v19)=(↑(Mk.bitS i2):Int))∧(8≤x3.1∧(x3.1=8∨x3.1≤8*Int.toNat n)∧x3.1≤x3.2.2.2)∧8*Int.toNat n - x3.1 < 8*Int.toNat n - x2.1)∧True)∧True)∧True)∧True)∧((x2.2.1=x2.2.1∧x2.2.2.1=x2.2.2.1)∧Int.toNat v3 < x2.1∧((x2.2.1=x2.2.1∧x2.2.2.1=x2.2.2.1)∧Int.toNat v2 < x2.1∧∀ (v18:Int), v18=IntKind.u8.wrap (↑(BitVec.toNat (BitVec.ofInt (IntKind.u8.bits) (↑(Mk.bitS (Int.toNat v2)):Int) ^^^ BitVec.ofInt
      (IntKind.u8.bits) (↑(Mk.bitS (Int.toNat v3)):Int))):Int)→∀ (v19:Int), v19=IntKind.u8.wrap (↑(BitVec.toNat (BitVec.ofInt (IntKind.u8.bits) v18 ^^^ BitVec.ofInt (IntKind.u8.bits) (↑(Mk.bitS (Int.toNat v4)):Int))):Int)→((x2.2.1=x2.2.1∧x2.2.2.1=x2.2.2.1)∧Int.toNat v5 < x2.1∧∀ (v20:Int), v20=IntKind.u8.wrap (↑(BitVec.toNat (BitVec.ofInt (IntKind.u8.bits) v19 ^^^ BitVec.ofInt (IntKind.u8.bits) (↑(Mk.bitS
      (Int.toNat v5)):Int))):Int)→(∀ (b2:Nat), ((x2.2.1=x2.2.1∧x2.2.2.1=x2.2.2.1)∧(false=true→false=true)∧0=0∧x2.1≤x2.1∧x2.2.2.2≤x2.2.2.2∧(x2.1+1)*1≤140737488355328∧x2.1+1≤9223372036854775807∧1≤1∧(b2=b2∧0=0)∧∀ (b3 b4 b5:Nat), x2.1+1≤b5→b5≤9223372036854775807→(false=true→1=0→b5=0)→∀ (v21:Int), v21=IntKind.i64.wrap ((↑x2.1:Int)+(1:Int))→∃ (x3:Nat × Nat × Nat × Nat),
      (b3=x3.2.1∧b4=x3.2.2.1∧0=0∧x2.1+1=x3.1∧b5=x3.2.2.2∧(false&&decide (1=0))=false)∧v21=(↑x3.1:Int)∧((b3=x3.2.1∧b4=x3.2.2.1∧(false&&decide (1=0))=false∧x3.1≤x2.1+1∧x3.1≤x3.2.2.2∧x3.2.2.2≤b5)∧∀ (i2:Nat), i2 < x3.1→(if i2 < x2.1 then (↑(Mk.bitS i2):Int) else v20)=(↑(Mk.bitS i2):Int))∧(8≤x3.1∧(x3.1=8∨x3.1≤8*Int.toNat n)∧x3.1≤x3.2.2.2)∧8*Int.toNat n - x3.1 < 8*Int.toNat n -
      x2.1)∧True)∧True)∧True)∧((x2.2.1=x2.2.1∧x2.2.2.1=x2.2.2.1)∧Int.toNat v5 < x2.1∧((x2.2.1=x2.2.1∧x2.2.2.1=x2.2.2.1)∧Int.toNat v2 < x2.1∧∀ (v19:Int), v19=IntKind.u8.wrap (↑(BitVec.toNat (BitVec.ofInt (IntKind.u8.bits) (↑(Mk.bitS (Int.toNat v2)):Int) ^^^ BitVec.ofInt (IntKind.u8.bits) (↑(Mk.bitS (Int.toNat v3)):Int))):Int)→∀ (v20:Int), v20=IntKind.u8.wrap (↑(BitVec.toNat (BitVec.ofInt (IntKind.u8.bits)
      v19 ^^^ BitVec.ofInt (IntKind.u8.bits) (↑(Mk.bitS (Int.toNat v4)):Int))):Int)→∀ (v21:Int), v21=IntKind.u8.wrap (↑(BitVec.toNat (BitVec.ofInt (IntKind.u8.bits) v20 ^^^ BitVec.ofInt (IntKind.u8.bits) (↑(Mk.bitS (Int.toNat v5)):Int))):Int)→(∀ (b2:Nat),
      ((x2.2.1=x2.2.1∧x2.2.2.1=x2.2.2.1)∧(false=true→false=true)∧0=0∧x2.1≤x2.1∧x2.2.2.2≤x2.2.2.2∧(x2.1+1)*1≤140737488355328∧x2.1+1≤9223372036854775807∧1≤1∧(b2=b2∧0=0)∧∀ (b3 b4 b5:Nat), x2.1+1≤b5→b5≤9223372036854775807→(false=true→1=0→b5=0)→∀ (v22:Int), v22=IntKind.i64.wrap ((↑x2.1:Int)+(1:Int))→∃ (x3:Nat × Nat × Nat × Nat), (b3=x3.2.1∧b4=x3.2.2.1∧0=0∧x2.1+1=x3.1∧b5=x3.2.2.2∧(false&&decide
      (1=0))=false)∧v22=(↑x3.1:Int)∧((b3=x3.2.1∧b4=x3.2.2.1∧(false&&decide (1=0))=false∧x3.1≤x2.1+1∧x3.1≤x3.2.2.2∧x3.2.2.2≤b5)∧∀ (i2:Nat), i2 < x3.1→(if i2 < x2.1 then (↑(Mk.bitS i2):Int) else v21)=(↑(Mk.bitS i2):Int))∧(8≤x3.1∧(x3.1=8∨x3.1≤8*Int.toNat n)∧x3.1≤x3.2.2.2)∧8*Int.toNat n - x3.1 < 8*Int.toNat n - x2.1)∧True)∧True)∧True)∧True)∧((x2.2.1=x2.2.1∧x2.2.2.1=x2.2.2.1)∧Int.toNat v5 <
      x2.1∧((x2.2.1=x2.2.1∧x2.2.2.1=x2.2.2.1)∧Int.toNat v2 < x2.1∧((x2.2.1=x2.2.1∧x2.2.2.1=x2.2.2.1)∧Int.toNat v3 < x2.1∧∀ (v20:Int), v20=IntKind.u8.wrap (↑(BitVec.toNat (BitVec.ofInt (IntKind.u8.bits) (↑(Mk.bitS (Int.toNat v2)):Int) ^^^ BitVec.ofInt (IntKind.u8.bits) (↑(Mk.bitS (Int.toNat v3)):Int))):Int)→∀ (v21:Int), v21=IntKind.u8.wrap (↑(BitVec.toNat (BitVec.ofInt (IntKind.u8.bits) v20 ^^^
      BitVec.ofInt (IntKind.u8.bits) (↑(Mk.bitS (Int.toNat v4)):Int))):Int)→∀ (v22:Int), v22=IntKind.u8.wrap (↑(BitVec.toNat (BitVec.ofInt (IntKind.u8.bits) v21 ^^^ BitVec.ofInt (IntKind.u8.bits) (↑(Mk.bitS (Int.toNat v5)):Int))):Int)→(∀ (b2:Nat),
      ((x2.2.1=x2.2.1∧x2.2.2.1=x2.2.2.1)∧(false=true→false=true)∧0=0∧x2.1≤x2.1∧x2.2.2.2≤x2.2.2.2∧(x2.1+1)*1≤140737488355328∧x2.1+1≤9223372036854775807∧1≤1∧(b2=b2∧0=0)∧∀ (b3 b4 b5:Nat), x2.1+1≤b5→b5≤9223372036854775807→(false=true→1=0→b5=0)→∀ (v23:Int), v23=IntKind.i64.wrap ((↑x2.1:Int)+(1:Int))→∃ (x3:Nat × Nat × Nat × Nat), (b3=x3.2.1∧b4=x3.2.2.1∧0=0∧x2.1+1=x3.1∧b5=x3.2.2.2∧(false&&decide
      (1=0))=false)∧v23=(↑x3.1:Int)∧((b3=x3.2.1∧b4=x3.2.2.1∧(false&&decide (1=0))=false∧x3.1≤x2.1+1∧x3.1≤x3.2.2.2∧x3.2.2.2≤b5)∧∀ (i2:Nat), i2 < x3.1→(if i2 < x2.1 then (↑(Mk.bitS i2):Int) else v22)=(↑(Mk.bitS i2):Int))∧(8≤x3.1∧(x3.1=8∨x3.1≤8*Int.toNat n)∧x3.1≤x3.2.2.2)∧8*Int.toNat n - x3.1 < 8*Int.toNat n - x2.1)∧True)∧True)∧True)∧((x2.2.1=x2.2.1∧x2.2.2.1=x2.2.2.1)∧Int.toNat v3 <
      x2.1∧((x2.2.1=x2.2.1∧x2.2.2.1=x2.2.2.1)∧Int.toNat v2 < x2.1∧∀ (v21:Int), v21=IntKind.u8.wrap (↑(BitVec.toNat (BitVec.ofInt (IntKind.u8.bits) (↑(Mk.bitS (Int.toNat v2)):Int) ^^^ BitVec.ofInt (IntKind.u8.bits) (↑(Mk.bitS (Int.toNat v3)):Int))):Int)→∀ (v22:Int), v22=IntKind.u8.wrap (↑(BitVec.toNat (BitVec.ofInt (IntKind.u8.bits) v21 ^^^ BitVec.ofInt (IntKind.u8.bits) (↑(Mk.bitS (Int.toNat
      v4)):Int))):Int)→∀ (v23:Int), v23=IntKind.u8.wrap (↑(BitVec.toNat (BitVec.ofInt (IntKind.u8.bits) v22 ^^^ BitVec.ofInt (IntKind.u8.bits) (↑(Mk.bitS (Int.toNat v5)):Int))):Int)→(∀ (b2:Nat), ((x2.2.1=x2.2.1∧x2.2.2.1=x2.2.2.1)∧(false=true→false=true)∧0=0∧x2.1≤x2.1∧x2.2.2.2≤x2.2.2.2∧(x2.1+1)*1≤140737488355328∧x2.1+1≤9223372036854775807∧1≤1∧(b2=b2∧0=0)∧∀ (b3 b4 b5:Nat),
      x2.1+1≤b5→b5≤9223372036854775807→(false=true→1=0→b5=0)→∀ (v24:Int), v24=IntKind.i64.wrap ((↑x2.1:Int)+(1:Int))→∃ (x3:Nat × Nat × Nat × Nat), (b3=x3.2.1∧b4=x3.2.2.1∧0=0∧x2.1+1=x3.1∧b5=x3.2.2.2∧(false&&decide (1=0))=false)∧v24=(↑x3.1:Int)∧((b3=x3.2.1∧b4=x3.2.2.1∧(false&&decide (1=0))=false∧x3.1≤x2.1+1∧x3.1≤x3.2.2.2∧x3.2.2.2≤b5)∧∀ (i2:Nat), i2 < x3.1→(if i2 < x2.1 then (↑(Mk.bitS i2):Int) else
      v23)=(↑(Mk.bitS i2):Int))∧(8≤x3.1∧(x3.1=8∨x3.1≤8*Int.toNat n)∧x3.1≤x3.2.2.2)∧8*Int.toNat n - x3.1 < 8*Int.toNat n - x2.1)∧True)∧True)∧True)∧True)∧True)∧((x2.2.1=x2.2.1∧x2.2.2.1=x2.2.2.1)∧Int.toNat v5 < x2.1∧((x2.2.1=x2.2.1∧x2.2.2.1=x2.2.2.1)∧Int.toNat v2 < x2.1∧((x2.2.1=x2.2.1∧x2.2.2.1=x2.2.2.1)∧Int.toNat v3 < x2.1∧∀ (v22:Int), v22=IntKind.u8.wrap (↑(BitVec.toNat (BitVec.ofInt (IntKind.u8.bits)
      (↑(Mk.bitS (Int.toNat v2)):Int) ^^^ BitVec.ofInt (IntKind.u8.bits) (↑(Mk.bitS (Int.toNat v3)):Int))):Int)→((x2.2.1=x2.2.1∧x2.2.2.1=x2.2.2.1)∧Int.toNat v4 < x2.1∧∀ (v23:Int), v23=IntKind.u8.wrap (↑(BitVec.toNat (BitVec.ofInt (IntKind.u8.bits) v22 ^^^ BitVec.ofInt (IntKind.u8.bits) (↑(Mk.bitS (Int.toNat v4)):Int))):Int)→∀ (v24:Int), v24=IntKind.u8.wrap (↑(BitVec.toNat (BitVec.ofInt (IntKind.u8.bits)
      v23 ^^^ BitVec.ofInt (IntKind.u8.bits) (↑(Mk.bitS (Int.toNat v5)):Int))):Int)→(∀ (b2:Nat), ((x2.2.1=x2.2.1∧x2.2.2.1=x2.2.2.1)∧(false=true→false=true)∧0=0∧x2.1≤x2.1∧x2.2.2.2≤x2.2.2.2∧(x2.1+1)*1≤140737488355328∧x2.1+1≤9223372036854775807∧1≤1∧(b2=b2∧0=0)∧∀ (b3 b4 b5:Nat), x2.1+1≤b5→b5≤9223372036854775807→(false=true→1=0→b5=0)→∀ (v25:Int), v25=IntKind.i64.wrap ((↑x2.1:Int)+(1:Int))→∃ (x3:Nat × Nat ×
      Nat × Nat), (b3=x3.2.1∧b4=x3.2.2.1∧0=0∧x2.1+1=x3.1∧b5=x3.2.2.2∧(false&&decide (1=0))=false)∧v25=(↑x3.1:Int)∧((b3=x3.2.1∧b4=x3.2.2.1∧(false&&decide (1=0))=false∧x3.1≤x2.1+1∧x3.1≤x3.2.2.2∧x3.2.2.2≤b5)∧∀ (i2:Nat), i2 < x3.1→(if i2 < x2.1 then (↑(Mk.bitS i2):Int) else v24)=(↑(Mk.bitS i2):Int))∧(8≤x3.1∧(x3.1=8∨x3.1≤8*Int.toNat n)∧x3.1≤x3.2.2.2)∧8*Int.toNat n - x3.1 < 8*Int.toNat n -
      x2.1)∧True)∧True)∧True)∧((x2.2.1=x2.2.1∧x2.2.2.1=x2.2.2.1)∧Int.toNat v4 < x2.1∧((x2.2.1=x2.2.1∧x2.2.2.1=x2.2.2.1)∧Int.toNat v3 < x2.1∧∀ (v23:Int), v23=IntKind.u8.wrap (↑(BitVec.toNat (BitVec.ofInt (IntKind.u8.bits) (↑(Mk.bitS (Int.toNat v2)):Int) ^^^ BitVec.ofInt (IntKind.u8.bits) (↑(Mk.bitS (Int.toNat v3)):Int))):Int)→∀ (v24:Int), v24=IntKind.u8.wrap (↑(BitVec.toNat (BitVec.ofInt (IntKind.u8.bits)
      v23 ^^^ BitVec.ofInt (IntKind.u8.bits) (↑(Mk.bitS (Int.toNat v4)):Int))):Int)→∀ (v25:Int), v25=IntKind.u8.wrap (↑(BitVec.toNat (BitVec.ofInt (IntKind.u8.bits) v24 ^^^ BitVec.ofInt (IntKind.u8.bits) (↑(Mk.bitS (Int.toNat v5)):Int))):Int)→(∀ (b2:Nat),
      ((x2.2.1=x2.2.1∧x2.2.2.1=x2.2.2.1)∧(false=true→false=true)∧0=0∧x2.1≤x2.1∧x2.2.2.2≤x2.2.2.2∧(x2.1+1)*1≤140737488355328∧x2.1+1≤9223372036854775807∧1≤1∧(b2=b2∧0=0)∧∀ (b3 b4 b5:Nat), x2.1+1≤b5→b5≤9223372036854775807→(false=true→1=0→b5=0)→∀ (v26:Int), v26=IntKind.i64.wrap ((↑x2.1:Int)+(1:Int))→∃ (x3:Nat × Nat × Nat × Nat), (b3=x3.2.1∧b4=x3.2.2.1∧0=0∧x2.1+1=x3.1∧b5=x3.2.2.2∧(false&&decide
      (1=0))=false)∧v26=(↑x3.1:Int)∧((b3=x3.2.1∧b4=x3.2.2.1∧(false&&decide (1=0))=false∧x3.1≤x2.1+1∧x3.1≤x3.2.2.2∧x3.2.2.2≤b5)∧∀ (i2:Nat), i2 < x3.1→(if i2 < x2.1 then (↑(Mk.bitS i2):Int) else v25)=(↑(Mk.bitS i2):Int))∧(8≤x3.1∧(x3.1=8∨x3.1≤8*Int.toNat n)∧x3.1≤x3.2.2.2)∧8*Int.toNat n - x3.1 < 8*Int.toNat n - x2.1)∧True)∧True)∧True)∧True)∧((x2.2.1=x2.2.1∧x2.2.2.1=x2.2.2.1)∧Int.toNat v3 <
      x2.1∧((x2.2.1=x2.2.1∧x2.2.2.1=x2.2.2.1)∧Int.toNat v2 < x2.1∧∀ (v24:Int), v24=IntKind.u8.wrap (↑(BitVec.toNat (BitVec.ofInt (IntKind.u8.bits) (↑(Mk.bitS (Int.toNat v2)):Int) ^^^ BitVec.ofInt (IntKind.u8.bits) (↑(Mk.bitS (Int.toNat v3)):Int))):Int)→((x2.2.1=x2.2.1∧x2.2.2.1=x2.2.2.1)∧Int.toNat v4 < x2.1∧∀ (v25:Int), v25=IntKind.u8.wrap (↑(BitVec.toNat (BitVec.ofInt (IntKind.u8.bits) v24 ^^^
      BitVec.ofInt (IntKind.u8.bits) (↑(Mk.bitS (Int.toNat v4)):Int))):Int)→∀ (v26:Int), v26=IntKind.u8.wrap (↑(BitVec.toNat (BitVec.ofInt (IntKind.u8.bits) v25 ^^^ BitVec.ofInt (IntKind.u8.bits) (↑(Mk.bitS (Int.toNat v5)):Int))):Int)→(∀ (b2:Nat),
      ((x2.2.1=x2.2.1∧x2.2.2.1=x2.2.2.1)∧(false=true→false=true)∧0=0∧x2.1≤x2.1∧x2.2.2.2≤x2.2.2.2∧(x2.1+1)*1≤140737488355328∧x2.1+1≤9223372036854775807∧1≤1∧(b2=b2∧0=0)∧∀ (b3 b4 b5:Nat), x2.1+1≤b5→b5≤9223372036854775807→(false=true→1=0→b5=0)→∀ (v27:Int), v27=IntKind.i64.wrap ((↑x2.1:Int)+(1:Int))→∃ (x3:Nat × Nat × Nat × Nat), (b3=x3.2.1∧b4=x3.2.2.1∧0=0∧x2.1+1=x3.1∧b5=x3.2.2.2∧(false&&decide
      (1=0))=false)∧v27=(↑x3.1:Int)∧((b3=x3.2.1∧b4=x3.2.2.1∧(false&&decide (1=0))=false∧x3.1≤x2.1+1∧x3.1≤x3.2.2.2∧x3.2.2.2≤b5)∧∀ (i2:Nat), i2 < x3.1→(if i2 < x2.1 then (↑(Mk.bitS i2):Int) else v26)=(↑(Mk.bitS i2):Int))∧(8≤x3.1∧(x3.1=8∨x3.1≤8*Int.toNat n)∧x3.1≤x3.2.2.2)∧8*Int.toNat n - x3.1 < 8*Int.toNat n - x2.1)∧True)∧True)∧True)∧((x2.2.1=x2.2.1∧x2.2.2.1=x2.2.2.1)∧Int.toNat v4 <
      x2.1∧((x2.2.1=x2.2.1∧x2.2.2.1=x2.2.2.1)∧Int.toNat v2 < x2.1∧∀ (v25:Int), v25=IntKind.u8.wrap (↑(BitVec.toNat (BitVec.ofInt (IntKind.u8.bits) (↑(Mk.bitS (Int.toNat v2)):Int) ^^^ BitVec.ofInt (IntKind.u8.bits) (↑(Mk.bitS (Int.toNat v3)):Int))):Int)→∀ (v26:Int), v26=IntKind.u8.wrap (↑(BitVec.toNat (BitVec.ofInt (IntKind.u8.bits) v25 ^^^ BitVec.ofInt (IntKind.u8.bits) (↑(Mk.bitS (Int.toNat
      v4)):Int))):Int)→∀ (v27:Int), v27=IntKind.u8.wrap (↑(BitVec.toNat (BitVec.ofInt (IntKind.u8.bits) v26 ^^^ BitVec.ofInt (IntKind.u8.bits) (↑(Mk.bitS (Int.toNat v5)):Int))):Int)→(∀ (b2:Nat), ((x2.2.1=x2.2.1∧x2.2.2.1=x2.2.2.1)∧(false=true→false=true)∧0=0∧x2.1≤x2.1∧x2.2.2.2≤x2.2.2.2∧(x2.1+1)*1≤140737488355328∧x2.1+1≤9223372036854775807∧1≤1∧(b2=b2∧0=0)∧∀ (b3 b4 b5:Nat),
      x2.1+1≤b5→b5≤9223372036854775807→(false=true→1=0→b5=0)→∀ (v28:Int), v28=IntKind.i64.wrap ((↑x2.1:Int)+(1:Int))→∃ (x3:Nat × Nat × Nat × Nat), (b3=x3.2.1∧b4=x3.2.2.1∧0=0∧x2.1+1=x3.1∧b5=x3.2.2.2∧(false&&decide (1=0))=false)∧v28=(↑x3.1:Int)∧((b3=x3.2.1∧b4=x3.2.2.1∧(false&&decide (1=0))=false∧x3.1≤x2.1+1∧x3.1≤x3.2.2.2∧x3.2.2.2≤b5)∧∀ (i2:Nat), i2 < x3.1→(if i2 < x2.1 then (↑(Mk.bitS i2):Int) else
      v27)=(↑(Mk.bitS i2):Int))∧(8≤x3.1∧(x3.1=8∨x3.1≤8*Int.toNat n)∧x3.1≤x3.2.2.2)∧8*Int.toNat n - x3.1 < 8*Int.toNat n - x2.1)∧True)∧True)∧True)∧True)∧((x2.2.1=x2.2.1∧x2.2.2.1=x2.2.2.1)∧Int.toNat v4 < x2.1∧((x2.2.1=x2.2.1∧x2.2.2.1=x2.2.2.1)∧Int.toNat v2 < x2.1∧((x2.2.1=x2.2.1∧x2.2.2.1=x2.2.2.1)∧Int.toNat v3 < x2.1∧∀ (v26:Int), v26=IntKind.u8.wrap (↑(BitVec.toNat (BitVec.ofInt (IntKind.u8.bits)
      (↑(Mk.bitS (Int.toNat v2)):Int) ^^^ BitVec.ofInt (IntKind.u8.bits) (↑(Mk.bitS (Int.toNat v3)):Int))):Int)→∀ (v27:Int), v27=IntKind.u8.wrap (↑(BitVec.toNat (BitVec.ofInt (IntKind.u8.bits) v26 ^^^ BitVec.ofInt (IntKind.u8.bits) (↑(Mk.bitS (Int.toNat v4)):Int))):Int)→∀ (v28:Int), v28=IntKind.u8.wrap (↑(BitVec.toNat (BitVec.ofInt (IntKind.u8.bits) v27 ^^^ BitVec.ofInt (IntKind.u8.bits) (↑(Mk.bitS
      (Int.toNat v5)):Int))):Int)→(∀ (b2:Nat), ((x2.2.1=x2.2.1∧x2.2.2.1=x2.2.2.1)∧(false=true→false=true)∧0=0∧x2.1≤x2.1∧x2.2.2.2≤x2.2.2.2∧(x2.1+1)*1≤140737488355328∧x2.1+1≤9223372036854775807∧1≤1∧(b2=b2∧0=0)∧∀ (b3 b4 b5:Nat), x2.1+1≤b5→b5≤9223372036854775807→(false=true→1=0→b5=0)→∀ (v29:Int), v29=IntKind.i64.wrap ((↑x2.1:Int)+(1:Int))→∃ (x3:Nat × Nat × Nat × Nat),
      (b3=x3.2.1∧b4=x3.2.2.1∧0=0∧x2.1+1=x3.1∧b5=x3.2.2.2∧(false&&decide (1=0))=false)∧v29=(↑x3.1:Int)∧((b3=x3.2.1∧b4=x3.2.2.1∧(false&&decide (1=0))=false∧x3.1≤x2.1+1∧x3.1≤x3.2.2.2∧x3.2.2.2≤b5)∧∀ (i2:Nat), i2 < x3.1→(if i2 < x2.1 then (↑(Mk.bitS i2):Int) else v28)=(↑(Mk.bitS i2):Int))∧(8≤x3.1∧(x3.1=8∨x3.1≤8*Int.toNat n)∧x3.1≤x3.2.2.2)∧8*Int.toNat n - x3.1 < 8*Int.toNat n -
      x2.1)∧True)∧True)∧True)∧((x2.2.1=x2.2.1∧x2.2.2.1=x2.2.2.1)∧Int.toNat v3 < x2.1∧((x2.2.1=x2.2.1∧x2.2.2.1=x2.2.2.1)∧Int.toNat v2 < x2.1∧∀ (v27:Int), v27=IntKind.u8.wrap (↑(BitVec.toNat (BitVec.ofInt (IntKind.u8.bits) (↑(Mk.bitS (Int.toNat v2)):Int) ^^^ BitVec.ofInt (IntKind.u8.bits) (↑(Mk.bitS (Int.toNat v3)):Int))):Int)→∀ (v28:Int), v28=IntKind.u8.wrap (↑(BitVec.toNat (BitVec.ofInt (IntKind.u8.bits)
      v27 ^^^ BitVec.ofInt (IntKind.u8.bits) (↑(Mk.bitS (Int.toNat v4)):Int))):Int)→∀ (v29:Int), v29=IntKind.u8.wrap (↑(BitVec.toNat (BitVec.ofInt (IntKind.u8.bits) v28 ^^^ BitVec.ofInt (IntKind.u8.bits) (↑(Mk.bitS (Int.toNat v5)):Int))):Int)→(∀ (b2:Nat),
      ((x2.2.1=x2.2.1∧x2.2.2.1=x2.2.2.1)∧(false=true→false=true)∧0=0∧x2.1≤x2.1∧x2.2.2.2≤x2.2.2.2∧(x2.1+1)*1≤140737488355328∧x2.1+1≤9223372036854775807∧1≤1∧(b2=b2∧0=0)∧∀ (b3 b4 b5:Nat), x2.1+1≤b5→b5≤9223372036854775807→(false=true→1=0→b5=0)→∀ (v30:Int), v30=IntKind.i64.wrap ((↑x2.1:Int)+(1:Int))→∃ (x3:Nat × Nat × Nat × Nat), (b3=x3.2.1∧b4=x3.2.2.1∧0=0∧x2.1+1=x3.1∧b5=x3.2.2.2∧(false&&decide
      (1=0))=false)∧v30=(↑x3.1:Int)∧((b3=x3.2.1∧b4=x3.2.2.1∧(false&&decide (1=0))=false∧x3.1≤x2.1+1∧x3.1≤x3.2.2.2∧x3.2.2.2≤b5)∧∀ (i2:Nat), i2 < x3.1→(if i2 < x2.1 then (↑(Mk.bitS i2):Int) else v29)=(↑(Mk.bitS i2):Int))∧(8≤x3.1∧(x3.1=8∨x3.1≤8*Int.toNat n)∧x3.1≤x3.2.2.2)∧8*Int.toNat n - x3.1 < 8*Int.toNat n - x2.1)∧True)∧True)∧True)∧True)∧True)∧True)∧(decide ((↑x2.1:Int) < v1)=false→(∃ (x3:Nat × Nat × Nat
      × Nat), SVeq (SV.slice 999999 0 0 [] 0 0 0 0 true) (SV.slice 500 x3.2.1 x3.2.2.1 [] 1 0 x3.1 x3.2.2.2 (Nat.beq x3.1 0))∧(0:Int)=(↑x3.1:Int)∧(Nat.beq x3.1 0=true∧x3.1=0∧x3.2.2.2=0)∧x3.1≤Int.toNat n∧x3.1≤x3.2.2.2)∧∀ (x4:Nat × Nat × Nat × Nat), x4.1≤Int.toNat n∧x4.1≤x4.2.2.2→(decide ((↑x4.1:Int) < n)=true→(∃ (x5:Nat × Nat), (↑x4.1:Int)=(↑x5.1:Int)∧(0:Int)=(↑(Mk.reg (8*x5.1) / 2 ^ (8 -
      x5.2)):Int)∧(0:Int)=(↑x5.2:Int)∧Nat.le x5.2 8)∧∀ (x6:Nat × Nat), x6.2≤8→(↑x4.1:Int)=(↑x6.1:Int)→(decide ((↑x6.2:Int) < (8:Int))=true→∀ (v3:Int), v3=IntKind.u8.wrap ((↑(Mk.reg (8*x6.1) / 2 ^ (8 - x6.2)):Int)*(2:Int))→∀ (v4:Int), v4=IntKind.i64.wrap ((8:Int)*(↑x6.1:Int))→∀ (v5:Int), v5=IntKind.i64.wrap (v4+(↑x6.2:Int))→0≤v5∧v5 < (↑x2.1:Int)∧(x2.2.1=x2.2.1∧x2.2.2.1=x2.2.2.1)∧Int.toNat v5 < x2.1∧∀
      (v6:Int), v6=IntKind.u8.wrap (v3+(↑(Mk.bitS (Int.toNat v5)):Int))→∀ (v7:Int), v7=IntKind.i64.wrap ((↑x6.2:Int)+(1:Int))→∃ (x7:Nat × Nat), (↑x6.1:Int)=(↑x7.1:Int)∧v6=(↑(Mk.reg (8*x7.1) / 2 ^ (8 - x7.2)):Int)∧v7=(↑x7.2:Int)∧x7.2≤8∧8 - x7.2 < 8 - x6.2)∧(decide ((↑x6.2:Int) < (8:Int))=false→∀ (b2:Nat), (x4.2.1=x4.2.1∧x4.2.2.1=x4.2.2.1)∧(Nat.beq x4.1 0=true→Nat.beq x4.1
      0=true)∧0=0∧x4.1≤x4.1∧x4.2.2.2≤x4.2.2.2∧(x4.1+1)*1≤140737488355328∧x4.1+1≤9223372036854775807∧1≤1∧(b2=b2∧0=0)∧∀ (b3 b4 b5:Nat), x4.1+1≤b5→b5≤9223372036854775807→(Nat.beq x4.1 0=true→1=0→b5=0)→∀ (v4:Int), v4=IntKind.i64.wrap ((↑x6.1:Int)+(1:Int))→∃ (x7:Nat × Nat × Nat × Nat), (b3=x7.2.1∧b4=x7.2.2.1∧0=0∧x4.1+1=x7.1∧b5=x7.2.2.2∧(Nat.beq x4.1 0&&decide (1=0))=Nat.beq x7.1
      0)∧v4=(↑x7.1:Int)∧((b3=x7.2.1∧b4=x7.2.2.1∧(Nat.beq x4.1 0&&decide (1=0))=Nat.beq x7.1 0∧x7.1≤x4.1+1∧x7.1≤x7.2.2.2∧x7.2.2.2≤b5)∧∀ (i2:Nat), i2 < x7.1→(if i2 < x4.1 then Mk.seqF i2 else (↑(Mk.reg (8*x6.1) / 2 ^ (8 - x6.2)):Int))=Mk.seqF i2)∧(x7.1≤Int.toNat n∧x7.1≤x7.2.2.2)∧Int.toNat n - x7.1 < Int.toNat n - x4.1))∧(decide ((↑x4.1:Int) < n)=false→x4.1≤x4.1∧(∀ (k1:Nat), k1 <
      x4.1→true=true)∧(x4.2.1=x4.2.1∧x4.2.2.1=x4.2.2.1)∧∀ (s1:List UInt8), s1=Byt.of Mk.seqF x4.1→s1=Mk.seqS n∧(0:Int)=Mk.seqE n)))) (by kernel_rfl) ?_
  try simp only [eq_self, true_and, and_true, Nat.le_refl, implies_true, forall_const, Bool.false_eq_true, Bool.true_eq_false, reduceCtorEq, false_imp_iff, true_imp_iff, Int.toNat_zero, Int.toNat_natCast, Nat.zero_lt_one, Int.le_refl, allGet]
  intro t1 ht1
  have ht := seq_t ht1
  refine ⟨fun h => ?_, fun h b1 => ⟨⟨(8, b1, 0, 8), ⟨rfl, rfl, rfl, rfl⟩, rfl, ⟨⟨rfl, rfl, Nat.le_refl _, Nat.le_refl _, Nat.le_refl _⟩, fun i hi => ?_⟩, Nat.le_refl _, .inl rfl, Nat.le_refl _⟩, ?_⟩⟩
  · have h := ht.1 h
    exact ⟨by rw [seqS, if_pos h], by rw [seqE, if_pos h]⟩
  · have hi : i < 8 := hi
    rw [bit_first i hi]
    simp
  have hn := ht.2 h
  have hnn : ¬ (n < 0 ∨ n > 65536) := by omega
  clear ht ht1 h
  rintro ⟨i, b, off, c⟩ ⟨h8, hi, hic⟩ v1 hv1
  dsimp only at h8 hi hic ⊢
  have e1 : v1 = 8 * n := hv1.trans (w64_id (by omega) (by omega))
  subst e1
  clear hv1
  refine ⟨fun hlt => ?_, fun hge => ?_⟩
  · have hlt := of_decide_eq_true hlt
    have w1 : ∀ v : Int, v = IntKind.i64.wrap ((i : Int) - 1) → ∃ a : Nat, v = a ∧ a + 1 = i := fun v h => ⟨i - 1, by rw [h, w64_id (by omega) (by omega)]; omega, by omega⟩
    have w3 : ∀ v : Int, v = IntKind.i64.wrap ((i : Int) - 3) → ∃ a : Nat, v = a ∧ a + 3 = i := fun v h => ⟨i - 3, by rw [h, w64_id (by omega) (by omega)]; omega, by omega⟩
    have w5 : ∀ v : Int, v = IntKind.i64.wrap ((i : Int) - 5) → ∃ a : Nat, v = a ∧ a + 5 = i := fun v h => ⟨i - 5, by rw [h, w64_id (by omega) (by omega)]; omega, by omega⟩
    have w8 : ∀ v : Int, v = IntKind.i64.wrap ((i : Int) - 8) → ∃ a : Nat, v = a ∧ a + 8 = i := fun v h => ⟨i - 8, by rw [h, w64_id (by omega) (by omega)]; omega, by omega⟩
    intro v2 h2
    obtain ⟨a, rfl, ha⟩ := w1 v2 h2
    refine ⟨by omega, by omega, fun v3 h3 => ?_⟩
    obtain ⟨b', rfl, hb⟩ := w3 v3 h3
    refine ⟨by omega, by omega, fun v4 h4 => ?_⟩
    obtain ⟨c', rfl, hc⟩ := w5 v4 h4
    refine ⟨by omega, by omega, fun v5 h5 => ?_⟩
    obtain ⟨d, rfl, hd⟩ := w8 v5 h5
    refine ⟨by omega, by omega, ?_⟩
    simp only [toNat_nat]
    clear h2 h3 h4 h5 w1 w3 w5 w8
    have hleaf := fun (b3 b4 b5 : Nat) (v w : Int) (hv : v = bitS i) => seqr_leaf (b3 := b3) (b4 := b4) (b5 := b5) (v := v) (w := w) h8 (show i < 8 * n.toNat by omega) (by omega) hv
    have hx := fun v w u => xchain (v := v) (w := w) (u := u) ha hb hc hd
    clear hi hic
    repeat' (first
      | exact hleaf _ _ _ _ _ (hx _ _ _ ‹_› ‹_› ‹_›) ‹_› ‹_›
      | (apply And.intro)
      | intro _
      | omega)
  · have hge := of_decide_eq_false hge
    refine ⟨⟨(0, 0, 0, 0), nil_eqv rfl rfl rfl, rfl, ⟨rfl, rfl, rfl⟩, Nat.zero_le _, Nat.zero_le _⟩, ?_⟩
    rintro ⟨j, bb, o, cc⟩ ⟨hj, hjc⟩
    dsimp only at hj hjc ⊢
    refine ⟨fun hl => ?_, fun hg s1 hs1 => ?_⟩
    · have hl := of_decide_eq_true hl
      refine ⟨⟨(j, 0), rfl, ?_, rfl, Nat.zero_le _⟩, ?_⟩
      · have := reg_lt (8 * j)
        show (0 : Int) = ((reg (8 * j) / 2 ^ 8 : Nat) : Int)
        rw [Nat.div_eq_of_lt this]; rfl
      rintro ⟨j', k⟩ hk e
      dsimp only at hk e ⊢
      obtain rfl : j = j' := by omega
      refine ⟨fun hk8 v3 h3 v4 h4 v5 h5 => ?_, fun hk8 => ?_⟩
      · have hk8 := of_decide_eq_true hk8
        have e4 : v4 = 8 * j := h4.trans (w64_id (by omega) (by omega))
        have e5 : v5 = ((8 * j + k : Nat) : Int) := by rw [h5, e4, w64_id (by omega) (by omega)]; omega
        subst e5
        refine ⟨by omega, by omega, by omega, fun v6 h6 v7 h7 => ?_⟩
        refine ⟨(j, k + 1), rfl, ?_, h7.trans (l_succ (by omega)), by show k + 1 ≤ 8; omega, by show 8 - (k + 1) < 8 - k; omega⟩
        show v6 = ((reg (8 * j) / 2 ^ (8 - (k + 1)) : Nat) : Int)
        rw [toNat_nat, bitS_at (8 * j) k (by omega)] at h6
        have hr := reg_lt (8 * j)
        have hpow : 2 ^ (8 - k) = 2 * 2 ^ (7 - k) := by rw [← Nat.pow_succ']; congr 1; omega
        have hdiv : reg (8 * j) / 2 ^ (8 - k) = reg (8 * j) / 2 ^ (7 - k) / 2 := by rw [Nat.div_div_eq_div_mul, hpow, Nat.mul_comm (2 ^ (7 - k)) 2]
        have hq : reg (8 * j) / 2 ^ (7 - k) < 256 := Nat.lt_of_le_of_lt (Nat.div_le_self _ _) hr
        rw [hdiv] at h3
        rw [show 8 - (k + 1) = 7 - k by omega]
        generalize reg (8 * j) / 2 ^ (7 - k) = q at *
        rw [u8_id (by omega) (by omega)] at h3
        rw [h6, h3, u8_id (by omega) (by omega)]
        omega
      · have hk8 := of_decide_eq_false hk8
        obtain rfl : k = 8 := by omega
        refine ⟨fun h => h, by omega, by omega, fun b3 b4 b5 h5 h5' v4 h4 => ?_⟩
        refine ⟨(j + 1, b3, b4, b5), ⟨rfl, rfl, rfl, rfl, Bool.and_false _⟩, h4.trans (l_succ (by omega)), ⟨⟨rfl, rfl, Bool.and_false _, Nat.le_refl _, h5, Nat.le_refl _⟩, fun k hk => ?_⟩, ⟨by show j + 1 ≤ _; omega, h5⟩, by show _ - (j + 1) < _ - j; omega⟩
        have hk : k < j + 1 := hk
        by_cases e : k < j
        · rw [if_pos e]
        · rw [if_neg e, show k = j by omega]
          show ((reg (8 * j) / 2 ^ 0 : Nat) : Int) = _
          rw [Nat.pow_zero, Nat.div_one]; rfl
    · have hg := of_decide_eq_false hg
      obtain rfl : j = n.toNat := by omega
      exact ⟨by rw [hs1, seqS, if_neg hnn, seqL], by rw [seqE, if_neg hnn]⟩
end Mk
