/-
  OWN WORK. The convolutional code: the trellis.
-/
import Derived.Test.YtnibcchhhebfaaaGreatDoorEngN
import Derived.Test.YtnibcchhhebfaaaGreatDoorTy
import Derived.Test.YtnibcchhhebfaaaGreatDoorEngQ
namespace Vt
/-- The parity of seven bits. -/
def par (n : Nat) : Nat := (n % 2 + n / 2 % 2 + n / 4 % 2 + n / 8 % 2 + n / 16 % 2 + n / 32 % 2 + n / 64 % 2) % 2
def reg (s b : Nat) : Nat := 64 * b + s
def nxt (s b : Nat) : Nat := reg s b / 2
def fs (s b : Nat) : Nat := par (Nat.land (reg s b) 121)
def sc (s b : Nat) : Nat := 1 - par (Nat.land (reg s b) 91)
theorem par_le (n : Nat) : par n ≤ 1 := by unfold par; omega
theorem fs_le (s b : Nat) : fs s b ≤ 1 := par_le _
theorem sc_le (s b : Nat) : sc s b ≤ 1 := by unfold sc; omega
theorem nxt_lt {s b : Nat} (hs : s < 64) (hb : b < 2) : nxt s b < 64 := by unfold nxt reg; omega
/-- The states that bits lead through. -/
def stAt (bt : Nat → Nat) : Nat → Nat
  | 0 => 0
  | i + 1 => nxt (stAt bt i) (bt i)
theorem stAt_lt {bt : Nat → Nat} (h : ∀ i, bt i < 2) : ∀ i, stAt bt i < 64
  | 0 => (by decide : (0 : Nat) < 64)
  | i + 1 => nxt_lt (stAt_lt h i) (h i)
/-- Symbol k of what bits are encoded to. -/
def sym (bt : Nat → Nat) (k : Nat) : Nat := if k % 2 = 0 then fs (stAt bt (k / 2)) (bt (k / 2)) else sc (stAt bt (k / 2)) (bt (k / 2))
theorem sym_le (bt : Nat → Nat) (k : Nat) : sym bt k ≤ 1 := by unfold sym; split <;> first | exact fs_le _ _ | exact sc_le _ _
/-- Soft values without noise. -/
def sft (c : Nat) : Int := if c = 0 then -7 else 7
/-- What a step adds. -/
def gain (f g : Nat) (x y : Int) : Int := (f : Int) * x + (g : Int) * y
def least : Int := -1099511627776
/-- The sum of a way to t over the state before it number k. -/
def frm (t k : Nat) : Nat := 2 * (t % 32) + k
def cand (n8 i : Nat) (u : Nat → Int) (x y : Int) (t k : Nat) : Int := if n8 ≤ i ∧ 32 ≤ t then least else u (frm t k) + gain (fs (frm t k) (t / 32)) (sc (frm t k) (t / 32)) x y
theorem frm_lt {t k : Nat} (hk : k < 2) : frm t k < 64 := by unfold frm; omega
theorem frm_nxt {s b : Nat} (hs : s < 64) (_ : b < 2) : nxt s b / 32 = b ∧ frm (nxt s b) (s % 2) = s := by unfold frm nxt reg; omega
theorem nxt_frm {t k : Nat} (_ : t < 64) (hk : k < 2) : nxt (frm t k) (t / 32) = t := by unfold frm nxt reg; omega
/-- The bits of a message, the first one the highest, and zeros behind it. -/
def bitsOf (l : List UInt8) (i : Nat) : Nat := if i < 8 * l.length then (l.getD (i / 8) 0).toNat / 2 ^ (7 - i % 8) % 2 else 0
theorem bitsOf_lt (l : List UInt8) (i : Nat) : bitsOf l i < 2 := by unfold bitsOf; split <;> omega
theorem bitsOf_tail (l : List UInt8) (i : Nat) (h : 8 * l.length ≤ i) : bitsOf l i = 0 := if_neg (by omega)
/-- Six zeros lead to the state 0. -/
theorem st_end {bt : Nat → Nat} (hb : ∀ i, bt i < 2) {n : Nat} (h : ∀ i, n ≤ i → bt i = 0) : stAt bt (n + 6) = 0 := by
  have h0 := stAt_lt hb n
  have e0 : stAt bt (n + 1) = stAt bt n / 2 := by show nxt _ _ = _; rw [h n (by omega)]; unfold nxt reg; omega
  have e1 : stAt bt (n + 2) = stAt bt (n + 1) / 2 := by show nxt _ _ = _; rw [h (n + 1) (by omega)]; unfold nxt reg; omega
  have e2 : stAt bt (n + 3) = stAt bt (n + 2) / 2 := by show nxt _ _ = _; rw [h (n + 2) (by omega)]; unfold nxt reg; omega
  have e3 : stAt bt (n + 4) = stAt bt (n + 3) / 2 := by show nxt _ _ = _; rw [h (n + 3) (by omega)]; unfold nxt reg; omega
  have e4 : stAt bt (n + 5) = stAt bt (n + 4) / 2 := by show nxt _ _ = _; rw [h (n + 4) (by omega)]; unfold nxt reg; omega
  have e5 : stAt bt (n + 6) = stAt bt (n + 5) / 2 := by show nxt _ _ = _; rw [h (n + 5) (by omega)]; unfold nxt reg; omega
  omega
/-- The last bit stands at the state's top. -/
theorem st_bit {bt : Nat → Nat} (hb : ∀ i, bt i < 2) (i : Nat) : stAt bt (i + 1) / 32 = bt i := (frm_nxt (stAt_lt hb i) (hb i)).1
end Vt
namespace Vt
open Go Go.Proofs Eng
set_option linter.unusedVariables false
set_option linter.unusedSimpArgs false
set_option maxRecDepth 100000
def E0 : Env := .base tenv
theorem E0_ok : EnvOk Tryz.prog E0 := .base (by kernel_rfl) tenv_ok
def allB (p : Nat → Bool) : Nat → Bool
  | 0 => true
  | n + 1 => p n && allB p n
theorem allB_true {p : Nat → Bool} : ∀ {n : Nat}, allB p n = true → ∀ i, i < n → p i = true
  | 0, _, i, hi => by omega
  | n + 1, h, i, hi => by
    have h : (p n && allB p n) = true := h
    rw [Bool.and_eq_true] at h
    rcases Nat.lt_or_ge i n with q | q
    · exact allB_true h.2 i q
    · obtain rfl : i = n := by omega
      exact h.1
def i64and (a b : Int) : Int := IntKind.i64.wrap ((BitVec.ofInt IntKind.i64.bits a &&& BitVec.ofInt IntKind.i64.bits b).toNat : Int)
def parOk (n : Nat) : Bool := decide (n = 0) || (decide (i64and n (IntKind.i64.wrap ((n : Int) - 1)) = ((Nat.land n (n - 1) : Nat) : Int)) && decide (Nat.land n (n - 1) < n) && decide (par n + par (Nat.land n (n - 1)) = 1))
theorem par_all : allB parOk 128 = true := by decide +kernel
theorem xor_one {k : Nat} (h : k ≤ 1) : IntKind.i64.wrap ((BitVec.ofInt IntKind.i64.bits (k : Int) ^^^ BitVec.ofInt IntKind.i64.bits 1).toNat : Int) = ((1 - k : Nat) : Int) := by
  rcases (by omega : k = 0 ∨ k = 1) with rfl | rfl <;> decide
theorem one_xor {k : Nat} (h : k ≤ 1) : IntKind.i64.wrap ((BitVec.ofInt IntKind.i64.bits 1 ^^^ BitVec.ofInt IntKind.i64.bits (k : Int)).toNat : Int) = ((1 - k : Nat) : Int) := by
  rcases (by omega : k = 0 ∨ k = 1) with rfl | rfl <;> decide
abbrev aI : ArgL (Int × Unit) := .cons (.elt (.int .i64)) .nil
def parC := pcOf aI (fun x => [0 ≤ x.1 ∧ x.1 < 128]) (fun x => .int .i64 (par x.1.toNat : Nat))
theorem par_ok : PcOk Tryz.prog 146 parC := by
  refine pcOf_run (fun _ => E0_ok) Tryz.func146 rfl (by kernel_rfl) (fun _ => trivial)
    (fun x => [.lp 2 (Nat × Nat) [0, 3] (fun y => [.int .i64 (y.1 : Nat), .int .i64 (y.2 : Nat)]) (fun y => y.1 < 128 ∧ y.2 ≤ 1 ∧ (y.2 + par y.1) % 2 = par x.1.toNat) (fun y => y.1)]) (fun _ => Nat.le_of_ble_eq_true rfl) (fun ⟨n, ()⟩ hp hw => ?_)
  refine vc_of (q :=
      (∃ (x1:Nat × Nat), n=(↑x1.1:Int)∧(0:Int)=(↑x1.2:Int)∧x1.1 < 128∧x1.2≤1∧(x1.2+Vt.par x1.1) % 2=Vt.par (Int.toNat n))∧∀ (x2:Nat × Nat), x2.1 < 128∧x2.2≤1∧(x2.2+Vt.par x2.1) % 2=Vt.par (Int.toNat n)→(((↑x2.1:Int) != (0:Int))=true→∀ (v1:Int), v1=IntKind.i64.wrap (↑(BitVec.toNat (BitVec.ofInt (IntKind.i64.bits) (↑x2.2:Int) ^^^ BitVec.ofInt (IntKind.i64.bits) (1:Int))):Int)→∀ (v2:Int),
      v2=IntKind.i64.wrap ((↑x2.1:Int) - (1:Int))→∀ (v3:Int), v3=IntKind.i64.wrap (↑(BitVec.toNat (BitVec.ofInt (IntKind.i64.bits) (↑x2.1:Int) &&& BitVec.ofInt (IntKind.i64.bits) v2)):Int)→∃ (x3:Nat × Nat), v3=(↑x3.1:Int)∧v1=(↑x3.2:Int)∧(x3.1 < 128∧x3.2≤1∧(x3.2+Vt.par x3.1) % 2=Vt.par (Int.toNat n))∧x3.1 < x2.1)∧(((↑x2.1:Int) != (0:Int))=false→(↑x2.2:Int)=(↑(Vt.par (Int.toNat n)):Int))) (by kernel_rfl) ?_
  obtain ⟨⟨n0, n1⟩, _⟩ := hp
  dsimp only at n0 n1
  refine ⟨⟨(n.toNat, 0), by dsimp only; omega, rfl, by dsimp only; omega, Nat.zero_le _, ?_⟩, ?_⟩
  · have := par_le n.toNat
    dsimp only
    omega
  rintro ⟨m, k⟩ ⟨h1, h2, h3⟩
  dsimp only at h1 h2 h3 ⊢
  refine ⟨fun hm v1 e1 v2 e2 v3 e3 => ?_, fun hm => ?_⟩
  · have hm : m ≠ 0 := by simpa using hm
    have h := allB_true par_all m h1
    simp only [parOk, decide_eq_false hm, Bool.false_or, Bool.and_eq_true, decide_eq_true_eq] at h
    obtain ⟨⟨p1, p2⟩, p3⟩ := h
    have := par_le m
    refine ⟨(Nat.land m (m - 1), 1 - k), by rw [e3, e2]; exact p1, e1.trans (xor_one h2), ⟨by dsimp only; omega, by dsimp only; omega, by dsimp only; omega⟩, p2⟩
  · have hm : m = 0 := by simpa using hm
    subst hm
    have : par 0 = 0 := rfl
    have := par_le n.toNat
    omega
def stepOk (i : Nat) : Bool :=
  decide (IntKind.i64.wrap ((BitVec.ofInt IntKind.i64.bits ((i / 64 : Nat) : Int) &&& ~~~ BitVec.ofInt IntKind.i64.bits 1).toNat : Int) = 0) &&
  decide (IntKind.i64.wrap ((BitVec.ofInt IntKind.i64.bits (IntKind.i64.wrap (((i / 64 : Nat) : Int) * 64)) ||| BitVec.ofInt IntKind.i64.bits ((i % 64 : Nat) : Int)).toNat : Int) = ((reg (i % 64) (i / 64) : Nat) : Int)) &&
  decide (i64and (reg (i % 64) (i / 64) : Nat) 121 = ((Nat.land (reg (i % 64) (i / 64)) 121 : Nat) : Int)) && decide (i64and (reg (i % 64) (i / 64) : Nat) 91 = ((Nat.land (reg (i % 64) (i / 64)) 91 : Nat) : Int)) &&
  decide (Nat.land (reg (i % 64) (i / 64)) 121 < 128) && decide (Nat.land (reg (i % 64) (i / 64)) 91 < 128)
theorem step_all : allB stepOk 128 = true := by decide +kernel
abbrev aII : ArgL (Int × Int × Unit) := .cons (.elt (.int .i64)) (.cons (.elt (.int .i64)) .nil)
def stepC := pcOf aII (fun x => [0 ≤ x.1 ∧ x.1 < 64, 0 ≤ x.2.1 ∧ x.2.1 < 2]) (fun x => .tup [.int .i64 (nxt x.1.toNat x.2.1.toNat : Nat), .int .i64 (fs x.1.toNat x.2.1.toNat : Nat), .int .i64 (sc x.1.toNat x.2.1.toNat : Nat)])
def EST : Env := E0.addP 146 parC
theorem EST_ok : EnvOk Tryz.prog EST := E0_ok.addP par_ok
theorem step_ok : PcOk Tryz.prog 115 stepC := by
  refine pcOf_run (fun _ => EST_ok) Tryz.func115 rfl (by kernel_rfl) (fun _ => ⟨trivial, trivial, trivial, trivial⟩)
    (fun x => []) (fun _ => Nat.le_of_ble_eq_true rfl) (fun ⟨s, b, ()⟩ hp hw => ?_)
  refine vc_of (q :=
      ∀ (t1:Bool), (t1=if decide (s < (0:Int))=true then true else decide (s≥(64:Int)))→∀ (v1:Int), v1=IntKind.i64.wrap (↑(BitVec.toNat (BitVec.ofInt (IntKind.i64.bits) b &&& ~~~BitVec.ofInt (IntKind.i64.bits) (1:Int))):Int)→∀ (t2:Bool), (t2=if t1=true then true else v1 != (0:Int))→(t2=true→(0:Int)=(↑(Vt.nxt (Int.toNat s) (Int.toNat b)):Int)∧(0:Int)=(↑(Vt.fs (Int.toNat s) (Int.toNat
      b)):Int)∧(0:Int)=(↑(Vt.sc (Int.toNat s) (Int.toNat b)):Int))∧(t2=false→∀ (v2:Int), v2=IntKind.i64.wrap (b*(64:Int))→∀ (v3:Int), v3=IntKind.i64.wrap (↑(BitVec.toNat (BitVec.ofInt (IntKind.i64.bits) v2 ||| BitVec.ofInt (IntKind.i64.bits) s)):Int)→(0:Int)≤(1:Int)∧∀ (v4:Int), v4=Int.fdiv v3 ((2:Int) ^ Min.min (Int.toNat (1:Int)) (IntKind.i64.bits))→∀ (v5:Int), v5=IntKind.i64.wrap (↑(BitVec.toNat
      (BitVec.ofInt (IntKind.i64.bits) v3 &&& BitVec.ofInt (IntKind.i64.bits) (121:Int))):Int)→(0≤v5∧v5 < 128)∧∀ (v6:Int), v6=(↑(Vt.par (Int.toNat v5)):Int)→∀ (v7:Int), v7=IntKind.i64.wrap (↑(BitVec.toNat (BitVec.ofInt (IntKind.i64.bits) v3 &&& BitVec.ofInt (IntKind.i64.bits) (91:Int))):Int)→(0≤v7∧v7 < 128)∧∀ (v8:Int), v8=(↑(Vt.par (Int.toNat v7)):Int)→∀ (v9:Int), v9=IntKind.i64.wrap (↑(BitVec.toNat
      (BitVec.ofInt (IntKind.i64.bits) (1:Int) ^^^ BitVec.ofInt (IntKind.i64.bits) v8)):Int)→v4=(↑(Vt.nxt (Int.toNat s) (Int.toNat b)):Int)∧v6=(↑(Vt.fs (Int.toNat s) (Int.toNat b)):Int)∧v9=(↑(Vt.sc (Int.toNat s) (Int.toNat b)):Int))) (by kernel_rfl) ?_
  obtain ⟨⟨s0, s1⟩, ⟨b0, b1⟩, _⟩ := hp
  dsimp only at s0 s1 b0 b1
  obtain ⟨s, rfl⟩ : ∃ k : Nat, s = k := ⟨s.toNat, by omega⟩
  obtain ⟨b, rfl⟩ : ∃ k : Nat, b = k := ⟨b.toNat, by omega⟩
  have h := allB_true step_all (64 * b + s) (by omega)
  simp only [stepOk, show (64 * b + s) / 64 = b by omega, show (64 * b + s) % 64 = s by omega, Bool.and_eq_true, decide_eq_true_eq] at h
  obtain ⟨⟨⟨⟨⟨p1, p2⟩, p3⟩, p4⟩, p5⟩, p6⟩ := h
  simp only [Int.toNat_natCast]
  intro t1 f1 v1 e1 t2 f2
  have ht : t2 = false := by
    have q1 : t1 = false := by rw [f1, if_neg (by simp), decide_eq_false (by omega)]
    rw [f2, q1, if_neg (by decide), e1, p1]; rfl
  subst ht
  refine ⟨fun q => (by cases q), fun _ v2 e2 v3 e3 => ?_⟩
  have e3 : v3 = ((reg s b : Nat) : Int) := by rw [e3, e2]; exact p2
  subst e3
  refine ⟨by decide, fun v4 e4 v5 e5 => ?_⟩
  have e5 : v5 = _ := e5.trans p3
  subst e5
  refine ⟨⟨by omega, by exact_mod_cast p5⟩, fun v6 e6 v7 e7 => ?_⟩
  have e7 : v7 = _ := e7.trans p4
  subst e7
  refine ⟨⟨by omega, by exact_mod_cast p6⟩, fun v8 e8 v9 e9 => ⟨?_, ?_, ?_⟩⟩
  · rw [e4]
    show Int.fdiv ((reg s b : Nat) : Int) 2 = _
    rw [Int.fdiv_eq_ediv_of_nonneg _ (by decide)]
    rfl
  · rw [e6, Int.toNat_natCast]; rfl
  · rw [e9, e8, Int.toNat_natCast]
    exact one_xor (par_le _)
def symsC := pcOf aI (fun _ => []) (fun x => .int .i64 (if x.1 < 0 ∨ x.1 > 1100 then 0 else 16 * x.1 + 12))
theorem syms_ok : PcOk Tryz.prog 32 symsC := by
  refine pcOf_run (fun _ => E0_ok) Tryz.func32 rfl (by kernel_rfl) (fun _ => trivial)
    (fun x => []) (fun _ => Nat.le_of_ble_eq_true rfl) (fun ⟨n, ()⟩ hp hw => ?_)
  refine vc_of (q :=
      ∀ (t1:Bool), (t1=if decide (n < (0:Int))=true then true else decide (n > (1100:Int)))→(t1=true→(0:Int)=if n < (0:Int)∨n > (1100:Int) then (0:Int) else (16:Int)*n+(12:Int))∧(t1=false→∀ (v1:Int), v1=IntKind.i64.wrap ((8:Int)*n)→∀ (v2:Int), v2=IntKind.i64.wrap (v1+(6:Int))→∀ (v3:Int), v3=IntKind.i64.wrap ((2:Int)*v2)→v3=if n < (0:Int)∨n > (1100:Int) then (0:Int) else (16:Int)*n+(12:Int))) (by kernel_rfl) ?_
  intro t1 f1
  refine ⟨fun q => ?_, fun q v1 e1 v2 e2 v3 e3 => ?_⟩
  · rw [if_pos]
    rw [f1] at q
    split at q
    · rename_i h; exact .inl (of_decide_eq_true h)
    · exact .inr (of_decide_eq_true q)
  · rw [f1] at q
    split at q
    · cases q
    · rename_i h
      have h := of_decide_eq_false (by simpa using h : decide (n < 0) = false)
      have := of_decide_eq_false q
      rw [if_neg (by omega), e3, e2, e1, w64_id (x := 8 * n) (by omega) (by omega), w64_id (x := 8 * n + 6) (by omega) (by omega), w64_id (by omega) (by omega)]
      omega
end Vt
namespace Vt
open Go Go.Proofs Eng
set_option linter.unusedVariables false
set_option linter.unusedSimpArgs false
set_option maxRecDepth 100000
set_option maxHeartbeats 4000000
theorem arr_eqv {n wd : Nat} {f g : Nat → SV} (h : ∀ k, k < n → f k = g k) : SVeq (.arr n wd f) (.arr n wd g) := by
  have hfl : (List.range n).flatMap (fun i => (f i).flat) = (List.range n).flatMap (fun i => (g i).flat) := flatMap_congr_range n fun i hi => by rw [h i hi]
  exact ⟨by simp only [SV.den, hfl], by simp only [SV.flat, hfl], rfl, fun hw i hi => by rw [← h i hi]; exact hw i hi⟩
/-- A row added to another one: its first l bytes. -/
theorem arr_sv {n wd : Nat} {f g : Nat → SV} (h : ∀ k, k < n → SVeq (f k) (g k)) (hn : ∀ k, k < n → (g k).nt = true) : SVeq (.arr n wd f) (.arr n wd g) := by
  have hfl : (List.range n).flatMap (fun i => (f i).flat) = (List.range n).flatMap (fun i => (g i).flat) := flatMap_congr_range n fun i hi => (h i hi).flat
  exact ⟨by simp only [SV.den, hfl], by simp only [SV.flat, hfl], rfl, fun hw i hi => ⟨(h i hi).wf (hw i hi).1, by rw [← (h i hi).sz]; exact (hw i hi).2.1, hn i hi⟩⟩
def ptG : SV → Nat
  | .ptr g _ _ _ => g
  | _ => 0
/-- The steps that stand in the trellis where p says so; elsewhere zeros. -/
abbrev trG (p : Nat → Nat → Bool) : Nat → SV := fun s => .arr 2 3 fun b => .agg [.int .i64 (if p s b then (nxt s b : Nat) else 0), .int .i64 (if p s b then (fs s b : Nat) else 0), .int .i64 (if p s b then (sc s b : Nat) else 0)]
def trLoop (fr : Fr) (H : Hp) : LA := ⟨3, Nat, [7], fun i => [.int .i64 (i : Nat)], [ptG (slotV fr 1)], fun i => [{ entG H (ptG (slotV fr 1)) with get := fun _ => .arr 64 6 (trG fun s _ => decide (s < i)) }], fun i => i ≤ 64, fun i => 64 - i⟩
def trLoop2 (fr : Fr) (H : Hp) : LA := ⟨6, Nat, [10], fun j => [.int .i64 (j : Nat)], [ptG (slotV fr 1)], fun j => [{ entG H (ptG (slotV fr 1)) with get := fun _ => .arr 64 6 (trG fun s b => decide (s < (intOf (slotV fr 2)).toNat) || (decide (s = (intOf (slotV fr 2)).toNat) && decide (b < j))) }], fun j => j ≤ 2, fun j => 2 - j⟩
abbrev trelV : SV := .arr 64 6 (trG fun _ _ => true)
def trelC := pcOf .nil (fun _ => []) (fun _ => trelV)
def ETR : Env := E0.addP 115 stepC
theorem ETR_ok : EnvOk Tryz.prog ETR := E0_ok.addP step_ok
theorem trel_ok : PcOk Tryz.prog 82 trelC := by
  refine pcOf_run (fun _ => ETR_ok) Tryz.func82 rfl (by kernel_rfl) (fun _ => fun i hi => ⟨fun j hj => ⟨⟨trivial, rfl, trivial, rfl, trivial, rfl, trivial⟩, rfl, rfl⟩, rfl, rfl⟩)
    (fun x => [.loopD 3 trLoop, .loopD 6 trLoop2]) (fun _ => Nat.le_of_ble_eq_true rfl) (fun ⟨⟩ hp hw => ?_)
  refine vc_of (q :=
      ∀ (b1 b2:Nat), (∃ (x1:Nat), (0:Int)=(↑x1:Int)∧((b2=b2∧0=0∧false=false∧1≤1∧1≤1∧1≤1)∧SVeq (SV.arr 64 6 fun (x:Nat) ↦ SV.arr 2 3 fun (x:Nat) ↦ SV.agg [SV.int IntKind.i64 (0:Int), SV.int IntKind.i64 (0:Int), SV.int IntKind.i64 (0:Int)]) (SV.arr 64 6 fun (s:Nat) ↦ SV.arr 2 3 fun (b:Nat) ↦ SV.agg [SV.int IntKind.i64 (if decide (s < x1)=true then (↑(Vt.nxt s b):Int) else (0:Int)), SV.int IntKind.i64 (if
      decide (s < x1)=true then (↑(Vt.fs s b):Int) else (0:Int)), SV.int IntKind.i64 (if decide (s < x1)=true then (↑(Vt.sc s b):Int) else (0:Int))]))∧Nat.le x1 64)∧∀ (b3:Nat), b3≤64→(decide ((↑b3:Int) < (64:Int))=true→(∃ (x2:Nat), (0:Int)=(↑x2:Int)∧((b2=b2∧0=0∧false=false∧1≤1∧1≤1∧1≤1)∧SVeq (SV.arr 64 6 fun (s:Nat) ↦ SV.arr 2 3 fun (b:Nat) ↦ SV.agg [SV.int IntKind.i64 (if decide (s < b3)=true then
      (↑(Vt.nxt s b):Int) else (0:Int)), SV.int IntKind.i64 (if decide (s < b3)=true then (↑(Vt.fs s b):Int) else (0:Int)), SV.int IntKind.i64 (if decide (s < b3)=true then (↑(Vt.sc s b):Int) else (0:Int))]) (SV.arr 64 6 fun (s:Nat) ↦ SV.arr 2 3 fun (b:Nat) ↦ SV.agg [SV.int IntKind.i64 (if (decide (s < Int.toNat (↑b3:Int))||decide (s=Int.toNat (↑b3:Int))&&decide (b < x2))=true then (↑(Vt.nxt s b):Int)
      else (0:Int)), SV.int IntKind.i64 (if (decide (s < Int.toNat (↑b3:Int))||decide (s=Int.toNat (↑b3:Int))&&decide (b < x2))=true then (↑(Vt.fs s b):Int) else (0:Int)), SV.int IntKind.i64 (if (decide (s < Int.toNat (↑b3:Int))||decide (s=Int.toNat (↑b3:Int))&&decide (b < x2))=true then (↑(Vt.sc s b):Int) else (0:Int))]))∧Nat.le x2 2)∧∀ (b4:Nat), b4≤2→(decide ((↑b4:Int) <
      (2:Int))=true→((0:Int)≤(↑b3:Int)∧(↑b3:Int) < (64:Int))∧((0:Int)≤(↑b4:Int)∧(↑b4:Int) < (2:Int))∧∀ (v1:Int), v1=(↑(Vt.nxt (Int.toNat (↑b3:Int)) (Int.toNat (↑b4:Int))):Int)→∀ (v2:Int), v2=(↑(Vt.fs (Int.toNat (↑b3:Int)) (Int.toNat (↑b4:Int))):Int)→∀ (v3:Int), v3=(↑(Vt.sc (Int.toNat (↑b3:Int)) (Int.toNat (↑b4:Int))):Int)→(0:Int)≤(↑b3:Int)∧(↑b3:Int) < (↑(64:Nat):Int)∧(0:Int)≤(↑b4:Int)∧(↑b4:Int) <
      (↑(2:Nat):Int)∧(b2=b2∧0=0)∧Int.toNat (↑b3:Int) < 64∧Int.toNat (↑b4:Int) < 2∧∀ (v4:Int), v4=IntKind.i64.wrap ((↑b4:Int)+(1:Int))→∃ (x3:Nat), v4=(↑x3:Int)∧((b2=b2∧0=0∧false=false∧1≤1∧1≤1∧1≤1)∧SVeq (SV.arr 64 6 fun (k:Nat) ↦ SV.arr 2 3 fun (k_1:Nat) ↦ SV.agg [SV.int IntKind.i64 (if k=Int.toNat (↑b3:Int) then if k_1=Int.toNat (↑b4:Int) then v1 else if (decide (Int.toNat (↑b3:Int) < Int.toNat
      (↑b3:Int))||decide (Int.toNat (↑b3:Int)=Int.toNat (↑b3:Int))&&decide (k_1 < b4))=true then (↑(Vt.nxt (Int.toNat (↑b3:Int)) k_1):Int) else (0:Int) else if (decide (k < Int.toNat (↑b3:Int))||decide (k=Int.toNat (↑b3:Int))&&decide (k_1 < b4))=true then (↑(Vt.nxt k k_1):Int) else (0:Int)), SV.int IntKind.i64 (if k=Int.toNat (↑b3:Int) then if k_1=Int.toNat (↑b4:Int) then v2 else if (decide (Int.toNat
      (↑b3:Int) < Int.toNat (↑b3:Int))||decide (Int.toNat (↑b3:Int)=Int.toNat (↑b3:Int))&&decide (k_1 < b4))=true then (↑(Vt.fs (Int.toNat (↑b3:Int)) k_1):Int) else (0:Int) else if (decide (k < Int.toNat (↑b3:Int))||decide (k=Int.toNat (↑b3:Int))&&decide (k_1 < b4))=true then (↑(Vt.fs k k_1):Int) else (0:Int)), SV.int IntKind.i64 (if k=Int.toNat (↑b3:Int) then if k_1=Int.toNat (↑b4:Int) then v3 else if
      (decide (Int.toNat (↑b3:Int) < Int.toNat (↑b3:Int))||decide (Int.toNat (↑b3:Int)=Int.toNat (↑b3:Int))&&decide (k_1 < b4))=true then (↑(Vt.sc (Int.toNat (↑b3:Int)) k_1):Int) else (0:Int) else if (decide (k < Int.toNat (↑b3:Int))||decide (k=Int.toNat (↑b3:Int))&&decide (k_1 < b4))=true then (↑(Vt.sc k k_1):Int) else (0:Int))]) (SV.arr 64 6 fun (s:Nat) ↦ SV.arr 2 3 fun (b:Nat) ↦ SV.agg [SV.int
      IntKind.i64 (if (decide (s < Int.toNat (↑b3:Int))||decide (s=Int.toNat (↑b3:Int))&&decide (b < x3))=true then (↑(Vt.nxt s b):Int) else (0:Int)), SV.int IntKind.i64 (if (decide (s < Int.toNat (↑b3:Int))||decide (s=Int.toNat (↑b3:Int))&&decide (b < x3))=true then (↑(Vt.fs s b):Int) else (0:Int)), SV.int IntKind.i64 (if (decide (s < Int.toNat (↑b3:Int))||decide (s=Int.toNat (↑b3:Int))&&decide (b <
      x3))=true then (↑(Vt.sc s b):Int) else (0:Int))]))∧x3≤2∧2 - x3 < 2 - b4)∧(decide ((↑b4:Int) < (2:Int))=false→∀ (v2:Int), v2=IntKind.i64.wrap ((↑b3:Int)+(1:Int))→∃ (x3:Nat), v2=(↑x3:Int)∧((b2=b2∧0=0∧false=false∧1≤1∧1≤1∧1≤1)∧SVeq (SV.arr 64 6 fun (s:Nat) ↦ SV.arr 2 3 fun (b:Nat) ↦ SV.agg [SV.int IntKind.i64 (if (decide (s < Int.toNat (↑b3:Int))||decide (s=Int.toNat (↑b3:Int))&&decide (b < b4))=true
      then (↑(Vt.nxt s b):Int) else (0:Int)), SV.int IntKind.i64 (if (decide (s < Int.toNat (↑b3:Int))||decide (s=Int.toNat (↑b3:Int))&&decide (b < b4))=true then (↑(Vt.fs s b):Int) else (0:Int)), SV.int IntKind.i64 (if (decide (s < Int.toNat (↑b3:Int))||decide (s=Int.toNat (↑b3:Int))&&decide (b < b4))=true then (↑(Vt.sc s b):Int) else (0:Int))]) (SV.arr 64 6 fun (s:Nat) ↦ SV.arr 2 3 fun (b:Nat) ↦ SV.agg
      [SV.int IntKind.i64 (if decide (s < x3)=true then (↑(Vt.nxt s b):Int) else (0:Int)), SV.int IntKind.i64 (if decide (s < x3)=true then (↑(Vt.fs s b):Int) else (0:Int)), SV.int IntKind.i64 (if decide (s < x3)=true then (↑(Vt.sc s b):Int) else (0:Int))]))∧x3≤64∧64 - x3 < 64 - b3))∧(decide ((↑b3:Int) < (64:Int))=false→(b2=b2∧0=0)∧(b1=b1∧0=0)∧(b1=b1∧0=0)∧SVeq (SV.arr 64 6 fun (s:Nat) ↦ SV.arr 2 3 fun
      (b:Nat) ↦ SV.agg [SV.int IntKind.i64 (if decide (s < b3)=true then (↑(Vt.nxt s b):Int) else (0:Int)), SV.int IntKind.i64 (if decide (s < b3)=true then (↑(Vt.fs s b):Int) else (0:Int)), SV.int IntKind.i64 (if decide (s < b3)=true then (↑(Vt.sc s b):Int) else (0:Int))]) (SV.arr 64 6 fun (s:Nat) ↦ SV.arr 2 3 fun (b:Nat) ↦ SV.agg [SV.int IntKind.i64 (if true=true then (↑(Vt.nxt s b):Int) else (0:Int)),
      SV.int IntKind.i64 (if true=true then (↑(Vt.fs s b):Int) else (0:Int)), SV.int IntKind.i64 (if true=true then (↑(Vt.sc s b):Int) else (0:Int))]))) (by kernel_rfl) ?_
  refine fun b1 b2 => ⟨⟨0, rfl, ⟨⟨rfl, rfl, rfl, Nat.le_refl _, Nat.le_refl _, Nat.le_refl _⟩, arr_sv (fun s hs => arr_eqv fun b hb => by simp) (fun _ _ => rfl)⟩, Nat.zero_le _⟩, fun i hi => ⟨fun hlt => ?_, fun hge => ?_⟩⟩
  · have hlt := of_decide_eq_true hlt
    refine ⟨⟨0, rfl, ⟨⟨rfl, rfl, rfl, Nat.le_refl _, Nat.le_refl _, Nat.le_refl _⟩, arr_sv (fun s hs => arr_eqv fun b hb => by simp only [Int.toNat_natCast]; simp) (fun _ _ => rfl)⟩, Nat.zero_le _⟩, fun j hj => ⟨fun hlt2 => ?_, fun hge2 v2 e2 => ⟨i + 1, e2.trans (l_succ (by omega)), ⟨⟨rfl, rfl, rfl, Nat.le_refl _, Nat.le_refl _, Nat.le_refl _⟩, arr_sv (fun s hs => arr_eqv fun b hb => ?_) (fun _ _ => rfl)⟩, by omega, by omega⟩⟩⟩
    · have hlt2 := of_decide_eq_true hlt2
      refine ⟨⟨by omega, by omega⟩, ⟨by omega, by omega⟩, fun v1 e1 v2 e2 v3 e3 => ⟨by omega, by omega, by omega, by omega, ⟨rfl, rfl⟩, by omega, by omega, fun v4 e4 => ⟨j + 1, e4.trans (l_succ (by omega)), ⟨⟨rfl, rfl, rfl, Nat.le_refl _, Nat.le_refl _, Nat.le_refl _⟩, arr_sv (fun s hs => arr_eqv fun b hb => ?_) (fun _ _ => rfl)⟩, by omega, by omega⟩⟩⟩
      subst e1 e2 e3
      by_cases q1 : s = i
      · subst q1
        by_cases q2 : b = j
        · subst q2; simp
        · simp [q2, show b < j + 1 ↔ b < j by omega]
      · simp [q1]
    · have hge2 := of_decide_eq_false hge2
      have : j = 2 := by omega
      subst this
      simp [hb, show s < i + 1 ↔ s < i ∨ s = i by omega]
  · have hge := of_decide_eq_false hge
    have : i = 64 := by omega
    subst this
    exact ⟨⟨rfl, rfl⟩, ⟨rfl, rfl⟩, ⟨rfl, rfl⟩, arr_sv (fun s hs => arr_eqv fun b hb => by simp [hs]) (fun _ _ => rfl)⟩
end Vt
