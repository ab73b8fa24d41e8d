/-
  OWN WORK. Marker: Mix, the marker's symbols, lists of symbols.
-/
import Derived.Test.YtnibcchhhebfaaaGreatDoorK1
namespace Mk
open Go Go.Proofs Eng
set_option linter.unusedVariables false
set_option linter.unusedSimpArgs false
set_option maxRecDepth 100000
set_option maxHeartbeats 4000000

def E1 : Env := (E0.addP 81 sequ)
theorem E1_ok : EnvOk Tryz.prog E1 := (E0_ok.addP sequ_ok)
theorem bytof_getD {f : Nat → Int} {n k : Nat} (hk : k < n) (h0 : 0 ≤ f k) (h1 : f k < 256) : (((Byt.of f n).getD k 0).toNat : Int) = f k := by
  have : (Byt.of f n)[k]? = some (UInt8.ofNat (f k).toNat) := by simp [Byt.of, hk]
  rw [List.getD_eq_getElem?_getD, this]
  simp
  omega
/-! ### Mix -/
abbrev aStr : ArgL (List UInt8 × Unit) := .cons (.elt .str) .nil
def mixF (b : List UInt8) (k : Nat) : Int := (Nat.xor (b.getD k 0).toNat (reg (8 * k)) : Nat)
def mixS (b : List UInt8) : List UInt8 := if b.length > 65536 then [] else Byt.of (mixF b) b.length
def mixE (b : List UInt8) : Int := if b.length > 65536 then 3 else 0
theorem mixS_len (b : List UInt8) : (mixS b).length ≤ 65536 := by
  unfold mixS
  split
  · exact Nat.zero_le _
  · rw [bytof_len]; omega
def mix := pcOf aStr (fun x => []) (fun x => .tup [.str (mixS x.1), .int .i64 (mixE x.1)])
theorem seqF_nat (k : Nat) : 0 ≤ seqF k ∧ seqF k < 256 := by have := reg_lt (8 * k); unfold seqF; omega
theorem u8_lt (b : UInt8) : b.toNat < 256 := UInt8.toNat_lt b
theorem seqS_of {n : Nat} (h : n ≤ 65536) : seqS (n : Int) = seqL n := by rw [seqS, if_neg (by omega), Int.toNat_natCast]
theorem seqE_of {n : Nat} (h : n ≤ 65536) : seqE (n : Int) = 0 := by rw [seqE, if_neg (by omega)]
theorem app_leaf {i N b2 b3 b4 : Nat} {F : Nat → Int} {v w : Int} {J : Nat → Int} (hi : i < N) (hv : v = F i) (hb : i + 1 ≤ b4) (hw : w = J (i + 1)) :
    ∃ x3 : Nat × Nat × Nat × Nat, (b2 = x3.2.1 ∧ b3 = x3.2.2.1 ∧ i + 1 = x3.1 ∧ b4 = x3.2.2.2 ∧ (Nat.beq i 0 && decide False) = Nat.beq x3.1 0) ∧ w = J x3.1 ∧
      ((b2 = x3.2.1 ∧ b3 = x3.2.2.1 ∧ (Nat.beq i 0 && decide False) = Nat.beq x3.1 0 ∧ x3.1 ≤ i + 1 ∧ x3.1 ≤ x3.2.2.2 ∧ x3.2.2.2 ≤ b4) ∧ ∀ i1 : Nat, i1 < x3.1 → (if i1 < i then F i1 else v) = F i1) ∧
      (x3.1 ≤ N ∧ x3.1 ≤ x3.2.2.2) ∧ N - x3.1 < N - i := by
  refine ⟨(i + 1, b2, b3, b4), ⟨rfl, rfl, rfl, rfl, Bool.and_false _⟩, hw, ⟨⟨rfl, rfl, Bool.and_false _, Nat.le_refl _, hb, Nat.le_refl _⟩, fun k hk => ?_⟩, ⟨hi, hb⟩, by show N - (i + 1) < _; omega⟩
  have hk : k < i + 1 := hk
  by_cases e : k < i
  · rw [if_pos e]
  · rw [if_neg e, hv, show k = i by omega]
theorem mix_ok : PcOk Tryz.prog 55 mix := by
  refine pcOf_run (fun _ => E1_ok) Tryz.func55 rfl (by kernel_rfl) (fun x => ⟨by have := mixS_len x.1; show (mixS x.1).length ≤ _; omega, trivial, trivial⟩)
    (fun x => [.loop ⟨6, Nat × Nat × Nat, [6, 20], fun y => [.slice 0 y.2.1 0 [] 1 0 x.1.length y.2.2 false, .int .i64 (y.1 : Nat)], [0], fun y => [⟨0, y.2.1, 0, 1, x.1.length, fun k => .int .u8 (if k < y.1 then mixF x.1 k else ((x.1.getD k 0).toNat : Int)), true, false, y.2.2, 5, false, none⟩], fun y => y.1 ≤ x.1.length ∧ x.1.length ≤ y.2.2, fun y => x.1.length - y.1⟩,
      .draw 8 (.take 0 (.take 1 (.take 2 (.take 4 (.take 5 (.take 6 (.br 3 (.take 7 (.take 8 (.br 9 .fin .stop))) .stop))))))) [6]]) (fun _ => Nat.le_of_ble_eq_true rfl) (fun ⟨b, ()⟩ hp _ => ?_)
  refine vc_of (q :=
      ∀ (v1:Int), v1=(↑(List.length b):Int)→∀ (s1:List UInt8), s1=Mk.seqS v1→∀ (v2:Int), v2=Mk.seqE v1→((v2 != (0:Int))=true→[]=Mk.mixS b∧(3:Int)=Mk.mixE b)∧((v2 != (0:Int))=false→∀ (b1 b2:Nat), List.length b≤b2→b2≤9223372036854775807→∀ (v3:Int), v3=(↑(List.length b):Int)→(∃ (x1:Nat × Nat × Nat), (b1=x1.2.1∧0=0∧0=0∧List.length b=List.length
      b∧b2=x1.2.2∧false=false)∧(0:Int)=(↑x1.1:Int)∧((b1=x1.2.1∧0=0∧false=false∧List.length b≤List.length b∧List.length b≤x1.2.2∧x1.2.2≤b2)∧∀ (i1:Nat), i1 < List.length b→(↑(UInt8.toNat (List.getD b i1 0)):Int)=if i1 < x1.1 then Mk.mixF b i1 else (↑(UInt8.toNat (List.getD b i1 0)):Int))∧x1.1≤List.length b∧List.length b≤x1.2.2)∧∀ (x2:Nat × Nat × Nat), x2.1≤List.length b∧List.length b≤x2.2.2→(decide
      ((↑x2.1:Int) < v3)=true→(0:Int)≤(↑x2.1:Int)∧(↑x2.1:Int) < (↑(List.length b):Int)∧(0:Int)≤(↑x2.1:Int)∧(↑x2.1:Int) < (↑(List.length s1):Int)∧((x2.2.1=x2.2.1∧0=0)∧Int.toNat (↑x2.1:Int) < List.length b∧∀ (v4:Int), v4=IntKind.u8.wrap (↑(BitVec.toNat (BitVec.ofInt (IntKind.u8.bits) (if Int.toNat (↑x2.1:Int) < x2.1 then Mk.mixF b (Int.toNat (↑x2.1:Int)) else (↑(UInt8.toNat (List.getD b (Int.toNat
      (↑x2.1:Int)) 0)):Int)) ^^^ BitVec.ofInt (IntKind.u8.bits) (↑(UInt8.toNat (List.getD s1 (Int.toNat (↑x2.1:Int)) 0)):Int))):Int)→(0:Int)≤(↑x2.1:Int)∧(↑x2.1:Int) < (↑(List.length b):Int)∧((x2.2.1=x2.2.1∧0=0)∧Int.toNat (↑x2.1:Int) < List.length b∧∀ (v5:Int), v5=IntKind.i64.wrap ((↑x2.1:Int)+(1:Int))→∃ (x3:Nat × Nat × Nat), (x2.2.1=x3.2.1∧0=0∧0=0∧List.length b=List.length
      b∧x2.2.2=x3.2.2∧false=false)∧v5=(↑x3.1:Int)∧((x2.2.1=x3.2.1∧0=0∧false=false∧List.length b≤List.length b∧List.length b≤x3.2.2∧x3.2.2≤x2.2.2)∧∀ (i2:Nat), i2 < List.length b→(if i2=Int.toNat (↑x2.1:Int) then v4 else if i2 < x2.1 then Mk.mixF b i2 else (↑(UInt8.toNat (List.getD b i2 0)):Int))=if i2 < x3.1 then Mk.mixF b i2 else (↑(UInt8.toNat (List.getD b i2 0)):Int))∧(x3.1≤List.length b∧List.length
      b≤x3.2.2)∧List.length b - x3.1 < List.length b - x2.1)∧True)∧True)∧(decide ((↑x2.1:Int) < v3)=false→List.length b≤List.length b∧(∀ (k1:Nat), k1 < List.length b→true=true)∧(x2.2.1=x2.2.1∧0=0)∧∀ (s2:List UInt8), s2=Byt.of (fun (k:Nat) ↦ if k < x2.1 then Mk.mixF b k else (↑(UInt8.toNat (List.getD b k 0)):Int)) (List.length b)→s2=Mk.mixS b∧(0:Int)=Mk.mixE b))) (by kernel_rfl) ?_
  try simp only [eq_self, true_and, and_true, Nat.le_refl, implies_true, forall_const, Bool.false_eq_true, Bool.true_eq_false, reduceCtorEq, false_imp_iff, true_imp_iff, Int.toNat_zero, Int.toNat_natCast, Nat.zero_lt_one, Int.le_refl, allGet]
  intro v1 h1 s1 hs1 v2 hv2
  subst h1
  refine ⟨fun h => ?_, fun h b1 b2 hb hb' v3 h3 => ?_⟩
  · have hl : b.length > 65536 := by
      by_cases q : b.length > 65536
      · exact q
      · rw [hv2, seqE_of (by omega)] at h; simp at h
    exact ⟨by rw [mixS, if_pos hl], by rw [mixE, if_pos hl]⟩
  have hl : b.length ≤ 65536 := by
    by_cases q : b.length > 65536
    · rw [hv2, seqE, if_pos (by omega)] at h; simp at h
    · omega
  rw [seqS_of hl] at hs1
  have hsl : s1.length = b.length := by rw [hs1, seqL, bytof_len]
  refine ⟨⟨(0, b1, b2), ⟨rfl, rfl⟩, rfl, ⟨⟨rfl, hb, Nat.le_refl _⟩, fun i hi => by rw [if_neg (by omega)]⟩, Nat.zero_le _, hb⟩, ?_⟩
  rintro ⟨i, bb, c⟩ ⟨hi, hc⟩
  dsimp only at hi hc ⊢
  refine ⟨fun hlt => ?_, fun hge s2 hs2 => ?_⟩
  · have hlt := of_decide_eq_true hlt
    refine ⟨by omega, by omega, by omega, by omega, by omega, fun v4 h4 => ⟨by omega, by omega, by omega, fun v5 h5 => ?_⟩⟩
    have e4 : v4 = mixF b i := by
      have := bytof_getD (f := seqF) (n := b.length) (k := i) (by omega) (seqF_nat i).1 (seqF_nat i).2
      rw [← seqL, ← hs1] at this
      rw [h4, if_neg (Nat.lt_irrefl _), this]
      exact xor8 (u8_lt _) (reg_lt _)
    refine ⟨(i + 1, bb, c), ⟨rfl, rfl⟩, h5.trans (l_succ (by omega)), ⟨⟨rfl, hc, Nat.le_refl _⟩, fun k hk => ?_⟩, ⟨by show i + 1 ≤ _; omega, hc⟩, by show _ - (i + 1) < _; omega⟩
    by_cases e : k = i
    · rw [if_pos e, if_pos (by show k < i + 1; omega), e4, e]
    · rw [if_neg e]
      by_cases e2 : k < i
      · rw [if_pos e2, if_pos (by show k < i + 1; omega)]
      · rw [if_neg e2, if_neg (by show ¬ k < i + 1; omega)]
  · have hge := of_decide_eq_false hge
    obtain rfl : i = b.length := by omega
    refine ⟨?_, by rw [mixE, if_neg (by omega)]⟩
    rw [hs2, mixS, if_neg (by omega)]
    exact bytof_congr fun k hk => by rw [if_pos hk]
/-! ### the marker -/
theorem arr_sveq0 {n wd : Nat} {f g : Nat → SV} (h : ∀ k, k < n → f k = g k) : SVeq (.arr n wd f) (.arr n wd g) := by
  have e : ((List.range n).flatMap fun i => (f i).flat) = (List.range n).flatMap fun i => (g i).flat := by
    rw [List.flatMap_def, List.flatMap_def]
    congr 1
    exact List.map_congr_left fun i hi => by rw [h i (List.mem_range.1 hi)]
  refine ⟨by simp only [SV.den, e], by simp only [SV.flat, e], rfl, fun hw i hi => ?_⟩
  rw [← h i hi]
  exact hw i hi
theorem arr_sveq {n wd : Nat} {f g : Nat → Int} {q : IntKind} (h : ∀ k, k < n → f k = g k) : SVeq (.arr n wd fun k => .int q (f k)) (.arr n wd fun k => .int q (g k)) := arr_sveq0 fun k hk => by rw [h k hk]
def symF (k : Nat) : Int := (449838109 / 2 ^ (31 - k) % 2 : Nat)
def symL : List UInt8 := Byt.of symF 32
def syms := pcOf .nil (fun _ => []) (fun _ => .str symL)
theorem syms_ok : PcOk Tryz.prog 62 syms := by
  refine pcOf_run (fun _ => E0_ok) Tryz.func62 rfl (by kernel_rfl) (fun x => by show symL.length ≤ _; rw [symL, bytof_len]; omega)
    (fun x => [.loop ⟨3, Nat × Nat, [1, 3], fun y => [.ptr 0 y.2 0 [.elt 0 32], .int .i64 (y.1 : Nat)], [0], fun y => [⟨0, y.2, 0, 32, 1, fun _ => .arr 32 1 fun k => .int .u8 (if k < y.1 then symF k else 0), true, true, 1, 154, false, none⟩], fun y => y.1 ≤ 32, fun y => 32 - y.1⟩]) (fun _ => Nat.le_of_ble_eq_true rfl) (fun () hp _ => ?_)
  refine vc_of (q :=
      ∀ (b1:Nat), (∃ (x1:Nat × Nat), (0=0∧b1=x1.2∧0=0)∧(0:Int)=(↑x1.1:Int)∧((b1=x1.2∧0=0∧false=false∧1≤1∧1≤1∧1≤1)∧SVeq (SV.arr 32 1 fun (x:Nat) ↦ SV.int IntKind.u8 (0:Int)) (SV.arr 32 1 fun (k:Nat) ↦ SV.int IntKind.u8 (if k < x1.1 then Mk.symF k else (0:Int))))∧Nat.le x1.1 32)∧∀ (x2:Nat × Nat), x2.1≤32→(decide ((↑x2.1:Int) < (32:Int))=true→∀ (v1:Int), v1=IntKind.i64.wrap ((31:Int) - (↑x2.1:Int))→0≤v1∧∀
      (v2:Int), v2=Int.fdiv (449838109:Int) ((2:Int) ^ Min.min (Int.toNat v1) (IntKind.u32.bits))→∀ (v3:Int), v3=IntKind.u32.wrap (↑(BitVec.toNat (BitVec.ofInt (IntKind.u32.bits) v2 &&& BitVec.ofInt (IntKind.u32.bits) (1:Int))):Int)→∀ (v4:Int), v4=IntKind.u8.wrap v3→(0:Int)≤(↑x2.1:Int)∧(↑x2.1:Int) < (↑(32:Nat):Int)∧(x2.2=x2.2∧0=0)∧Int.toNat (↑x2.1:Int) < 32∧∀ (v5:Int), v5=IntKind.i64.wrap
      ((↑x2.1:Int)+(1:Int))→∃ (x3:Nat × Nat), (0=0∧x2.2=x3.2∧0=0)∧v5=(↑x3.1:Int)∧((x2.2=x3.2∧0=0∧false=false∧1≤1∧1≤1∧1≤1)∧SVeq (SV.arr 32 1 fun (k:Nat) ↦ SV.int IntKind.u8 (if k=Int.toNat (↑x2.1:Int) then v4 else if k < x2.1 then Mk.symF k else (0:Int))) (SV.arr 32 1 fun (k:Nat) ↦ SV.int IntKind.u8 (if k < x3.1 then Mk.symF k else (0:Int))))∧x3.1≤32∧32 - x3.1 < 32 - x2.1)∧(decide ((↑x2.1:Int) <
      (32:Int))=false→(0:Int)≤(↑(32:Nat):Int)∧(↑(32:Nat):Int)≤(↑(32:Nat):Int)∧32≤32∧(∀ (k1:Nat), k1 < Int.toNat (↑(32:Nat):Int)→true=true)∧(x2.2=x2.2∧0=0)∧∀ (s1:List UInt8), s1=Byt.of (fun (k:Nat) ↦ if k < x2.1 then Mk.symF k else (0:Int)) (Int.toNat (↑(32:Nat):Int))→s1=Mk.symL)) (by kernel_rfl) ?_
  try simp only [eq_self, true_and, and_true, Nat.le_refl, implies_true, forall_const, Bool.false_eq_true, Bool.true_eq_false, reduceCtorEq, false_imp_iff, true_imp_iff, Int.toNat_zero, Int.toNat_natCast, Nat.zero_lt_one, Int.le_refl, allGet]
  refine fun b1 => ⟨⟨(0, b1), rfl, rfl, ⟨rfl, arr_sveq fun k hk => by rw [if_neg (Nat.not_lt_zero _)]⟩, Nat.zero_le _⟩, ?_⟩
  rintro ⟨i, b⟩ hi
  dsimp only at hi ⊢
  refine ⟨fun hlt v1 h1 => ?_, fun hge => ⟨by decide, fun s1 hs1 => ?_⟩⟩
  · have hlt := of_decide_eq_true hlt
    have e1 : v1 = ((31 - i : Nat) : Int) := by rw [h1, w64_id (by omega) (by omega)]; omega
    subst e1
    refine ⟨by omega, fun v2 h2 v3 h3 v4 h4 => ⟨by omega, by omega, by omega, fun v5 h5 => ?_⟩⟩
    have e4 : v4 = symF i := by
      rw [h4, h3, h2, toNat_nat]
      have : allB (fun i => decide (IntKind.u8.wrap (IntKind.u32.wrap ↑(BitVec.ofInt IntKind.u32.bits (Int.fdiv 449838109 (2 ^ min (31 - i) IntKind.u32.bits)) &&& BitVec.ofInt IntKind.u32.bits 1).toNat) = symF i)) 32 = true := by kernel_rfl
      exact of_decide_eq_true (allB_true this i (by omega))
    refine ⟨(i + 1, b), rfl, h5.trans (l_succ (by omega)), ⟨rfl, arr_sveq fun k hk => ?_⟩, by show i + 1 ≤ 32; omega, by show 32 - (i + 1) < 32 - i; omega⟩
    by_cases e : k = i
    · rw [if_pos e, if_pos (by show k < i + 1; omega), e4, e]
    · rw [if_neg e]
      by_cases e2 : k < i
      · rw [if_pos e2, if_pos (by show k < i + 1; omega)]
      · rw [if_neg e2, if_neg (by show ¬ k < i + 1; omega)]
  · have hge := of_decide_eq_false hge
    obtain rfl : i = 32 := by omega
    rw [hs1, symL]
    exact bytof_congr fun k hk => by rw [if_pos hk]
theorem symsR_ok : PcOk Tryz.prog 52 syms := by
  refine pcOf_run (fun _ => E0_ok) Tryz.func52 rfl (by kernel_rfl) (fun x => by show symL.length ≤ _; rw [symL, bytof_len]; omega)
    (fun x => [.loop ⟨3, Nat × Nat × Nat × Nat, [1, 2], fun y => [.slice 500 y.2.1 y.2.2.1 [] 1 0 y.1 y.2.2.2 (Nat.beq y.1 0), .int .i64 (31 - (y.1 : Int))], [], fun y => [⟨500, y.2.1, y.2.2.1, 1, y.1, fun k => .int .u8 (symF k), true, false, y.2.2.2, 5, Nat.beq y.1 0, none⟩], fun y => y.1 ≤ 32 ∧ y.1 ≤ y.2.2.2, fun y => 32 - y.1⟩]) (fun _ => Nat.le_of_ble_eq_true rfl) (fun () hp _ => ?_)
  refine vc_of (q :=
      (∃ (x1:Nat × Nat × Nat × Nat), SVeq (SV.slice 999999 0 0 [] 0 0 0 0 true) (SV.slice 500 x1.2.1 x1.2.2.1 [] 1 0 x1.1 x1.2.2.2 (Nat.beq x1.1 0))∧(31:Int)=(31:Int) - (↑x1.1:Int)∧(Nat.beq x1.1 0=true∧x1.1=0∧x1.2.2.2=0)∧x1.1≤32∧x1.1≤x1.2.2.2)∧∀ (x2:Nat × Nat × Nat × Nat), x2.1≤32∧x2.1≤x2.2.2.2→(decide ((31:Int) - (↑x2.1:Int)≥(0:Int))=true→∀ (v1:Int), v1=IntKind.u64.wrap ((31:Int) - (↑x2.1:Int))→0≤v1∧∀
      (v2:Int), v2=Int.fdiv (449838109:Int) ((2:Int) ^ Min.min (Int.toNat v1) (IntKind.u32.bits))→(2:Int)≠(0:Int)∧∀ (v3:Int), v3=Int.tmod v2 (2:Int)→∀ (v4:Int), v4=IntKind.u8.wrap v3→∀ (b1:Nat), (x2.2.1=x2.2.1∧x2.2.2.1=x2.2.2.1)∧(Nat.beq x2.1 0=true→Nat.beq x2.1 0=true)∧0=0∧x2.1≤x2.1∧x2.2.2.2≤x2.2.2.2∧(x2.1+1)*1≤140737488355328∧x2.1+1≤9223372036854775807∧1≤1∧(b1=b1∧0=0)∧∀ (b2 b3 b4:Nat),
      x2.1+1≤b4→b4≤9223372036854775807→(Nat.beq x2.1 0=true→1=0→b4=0)→∀ (v5:Int), v5=IntKind.i64.wrap ((31:Int) - (↑x2.1:Int) - (1:Int))→∃ (x3:Nat × Nat × Nat × Nat), (b2=x3.2.1∧b3=x3.2.2.1∧0=0∧x2.1+1=x3.1∧b4=x3.2.2.2∧(Nat.beq x2.1 0&&decide (1=0))=Nat.beq x3.1 0)∧v5=31 - (↑x3.1:Int)∧((b2=x3.2.1∧b3=x3.2.2.1∧(Nat.beq x2.1 0&&decide (1=0))=Nat.beq x3.1 0∧x3.1≤x2.1+1∧x3.1≤x3.2.2.2∧x3.2.2.2≤b4)∧∀ (i1:Nat),
      i1 < x3.1→(if i1 < x2.1 then Mk.symF i1 else v4)=Mk.symF i1)∧(x3.1≤32∧x3.1≤x3.2.2.2)∧32 - x3.1 < 32 - x2.1)∧(decide ((31:Int) - (↑x2.1:Int)≥(0:Int))=false→x2.1≤x2.1∧(∀ (k1:Nat), k1 < x2.1→true=true)∧(x2.2.1=x2.2.1∧x2.2.2.1=x2.2.2.1)∧∀ (s1:List UInt8), s1=Byt.of Mk.symF x2.1→s1=Mk.symL)) (by kernel_rfl) ?_
  try simp only [eq_self, true_and, and_true, Nat.le_refl, implies_true, forall_const, Bool.false_eq_true, Bool.true_eq_false, reduceCtorEq, false_imp_iff, true_imp_iff, Int.toNat_zero, Int.toNat_natCast, Nat.zero_lt_one, Int.le_refl, allGet]
  refine ⟨⟨(0, 0, 0, 0), nil_eqv rfl rfl rfl, rfl, ⟨rfl, rfl, rfl⟩, Nat.zero_le _, Nat.zero_le _⟩, ?_⟩
  rintro ⟨i, bb, o, c⟩ ⟨hi, hc⟩
  dsimp only at hi hc ⊢
  refine ⟨fun hlt v1 h1 => ?_, fun hge s1 hs1 => ?_⟩
  · have hlt := of_decide_eq_true hlt
    have e1 : v1 = ((31 - i : Nat) : Int) := by rw [h1, IntKind.wrap_u64]; omega
    subst e1
    refine ⟨by omega, fun v2 h2 => ⟨by decide, fun v3 h3 v4 h4 => ⟨fun h => h, by omega, by omega, fun b2 b3 b4 h4' _ v5 h5 => ?_⟩⟩⟩
    have e4 : v4 = symF i := by
      rw [h4, h3, h2, toNat_nat]
      have : allB (fun i => decide (IntKind.u8.wrap (Int.tmod (Int.fdiv 449838109 (2 ^ min (31 - i) IntKind.u32.bits)) 2) = symF i)) 32 = true := by kernel_rfl
      exact of_decide_eq_true (allB_true this i (by omega))
    exact app_leaf (J := fun i => 31 - (i : Int)) (by omega) e4 h4' (by rw [h5, w64_id (by omega) (by omega)]; omega)
  · have hge := of_decide_eq_false hge
    obtain rfl : i = 32 := by omega
    exact hs1
/-! ### lists of symbols -/
def isSym (b : UInt8) : Bool := Nat.ble b.toNat 1
def listB (l : List UInt8) : Bool := l.all isSym
theorem listB_get {l : List UInt8} (h : listB l = true) (k : Nat) (hk : k < l.length) : isSym (l.getD k 0) = true := by
  rw [List.getD_eq_getElem?_getD, List.getElem?_eq_getElem hk]
  exact List.all_eq_true.1 h _ (List.getElem_mem hk)
theorem listB_of {l : List UInt8} (h : ∀ k, k < l.length → isSym (l.getD k 0) = true) : listB l = true := by
  refine List.all_eq_true.2 fun x hx => ?_
  obtain ⟨k, hk, rfl⟩ := List.getElem_of_mem hx
  have := h k hk
  rwa [List.getD_eq_getElem?_getD, List.getElem?_eq_getElem hk] at this
def listP := pcOf aStr (fun x => []) (fun x => .bool (listB x.1))
theorem list_ok : PcOk Tryz.prog 51 listP := by
  refine pcOf_run (fun _ => E0_ok) Tryz.func51 rfl (by kernel_rfl) (fun x => trivial)
    (fun x => [.lp 2 Nat [3] (fun i => [.int .i64 (i : Nat)]) (fun i => i ≤ x.1.length ∧ ∀ k, k < i → isSym (x.1.getD k 0) = true) fun i => x.1.length - i]) (fun _ => Nat.le_of_ble_eq_true rfl) (fun ⟨b, ()⟩ hp hw => ?_)
  have hlen : b.length ≤ 9223372036854775807 := hw (.str b) (List.mem_cons_self ..)
  refine vc_of (q :=
      (∃ (x1:Nat), (0:Int)=(↑x1:Int)∧x1≤List.length b∧∀ (k1:Nat), k1 < x1→Mk.isSym (List.getD b k1 0)=true)∧∀ (b1:Nat), (b1≤List.length b∧∀ (k:Nat), k < b1→Mk.isSym (List.getD b k 0)=true)→∀ (v1:Int), v1=(↑(List.length b):Int)→(decide ((↑b1:Int) < v1)=true→(0:Int)≤(↑b1:Int)∧(↑b1:Int) < (↑(List.length b):Int)∧(decide ((↑(UInt8.toNat (List.getD b (Int.toNat (↑b1:Int)) 0)):Int) >
      (1:Int))=true→false=Mk.listB b)∧(decide ((↑(UInt8.toNat (List.getD b (Int.toNat (↑b1:Int)) 0)):Int) > (1:Int))=false→∀ (v2:Int), v2=IntKind.i64.wrap ((↑b1:Int)+(1:Int))→∃ (x2:Nat), v2=(↑x2:Int)∧(x2≤List.length b∧∀ (k2:Nat), k2 < x2→Mk.isSym (List.getD b k2 0)=true)∧List.length b - x2 < List.length b - b1))∧(decide ((↑b1:Int) < v1)=false→true=Mk.listB b)) (by kernel_rfl) ?_
  try simp only [eq_self, true_and, and_true, Nat.le_refl, implies_true, forall_const, Bool.false_eq_true, Bool.true_eq_false, reduceCtorEq, false_imp_iff, true_imp_iff, Int.toNat_zero, Int.toNat_natCast, Nat.zero_lt_one, Int.le_refl, allGet]
  refine ⟨⟨0, rfl, Nat.zero_le _, fun k hk => by omega⟩, ?_⟩
  rintro i ⟨hi, hs⟩ v1 h1
  subst h1
  refine ⟨fun hlt => ?_, fun hge => ?_⟩
  · have hlt := of_decide_eq_true hlt
    refine ⟨by omega, by omega, fun h => ?_, fun h v2 h2 => ?_⟩
    · have h := of_decide_eq_true h
      cases hb : listB b with
      | false => rfl
      | true =>
        have := listB_get hb i (by omega)
        unfold isSym at this
        have := Nat.le_of_ble_eq_true this
        omega
    · have h := of_decide_eq_false h
      refine ⟨i + 1, h2.trans (l_succ (by omega)), ⟨by omega, fun k hk => ?_⟩, by omega⟩
      by_cases e : k < i
      · exact hs k e
      · obtain rfl : k = i := by omega
        exact Nat.ble_eq_true_of_le (by omega)
  · have hge := of_decide_eq_false hge
    obtain rfl : i = b.length := by omega
    exact (listB_of hs).symm
end Mk
