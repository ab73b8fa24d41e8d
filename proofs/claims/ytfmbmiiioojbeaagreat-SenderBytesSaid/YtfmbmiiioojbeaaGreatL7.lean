/-
  OWN WORK. Units of the program: the reader, where there is enough to read.
-/
import Derived.Test.YtfmbmiiioojbeaaGreatL6
import Derived.Test.YtfmbmiiioojbeaaGreatLC
namespace Rc
open Go Go.Proofs Eng
set_option linter.unusedVariables false
set_option linter.unusedSimpArgs false
set_option maxRecDepth 100000
set_option maxHeartbeats 4000000
theorem numL_snoc (b : UInt8) : ∀ l : List UInt8, numL (l ++ [b]) = numL l * 256 + b.toNat
  | [] => by simp [numL]
  | a :: r => by
    simp only [List.cons_append, numL, List.length_append, List.length_singleton, numL_snoc b r, Nat.pow_succ, Nat.add_mul]
    rw [← Nat.mul_assoc]; omega
abbrev pRd : Arg (Nat × Nat × List UInt8 × Unit) := .optr 142 1 (.agg (.cons (.elt .str) .nil))
abbrev aRd : ArgL ((Nat × Nat × List UInt8 × Unit) × Int × Unit) := .cons pRd (.cons (.elt (.int .i64)) .nil)
def ER0 : Env := E0.inl 116 Tryz.f116 fun _ _ => []
theorem ER0_ok : EnvOk Tryz.prog ER0 := E0_ok.inl _ Tryz.func116 rfl (by kernel_rfl)
def numberC := ecU aRd (fun x => [0 ≤ x.2.1 ∧ x.2.1 ≤ 7, x.2.1 ≤ x.1.2.2.1.length]) (fun _ (_ : Unit) => True) (fun x _ => ((x.1.1, x.1.2.1, x.1.2.2.1.drop x.2.1.toNat, ()), x.2.1, ())) (fun x _ => .int .i64 (numL (x.1.2.2.1.take x.2.1.toNat) : Nat))
theorem number_ok : EcOk Tryz.prog 71 numberC := by
  refine ecC_run (fun _ => ER0_ok) Tryz.func71 rfl (by kernel_rfl) []
    (fun x => [.lp 3 Nat [5, 13] (fun i => [.int .i64 (numL ((x.1.2.2.1.take x.2.1.toNat).take i) : Nat), .int .i64 (i : Nat)]) (fun i => i ≤ x.2.1.toNat) (fun i => x.2.1.toNat - i)])
    (fun _ => Nat.le_of_ble_eq_true rfl) (fun ⟨⟨b, off, l, ()⟩, n, ()⟩ hp hw => ?_)
  refine vc_of (q :=
      (b=b∧off=off)∧∀ (v1:Int), v1=(↑(List.length l):Int)→(decide (n > v1)=true→False)∧(decide (n > v1)=false→(b=b∧off=off)∧(0:Int)≤n∧n≤(↑(List.length l):Int)∧(0:Int)≤0∧(0:Int)≤n∧(b=b∧off=off)∧0≤(↑(List.length l):Int)∧(↑(List.length l):Int)≤(↑(List.length l):Int)∧(0:Int)≤n∧n≤(↑(List.length l):Int)∧(b=b∧off=off)∧∀ (s1:List UInt8), s1=List.drop (Int.toNat (0:Int)) (List.take (Int.toNat n) l)→∀ (b1 b2:Nat),
      List.length s1≤b2→b2≤9223372036854775807→∀ (v2:Int), v2=(↑(List.length s1):Int)→(∃ (x1:Nat), 0=(↑(numL (List.take x1 (List.take (Int.toNat n) l))):Int)∧0=(↑x1:Int)∧Nat.le x1 (Int.toNat n))∧∀ (b3:Nat), b3≤Int.toNat n→(decide ((↑b3:Int) < v2)=true→0≤(↑b3:Int)∧(↑b3:Int) < (↑(List.length s1):Int)∧(b1=b1∧0=0)∧Int.toNat (↑b3:Int) < List.length s1∧(0:Int)≤8∧∀ (v3:Int), v3=IntKind.i64.wrap ((↑(numL
      (List.take b3 (List.take (Int.toNat n) l))):Int)*(2:Int) ^ Min.min (Int.toNat (8:Int)) IntKind.i64.bits)→∀ (v4:Int), v4=IntKind.i64.wrap (↑(UInt8.toNat (List.getD s1 (Int.toNat (↑b3:Int)) 0)):Int)→∀ (v5:Int), v5=IntKind.i64.wrap (↑(BitVec.toNat (BitVec.ofInt IntKind.i64.bits v3 ||| BitVec.ofInt IntKind.i64.bits v4)):Int)→∀ (v6:Int), v6=IntKind.i64.wrap ((↑b3:Int)+(1:Int))→∃ (x2:Nat), v5=(↑(numL
      (List.take x2 (List.take (Int.toNat n) l))):Int)∧v6=(↑x2:Int)∧x2≤Int.toNat n∧Int.toNat n - x2 < Int.toNat n - b3)∧(decide ((↑b3:Int) < v2)=false→∃ (x2:Unit), (↑(numL (List.take b3 (List.take (Int.toNat n) l))):Int)=(↑(numL (List.take (Int.toNat n) l)):Int)∧((b=b∧off=off∧false=false∧1≤1∧1≤1∧1≤1)∧List.drop (Int.toNat n) (List.take (Int.toNat (↑(List.length l):Int)) l)=List.drop (Int.toNat n)
      l)∧True))) (by kernel_rfl) ?_
  try simp only [eq_self, true_and, and_true, Nat.le_refl, implies_true, forall_const, Bool.false_eq_true, Bool.true_eq_false, reduceCtorEq, false_imp_iff, true_imp_iff, Int.toNat_zero, Int.toNat_natCast, Nat.zero_lt_one, Int.le_refl, allGet]
  obtain ⟨⟨n0, n1⟩, n2, _⟩ := hp
  dsimp only at n0 n1 n2
  obtain ⟨m, rfl⟩ : ∃ m : Nat, n = m := ⟨n.toNat, by omega⟩
  have hm : m ≤ l.length := by omega
  intro v1 e1
  refine ⟨fun q => by have := of_decide_eq_true q; omega, fun _ => ⟨n0, n2, n0, by omega, n0, n2, fun s1 f1 b1 g1 g2 v2 e2 => ?_⟩⟩
  have f1 : s1 = l.take m := f1
  subst f1
  have hlen : (l.take m).length = m := by rw [List.length_take]; omega
  have e2 : v2 = m := by rw [e2, hlen]
  subst e2
  refine ⟨⟨0, rfl, rfl, Nat.zero_le _⟩, fun i hi => ⟨fun hlt => ?_, fun hge => ⟨(), ?_, ?_⟩⟩⟩
  · have hlt : i < m := by have := of_decide_eq_true hlt; omega
    have hi2 : i < (l.take m).length := by omega
    refine ⟨by omega, by omega, hi2, by decide, fun v3 e3 v4 e4 v5 e5 v6 e6 => ⟨i + 1, ?_, ?_, hlt, by have : ((m : Nat) : Int).toNat = m := rfl; omega⟩⟩
    · have hb := UInt8.toNat_lt ((l.take m).getD i 0)
      have hN : numL ((l.take m).take i) < 256 ^ 6 := by
        refine Nat.lt_of_lt_of_le (numL_lt _) (Nat.pow_le_pow_right (by decide) ?_)
        rw [List.length_take]; omega
      have hN' : numL ((l.take m).take i) < 281474976710656 := hN
      have e3 : v3 = ((numL ((l.take m).take i) * 256 : Nat) : Int) := by
        rw [e3]; show IntKind.i64.wrap ((numL ((l.take m).take i) : Int) * 256) = _
        rw [w64_id (by omega) (by omega)]; omega
      have e4 : v4 = (((l.take m).getD i 0).toNat : Int) := e4.trans (w64_id (by omega) (by omega))
      rw [e5, e3, e4, BitVec.toNat_or, show IntKind.i64.bits = 64 from rfl, bv_nat (w := 64) (by omega), bv_nat (w := 64) (by omega)]
      have ho : numL ((l.take m).take i) * 256 ||| ((l.take m).getD i 0).toNat = numL ((l.take m).take i) * 256 + ((l.take m).getD i 0).toNat := by
        have := Nat.two_pow_add_eq_or_of_lt (i := 8) (b := ((l.take m).getD i 0).toNat) hb (numL ((l.take m).take i))
        rw [Nat.mul_comm, show (256 : Nat) = 2 ^ 8 from rfl, ← this]
      rw [ho, w64_id (by omega) (by omega)]
      show _ = ((numL ((l.take m).take (i + 1)) : Nat) : Int)
      rw [List.take_succ_eq_append_getElem hi2, numL_snoc, List.getD_eq_getElem?_getD, List.getElem?_eq_getElem hi2]
      rfl
    · rw [e6, w64_id (by omega) (by omega)]; omega
  · have : m ≤ i := by have := of_decide_eq_false hge; omega
    rw [List.take_of_length_le (by show (l.take m).length ≤ i; omega)]
  · rw [List.take_of_length_le (Nat.le_refl _)]
abbrev aR1 : ArgL ((Nat × Nat × List UInt8 × Unit) × Unit) := .cons pRd .nil
def ER1 : Env := ER0.addP 32 cloneC
theorem ER1_ok : EnvOk Tryz.prog ER1 := ER0_ok.addP clone_ok
def restC := ecU aR1 (fun x => [x.1.2.2.1.length ≤ 281474976710656]) (fun _ (_ : Unit) => True) (fun x _ => ((x.1.1, x.1.2.1, [], ()), ())) (fun x _ => .str x.1.2.2.1)
theorem rest_ok : EcOk Tryz.prog 88 restC := by
  refine ecC_run (fun _ => ER1_ok) Tryz.func88 rfl (by kernel_rfl) []
    (fun x => [])
    (fun _ => Nat.le_of_ble_eq_true rfl) (fun ⟨⟨b, off, l, ()⟩, ()⟩ hp hw => ?_)
  refine vc_of (q :=
      (b=b∧off=off)∧∀ (v1:Int), v1=(↑(List.length l):Int)→(b=b∧off=off)∧∀ (v2:Int), v2=(↑(List.length l):Int)→(decide (v1 > v2)=true→False)∧(decide (v1 > v2)=false→(b=b∧off=off)∧0≤v1∧v1≤(↑(List.length l):Int)∧(0:Int)≤0∧0≤v1∧(b=b∧off=off)∧0≤(↑(List.length l):Int)∧(↑(List.length l):Int)≤(↑(List.length l):Int)∧0≤v1∧v1≤(↑(List.length l):Int)∧(b=b∧off=off)∧∀ (s1:List UInt8), s1=List.drop (Int.toNat (0:Int))
      (List.take (Int.toNat v1) l)→List.length s1≤281474976710656∧∀ (s2:List UInt8), s2=s1→∃ (x1:Unit), s2=l∧((b=b∧off=off∧false=false∧1≤1∧1≤1∧1≤1)∧List.drop (Int.toNat v1) (List.take (Int.toNat (↑(List.length l):Int)) l)=[])∧True)) (by kernel_rfl) ?_
  try simp only [eq_self, true_and, and_true, Nat.le_refl, implies_true, forall_const, Bool.false_eq_true, Bool.true_eq_false, reduceCtorEq, false_imp_iff, true_imp_iff, Int.toNat_zero, Int.toNat_natCast, Nat.zero_lt_one, Int.le_refl, allGet]
  intro v1 e1 v2 e2
  subst e1 e2
  obtain ⟨p1, _⟩ := hp
  have p1 : l.length ≤ 281474976710656 := p1
  have hs : ∀ s1, s1 = List.drop 0 (List.take ((l.length : Nat) : Int).toNat l) → s1 = l := fun s1 h => by
    rw [h]; show l.take l.length = l
    exact List.take_of_length_le (Nat.le_refl _)
  refine ⟨fun q => by have := of_decide_eq_true q; omega, fun _ => ⟨by omega, by omega, by omega, by omega, by omega, by omega, fun s1 f1 => ⟨by rw [hs s1 f1]; exact p1, fun s2 f2 => ⟨(), by rw [f2]; exact hs s1 f1, ?_⟩⟩⟩⟩
  show List.drop l.length (l.take l.length) = []
  rw [List.take_of_length_le (Nat.le_refl _), List.drop_length]
end Rc
