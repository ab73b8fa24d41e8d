/-
  OWN WORK. The reference's reader of units.
-/
import Derived.Test.YtfmbmiiioojbeaaGreatLJ
namespace Rc
open Go Go.Proofs Eng
set_option linter.unusedVariables false
set_option linter.unusedSimpArgs false
set_option maxRecDepth 100000
set_option maxHeartbeats 4000000
abbrev aRn : ArgL (List UInt8 × Int × Int × Unit) := .cons (.elt .str) (.cons (.elt (.int .i64)) (.cons (.elt (.int .i64)) .nil))
def numberRC := ecU aRn (fun x => [0 ≤ x.2.1, 0 ≤ x.2.2.1 ∧ x.2.2.1 ≤ 6, x.2.1 + x.2.2.1 ≤ x.1.length ∧ x.1.length ≤ 281474976710656]) (fun _ (_ : Unit) => True) (fun x _ => x) (fun x _ => .int .i64 (numL ((x.1.drop x.2.1.toNat).take x.2.2.1.toNat) : Nat))
theorem numberR_ok : EcOk Tryz.prog 38 numberRC := by
  refine ecC_run (fun _ => E0_ok) Tryz.func38 rfl (by kernel_rfl) []
    (fun x => [.lp 3 Nat [7, 8] (fun i => [.int .i64 (numL ((x.1.drop x.2.1.toNat).take i) : Nat), .int .i64 (x.2.1 + (i : Nat))]) (fun i => i ≤ x.2.2.1.toNat) (fun i => x.2.2.1.toNat - i)])
    (fun _ => Nat.le_of_ble_eq_true rfl) (fun ⟨l, a, m, ()⟩ hp hw => ?_)
  refine vc_of (q :=
      (∃ (x1:Nat), 0=(↑(numL (List.take x1 (List.drop (Int.toNat a) l))):Int)∧a=a+(↑x1:Int)∧Nat.le x1 (Int.toNat m))∧∀ (b1:Nat), b1≤Int.toNat m→∀ (v1:Int), v1=IntKind.i64.wrap (a+m)→∀ (v2:Int), v2=IntKind.i64.wrap (a+m)→∀ (v3:Int), v3=(↑(List.length l):Int)→∀ (t1:Bool), (t1=if decide (a+(↑b1:Int) < v1)=true then decide (v2≤v3) else false)→(t1=true→∀ (v4:Int), v4=IntKind.i64.wrap ((↑(numL (List.take b1
      (List.drop (Int.toNat a) l))):Int)*(256:Int))→(0:Int)≤a+(↑b1:Int)∧a+(↑b1:Int) < (↑(List.length l):Int)∧∀ (v5:Int), v5=IntKind.i64.wrap (↑(UInt8.toNat (List.getD l (Int.toNat (a+(↑b1:Int))) 0)):Int)→∀ (v6:Int), v6=IntKind.i64.wrap (v4+v5)→∀ (v7:Int), v7=IntKind.i64.wrap (a+(↑b1:Int)+(1:Int))→∃ (x2:Nat), v6=(↑(numL (List.take x2 (List.drop (Int.toNat a) l))):Int)∧v7=a+(↑x2:Int)∧x2≤Int.toNat
      m∧Int.toNat m - x2 < Int.toNat m - b1)∧(t1=false→∃ (x2:Unit), (↑(numL (List.take b1 (List.drop (Int.toNat a) l))):Int)=(↑(numL (List.take (Int.toNat m) (List.drop (Int.toNat a) l))):Int)∧True)) (by kernel_rfl) ?_
  try simp only [eq_self, true_and, and_true, Nat.le_refl, implies_true, forall_const, Bool.false_eq_true, Bool.true_eq_false, reduceCtorEq, false_imp_iff, true_imp_iff, Int.toNat_zero, Int.toNat_natCast, Nat.zero_lt_one, Int.le_refl, allGet]
  obtain ⟨a0, ⟨m0, m6⟩, ⟨hl, hb⟩, _⟩ := hp
  dsimp only at a0 m0 m6 hl hb
  obtain ⟨m, rfl⟩ : ∃ k : Nat, m = k := ⟨m.toNat, by omega⟩
  obtain ⟨a, rfl⟩ : ∃ k : Nat, a = k := ⟨a.toNat, by omega⟩
  have tm : ((m : Nat) : Int).toNat = m := rfl
  have ta : ((a : Nat) : Int).toNat = a := rfl
  rw [tm, ta]
  refine ⟨⟨0, rfl, by omega, Nat.zero_le _⟩, fun i hi v1 e1 v2 e2 v3 e3 t f => ?_⟩
  have e1 : v1 = a + m := e1.trans (w64_id (by omega) (by omega))
  have e2 : v2 = a + m := e2.trans (w64_id (by omega) (by omega))
  have h2 : v2 ≤ v3 := by omega
  refine ⟨fun ht => ?_, fun hf => ?_⟩
  · rw [f] at ht
    have hlt : i < m := by
      split at ht
      · rename_i q; have := of_decide_eq_true q; omega
      · cases ht
    have hi2 : i < (l.drop a).length := by rw [List.length_drop]; omega
    intro v4 e4
    refine ⟨by omega, by omega, fun v5 e5 v6 e6 v7 e7 => ⟨i + 1, ?_, ?_, hlt, by omega⟩⟩
    · have hB := UInt8.toNat_lt (l.getD ((a : Int) + (i : Nat)).toNat 0)
      have hN : numL ((l.drop a).take i) < 256 ^ 6 := by
        refine Nat.lt_of_lt_of_le (numL_lt _) (Nat.pow_le_pow_right (by decide) ?_)
        rw [List.length_take]; omega
      have hN' : numL ((l.drop a).take i) < 281474976710656 := hN
      have e4 := e4.trans (w64_id (by omega) (by omega))
      have e5 := e5.trans (w64_id (by omega) (by omega))
      rw [e6, e4, e5, w64_id (by omega) (by omega)]
      have hix : ((a : Int) + (i : Nat)).toNat = a + i := by omega
      rw [List.take_succ_eq_append_getElem hi2, numL_snoc, hix, List.getD_eq_getElem?_getD, List.getElem?_eq_getElem (by omega), List.getElem_drop]
      show _ = ((numL ((l.drop a).take i) * 256 + (l[a + i]'(by omega)).toNat : Nat) : Int)
      simp
    · rw [e7, w64_id (by omega) (by omega)]; omega
  · have : m ≤ i := by
      rw [f] at hf
      split at hf
      · exact absurd (of_decide_eq_false hf) (by omega)
      · rename_i q; have : ¬ ((a : Int) + (i : Nat) < v1) := fun h => q (decide_eq_true h); omega
    exact ⟨(), by rw [show i = m by omega]⟩
abbrev aRs : ArgL (List UInt8 × Int × Unit) := .cons (.elt .str) (.cons (.elt (.int .i64)) .nil)
def restRC := ecU aRs (fun x => [0 ≤ x.2.1, x.1.length ≤ 281474976710656]) (fun _ (_ : Unit) => True) (fun x _ => x) (fun x _ => .str (x.1.drop x.2.1.toNat))
theorem restR_ok : EcOk Tryz.prog 40 restRC := by
  refine ecC_run (fun _ => E0_ok) Tryz.func40 rfl (by kernel_rfl) []
    (fun x => [])
    (fun _ => Nat.le_of_ble_eq_true rfl) (fun ⟨l, n, ()⟩ hp hw => ?_)
  refine vc_of (q :=
      ∀ (v1:Int), v1=(↑(List.length l):Int)→∀ (v2:Int), (v2=if v1 < n then v1 else n)→0≤(↑(List.length l):Int)∧(↑(List.length l):Int)≤(↑(List.length l):Int)∧0≤v2∧v2≤(↑(List.length l):Int)∧∃ (x1:Unit), List.drop (Int.toNat v2) (List.take (Int.toNat (↑(List.length l):Int)) l)=List.drop (Int.toNat n) l∧True) (by kernel_rfl) ?_
  try simp only [eq_self, true_and, and_true, Nat.le_refl, implies_true, forall_const, Bool.false_eq_true, Bool.true_eq_false, reduceCtorEq, false_imp_iff, true_imp_iff, Int.toNat_zero, Int.toNat_natCast, Nat.zero_lt_one, Int.le_refl, allGet]
  obtain ⟨n0, _⟩ := hp
  have n0 : 0 ≤ n := n0
  intro v1 e1 v2 e2
  refine ⟨by omega, by rw [e2]; split <;> omega, by rw [e2]; split <;> omega, (), ?_⟩
  rw [List.take_of_length_le (Nat.le_refl _), e2]
  split
  · rw [List.drop_eq_nil_of_le (by omega), List.drop_eq_nil_of_le (by omega)]
  · rfl
end Rc
