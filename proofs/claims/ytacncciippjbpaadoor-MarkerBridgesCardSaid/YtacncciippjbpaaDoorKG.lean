/-
  OWN WORK. Marker: SameInts, same.
-/
import Derived.Test.YtacncciippjbpaaDoorKF
namespace Mk
open Go Go.Proofs Eng
set_option linter.unusedVariables false
set_option linter.unusedSimpArgs false
set_option maxRecDepth 100000
set_option maxHeartbeats 4000000

/-- Are the first n pairs equal? -/
def eqTo (p : Nat → Bool) : Nat → Bool
  | 0 => true
  | n + 1 => eqTo p n && p n
theorem eqTo_no {p : Nat → Bool} {i : Nat} (h : p i = false) : ∀ {n : Nat}, i < n → eqTo p n = false
  | n + 1, hi => by
    simp only [eqTo]
    by_cases e : i = n
    · subst e; rw [h, Bool.and_false]
    · rw [eqTo_no h (by omega), Bool.false_and]
theorem eqTo_yes {p : Nat → Bool} : ∀ {n : Nat}, (∀ i, i < n → p i = true) → eqTo p n = true
  | 0, _ => rfl
  | n + 1, h => by simp only [eqTo]; rw [eqTo_yes fun i hi => h i (by omega), h n (by omega)]; rfl
abbrev aRows : ArgL (RowD Int × RowD Int × Unit) := .cons (.row (.int .i64)) (.cons (.row (.int .i64)) .nil)
def intsB (a b : RowD Int) : Bool := decide (a.n = b.n) && eqTo (fun i => a.f i == b.f i) a.n
def intsC := pcOf aRows (fun _ => []) (fun x => .bool (intsB x.1 x.2.1))
theorem ints_ok : PcOk Tryd.prog 28 intsC := by
  refine pcOf_run (fun _ => E0_ok) Tryd.func28 rfl (by kernel_rfl) (fun _ => trivial)
    (fun x => [.lp 4 Nat [5] (fun i => [.int .i64 (i : Nat)]) (fun i => i ≤ x.1.n ∧ eqTo (fun i => x.1.f i == x.2.1.f i) i = true) fun i => x.1.n - i, .draw 6 (.take 0 (.take 1 (.take 2 (.take 3 (.take 4 (.take 5 (.take 6 (.take 7 (.take 8 .fin))))))))) []])
    (fun _ => Nat.le_of_ble_eq_true rfl) (fun ⟨⟨b, o, n, c, z, f⟩, ⟨b2, o2, n2, c2, z2, f2⟩, ()⟩ hp hw => ?_)
  have hn : n ≤ c ∧ c ≤ 9223372036854775807 := (hw _ (List.mem_cons_self ..)).2
  refine vc_of (q :=
      ∀ (v1 : Int), v1 = (↑n : Int) → ∀ (v2 : Int), v2 = (↑n2 : Int) → ((v1 != v2) = Bool.true → Bool.false = Mk.intsB (Eng.RowD.mk b o n c z f) (Eng.RowD.mk b2 o2 n2 c2 z2 f2)) ∧ ((v1 != v2) = Bool.false → (∃ (x1 : Nat), (0 : Int) = (↑x1 : Int) ∧ x1 ≤ n ∧ Mk.eqTo (fun (i : Nat) ↦ f i == f2 i) x1 = Bool.true) ∧ ∀ (b1 : Nat), b1 ≤ n ∧ Mk.eqTo (fun (i : Nat) ↦ f i == f2 i) b1 = Bool.true → ∀ (v3 : Int), v3
      = (↑n : Int) → (Decidable.decide ((↑b1 : Int) < v3) = Bool.true → (0 : Int) ≤ (↑b1 : Int) ∧ (↑b1 : Int) < (↑n : Int) ∧ (b = b ∧ o = o) ∧ Int.toNat (↑b1 : Int) < n ∧ (0 : Int) ≤ (↑b1 : Int) ∧ (↑b1 : Int) < (↑n2 : Int) ∧ (b2 = b2 ∧ o2 = o2) ∧ Int.toNat (↑b1 : Int) < n2 ∧ ((f (Int.toNat (↑b1 : Int)) != f2 (Int.toNat (↑b1 : Int))) = Bool.true → Bool.false = Mk.intsB (Eng.RowD.mk b o n c z f)
      (Eng.RowD.mk b2 o2 n2 c2 z2 f2)) ∧ ((f (Int.toNat (↑b1 : Int)) != f2 (Int.toNat (↑b1 : Int))) = Bool.false → ∀ (v4 : Int), v4 = Go.IntKind.wrap Go.IntKind.i64 ((↑b1 : Int) + (1 : Int)) → ∃ (x2 : Nat), v4 = (↑x2 : Int) ∧ (x2 ≤ n ∧ Mk.eqTo (fun (i : Nat) ↦ f i == f2 i) x2 = Bool.true) ∧ n - x2 < n - b1)) ∧ (Decidable.decide ((↑b1 : Int) < v3) = Bool.false → Bool.true = Mk.intsB (Eng.RowD.mk b o n c z
      f) (Eng.RowD.mk b2 o2 n2 c2 z2 f2)))) (by kernel_rfl) ?_
  try simp only [eq_self, true_and, and_true, Nat.le_refl, implies_true, forall_const, Bool.false_eq_true, Bool.true_eq_false, reduceCtorEq, false_imp_iff, true_imp_iff, Int.toNat_zero, Int.toNat_natCast, Nat.zero_lt_one, Int.le_refl, allGet]
  intro v1 h1 v2 h2
  subst h1 h2
  refine ⟨fun h => ?_, fun h => ⟨⟨0, rfl, Nat.zero_le _, rfl⟩, fun i hi v3 hv3 => ?_⟩⟩
  · have : ¬ n = n2 := fun q => by subst q; simp at h
    show false = (decide (n = n2) && _)
    rw [decide_eq_false this]; rfl
  have hnn : n = n2 := by
    have : (n : Int) = n2 := by simpa using h
    omega
  obtain ⟨hi, he⟩ := hi
  subst hv3
  refine ⟨fun hlt => ?_, fun hge => ?_⟩
  · have hlt := of_decide_eq_true hlt
    refine ⟨by omega, by omega, by omega, by omega, by omega, by omega, fun q => ?_, fun q v3 h3 => ⟨i + 1, h3.trans (l_succ (by omega)), ⟨by omega, ?_⟩, by omega⟩⟩
    · have q : (f i == f2 i) = false := by simpa using q
      show false = (_ && eqTo (fun i => f i == f2 i) n)
      rw [eqTo_no (p := fun i => f i == f2 i) q (by omega), Bool.and_false]
    · have q : (f i == f2 i) = true := by simpa using q
      rw [eqTo, he]
      exact q
  · have hge := of_decide_eq_false hge
    obtain rfl : i = n := by omega
    show true = (decide (i = n2) && eqTo (fun i => f i == f2 i) i)
    rw [decide_eq_true hnn, he]; rfl
/-! ### same -/
abbrev BkD := Int × Int × RowD Int × Unit
abbrev eBlk : EltF BkD := .agg (.cons (.elt (.int .i64)) (.cons (.elt (.int .i64)) (.cons (.row (.int .i64)) .nil)))
abbrev aBlks : ArgL (RowD BkD × RowD BkD × Unit) := .cons (.rowF eBlk) (.cons (.rowF eBlk) .nil)
def bkEq (a b : BkD) : Bool := a.1 == b.1 && (a.2.1 == b.2.1 && intsB a.2.2.1 b.2.2.1)
def blksB (a b : RowD BkD) : Bool := decide (a.n = b.n) && eqTo (fun i => bkEq (a.f i) (b.f i)) a.n
def blksC := pcOf aBlks (fun _ => []) (fun x => .bool (blksB x.1 x.2.1))
def EBL : Env := E0.addP 28 intsC
theorem EBL_ok : EnvOk Tryd.prog EBL := E0_ok.addP ints_ok
theorem blks_ok : PcOk Tryd.prog 24 blksC := by
  refine pcOf_run (fun _ => EBL_ok) Tryd.func24 rfl (by kernel_rfl) (fun _ => trivial)
    (fun x => [.lp 4 Nat [5] (fun i => [.int .i64 (i : Nat)]) (fun i => i ≤ x.1.n ∧ eqTo (fun i => bkEq (x.1.f i) (x.2.1.f i)) i = true) fun i => x.1.n - i, .draw 6 (.take 0 (.take 1 (.take 2 (.take 3 (.take 4 (.take 5 (.take 6 (.take 7 (.take 8 (.take 9 (.take 10 (.take 11 (.take 12 (.take 13 (.take 14 (.take 15 (.take 16 (.take 17 (.take 18 (.take 19 (.take 20 (.take 21 (.take 22 (.take 23 (.take 24 (.take 25 (.take 26 (.take 27 (.take 28 (.take 29 (.take 30 (.take 31 (.take 32 (.take 33 (.take 34 (.take 35 (.take 36 (.take 37 .fin)))))))))))))))))))))))))))))))))))))) []])
    (fun _ => Nat.le_of_ble_eq_true rfl) (fun ⟨⟨b, o, n, c, z, f⟩, ⟨b2, o2, n2, c2, z2, f2⟩, ()⟩ hp hw => ?_)
  have hn : n ≤ c ∧ c ≤ 9223372036854775807 := (hw _ (List.mem_cons_self ..)).2
  refine vc_of (q :=
      ∀ (v1 : Int), v1 = (↑n : Int) → ∀ (v2 : Int), v2 = (↑n2 : Int) → ((v1 != v2) = Bool.true → Bool.false = Mk.blksB (Eng.RowD.mk b o n c z f) (Eng.RowD.mk b2 o2 n2 c2 z2 f2)) ∧ ((v1 != v2) = Bool.false → (∃ (x1 : Nat), (0 : Int) = (↑x1 : Int) ∧ x1 ≤ n ∧ Mk.eqTo (fun (i : Nat) ↦ Mk.bkEq (f i) (f2 i)) x1 = Bool.true) ∧ ∀ (b1 : Nat), b1 ≤ n ∧ Mk.eqTo (fun (i : Nat) ↦ Mk.bkEq (f i) (f2 i)) b1 = Bool.true
      → ∀ (v3 : Int), v3 = (↑n : Int) → (Decidable.decide ((↑b1 : Int) < v3) = Bool.true → (0 : Int) ≤ (↑b1 : Int) ∧ (↑b1 : Int) < (↑n : Int) ∧ (b = b ∧ o = o) ∧ Int.toNat (↑b1 : Int) < n ∧ (0 : Int) ≤ (↑b1 : Int) ∧ (↑b1 : Int) < (↑n2 : Int) ∧ (b2 = b2 ∧ o2 = o2) ∧ Int.toNat (↑b1 : Int) < n2 ∧ ((Prod.fst (f (Int.toNat (↑b1 : Int))) != Prod.fst (f2 (Int.toNat (↑b1 : Int)))) = Bool.false → (0 : Int) ≤ (↑b1
      : Int)) ∧ ((Prod.fst (f (Int.toNat (↑b1 : Int))) != Prod.fst (f2 (Int.toNat (↑b1 : Int)))) = Bool.false → (↑b1 : Int) < (↑n : Int)) ∧ ((Prod.fst (f (Int.toNat (↑b1 : Int))) != Prod.fst (f2 (Int.toNat (↑b1 : Int)))) = Bool.false → b = b ∧ o = o) ∧ ((Prod.fst (f (Int.toNat (↑b1 : Int))) != Prod.fst (f2 (Int.toNat (↑b1 : Int)))) = Bool.false → Int.toNat (↑b1 : Int) < n) ∧ ((Prod.fst (f (Int.toNat (↑b1
      : Int))) != Prod.fst (f2 (Int.toNat (↑b1 : Int)))) = Bool.false → (0 : Int) ≤ (↑b1 : Int)) ∧ ((Prod.fst (f (Int.toNat (↑b1 : Int))) != Prod.fst (f2 (Int.toNat (↑b1 : Int)))) = Bool.false → (↑b1 : Int) < (↑n2 : Int)) ∧ ((Prod.fst (f (Int.toNat (↑b1 : Int))) != Prod.fst (f2 (Int.toNat (↑b1 : Int)))) = Bool.false → b2 = b2 ∧ o2 = o2) ∧ ((Prod.fst (f (Int.toNat (↑b1 : Int))) != Prod.fst (f2 (Int.toNat
      (↑b1 : Int)))) = Bool.false → Int.toNat (↑b1 : Int) < n2) ∧ ∀ (t1 : Bool), (t1 = if (Prod.fst (f (Int.toNat (↑b1 : Int))) != Prod.fst (f2 (Int.toNat (↑b1 : Int)))) = Bool.true then Bool.true else Prod.fst (Prod.snd (f (Int.toNat (↑b1 : Int)))) != Prod.fst (Prod.snd (f2 (Int.toNat (↑b1 : Int))))) → (t1 = Bool.false → (0 : Int) ≤ (↑b1 : Int)) ∧ (t1 = Bool.false → (↑b1 : Int) < (↑n : Int)) ∧ (t1 =
      Bool.false → b = b ∧ o = o) ∧ (t1 = Bool.false → Int.toNat (↑b1 : Int) < n) ∧ (t1 = Bool.false → (0 : Int) ≤ (↑b1 : Int)) ∧ (t1 = Bool.false → (↑b1 : Int) < (↑n2 : Int)) ∧ (t1 = Bool.false → b2 = b2 ∧ o2 = o2) ∧ (t1 = Bool.false → Int.toNat (↑b1 : Int) < n2) ∧ (t1 = Bool.false → Eng.RowD.n (Prod.fst (Prod.snd (Prod.snd (f (Int.toNat (↑b1 : Int)))))) ≤ Eng.RowD.n (Prod.fst (Prod.snd (Prod.snd (f
      (Int.toNat (↑b1 : Int))))))) ∧ (t1 = Bool.false → ∀ (k1 : Nat), k1 < Eng.RowD.n (Prod.fst (Prod.snd (Prod.snd (f (Int.toNat (↑b1 : Int)))))) → Bool.true = Bool.true) ∧ (t1 = Bool.false → (Eng.RowD.b (Prod.fst (Prod.snd (Prod.snd (f (Int.toNat (↑b1 : Int)))))), Eng.RowD.off (Prod.fst (Prod.snd (Prod.snd (f (Int.toNat (↑b1 : Int))))))) = (Eng.RowD.b (Prod.fst (Prod.snd (Prod.snd (f (Int.toNat (↑b1 :
      Int)))))), Eng.RowD.off (Prod.fst (Prod.snd (Prod.snd (f (Int.toNat (↑b1 : Int)))))))) ∧ (t1 = Bool.false → Int.toNat (↑b1 : Int) < n) ∧ (t1 = Bool.false → Eng.RowD.n (Prod.fst (Prod.snd (Prod.snd (f2 (Int.toNat (↑b1 : Int)))))) ≤ Eng.RowD.n (Prod.fst (Prod.snd (Prod.snd (f2 (Int.toNat (↑b1 : Int))))))) ∧ (t1 = Bool.false → ∀ (k2 : Nat), k2 < Eng.RowD.n (Prod.fst (Prod.snd (Prod.snd (f2 (Int.toNat
      (↑b1 : Int)))))) → Bool.true = Bool.true) ∧ (t1 = Bool.false → (Eng.RowD.b (Prod.fst (Prod.snd (Prod.snd (f2 (Int.toNat (↑b1 : Int)))))), Eng.RowD.off (Prod.fst (Prod.snd (Prod.snd (f2 (Int.toNat (↑b1 : Int))))))) = (Eng.RowD.b (Prod.fst (Prod.snd (Prod.snd (f2 (Int.toNat (↑b1 : Int)))))), Eng.RowD.off (Prod.fst (Prod.snd (Prod.snd (f2 (Int.toNat (↑b1 : Int)))))))) ∧ (t1 = Bool.false → Int.toNat
      (↑b1 : Int) < n2) ∧ ∀ (t2 : Bool), t2 = Mk.intsB (Prod.fst (Prod.snd (Prod.snd (f (Int.toNat (↑b1 : Int)))))) (Prod.fst (Prod.snd (Prod.snd (f2 (Int.toNat (↑b1 : Int)))))) → ∀ (t3 : Bool), (t3 = if t1 = Bool.true then Bool.true else !t2) → (t3 = Bool.true → Bool.false = Mk.blksB (Eng.RowD.mk b o n c z f) (Eng.RowD.mk b2 o2 n2 c2 z2 f2)) ∧ (t3 = Bool.false → ∀ (v4 : Int), v4 = Go.IntKind.wrap
      Go.IntKind.i64 ((↑b1 : Int) + (1 : Int)) → ∃ (x2 : Nat), v4 = (↑x2 : Int) ∧ (x2 ≤ n ∧ Mk.eqTo (fun (i : Nat) ↦ Mk.bkEq (f i) (f2 i)) x2 = Bool.true) ∧ n - x2 < n - b1)) ∧ (Decidable.decide ((↑b1 : Int) < v3) = Bool.false → Bool.true = Mk.blksB (Eng.RowD.mk b o n c z f) (Eng.RowD.mk b2 o2 n2 c2 z2 f2)))) (by kernel_rfl) ?_
  try simp only [eq_self, true_and, and_true, Nat.le_refl, implies_true, forall_const, Bool.false_eq_true, Bool.true_eq_false, reduceCtorEq, false_imp_iff, true_imp_iff, Int.toNat_zero, Int.toNat_natCast, Nat.zero_lt_one, Int.le_refl, allGet]
  intro v1 h1 v2 h2
  subst h1 h2
  refine ⟨fun h => ?_, fun h => ⟨⟨0, rfl, Nat.zero_le _, rfl⟩, fun i hi v3 hv3 => ?_⟩⟩
  · have : ¬ n = n2 := fun q => by subst q; simp at h
    show false = (decide (n = n2) && _)
    rw [decide_eq_false this]; rfl
  have hnn : n = n2 := by
    have : (n : Int) = n2 := by simpa using h
    omega
  obtain ⟨hi, he⟩ := hi
  subst hv3
  refine ⟨fun hlt => ?_, fun hge => ?_⟩
  · have hlt := of_decide_eq_true hlt
    refine ⟨by omega, by omega, by omega, by omega, by omega, by omega, fun _ => by omega, fun _ => by omega, fun _ => by omega, fun _ => by omega, fun _ => by omega, fun _ => by omega, fun t1 ht1 => ⟨fun _ => by omega, fun _ => by omega, fun _ => by omega, fun _ => by omega, fun _ => by omega, fun _ => by omega, fun _ => by omega, fun _ => by omega, fun t2 ht2 t3 ht3 => ?_⟩⟩
    have ht : t3 = !bkEq (f i) (f2 i) := by
      rw [ht3, ht1, ht2]
      unfold bkEq
      show (if (if (!((f i).1 == (f2 i).1)) = true then true else (!((f i).2.1 == (f2 i).2.1))) = true then true else !intsB (f i).2.2.1 (f2 i).2.2.1) = _
      generalize ((f i).1 == (f2 i).1) = a
      generalize ((f i).2.1 == (f2 i).2.1) = b'
      generalize intsB (f i).2.2.1 (f2 i).2.2.1 = d
      cases a <;> cases b' <;> cases d <;> rfl
    refine ⟨fun q => ?_, fun q v4 h4 => ⟨i + 1, h4.trans (l_succ (by omega)), ⟨by omega, ?_⟩, by omega⟩⟩
    · have q : bkEq (f i) (f2 i) = false := by rw [ht] at q; simpa using q
      show false = (_ && eqTo (fun i => bkEq (f i) (f2 i)) n)
      rw [eqTo_no (p := fun i => bkEq (f i) (f2 i)) q (by omega), Bool.and_false]
    · have q : bkEq (f i) (f2 i) = true := by rw [ht] at q; simpa using q
      rw [eqTo, he]
      exact q
  · have hge := of_decide_eq_false hge
    obtain rfl : i = n := by omega
    show true = (decide (i = n2) && eqTo (fun i => bkEq (f i) (f2 i)) i)
    rw [decide_eq_true hnn, he]; rfl
end Mk
