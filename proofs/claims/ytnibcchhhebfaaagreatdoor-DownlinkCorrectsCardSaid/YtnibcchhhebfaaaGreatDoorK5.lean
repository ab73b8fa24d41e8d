/-
  OWN WORK. Marker: awake.
-/
import Derived.Test.YtnibcchhhebfaaaGreatDoorK4
namespace Mk
open Go Go.Proofs Eng
set_option linter.unusedVariables false
set_option linter.unusedSimpArgs false
set_option maxRecDepth 100000
set_option maxHeartbeats 4000000

/-! ### values that are none -/
def isV (x : Int) : Bool := decide (-8 ≤ x) && decide (x ≤ 7)
def softB (f : Nat → Int) : Nat → Bool
  | 0 => true
  | n + 1 => softB f n && isV (f n)
theorem softB_false {f : Nat → Int} {k : Nat} (h : isV (f k) = false) : ∀ {n : Nat}, k < n → softB f n = false
  | n + 1, hk => by
    simp only [softB]
    by_cases e : k = n
    · subst e; rw [h, Bool.and_false]
    · rw [softB_false h (by omega), Bool.false_and]
abbrev aCon : ArgL (RowD Int × Unit × Unit) := .cons (.row (.int .i64)) (.cons (.fnc 66 .nil) .nil)
def conC := pcOf aCon (fun x => []) (fun x => .bool (!softB x.1.f x.1.n))
def EF (x : RowD Int × Unit × Unit) : Env := (E0.inl 66 Tryz.f66 fun _ _ => []).inl 99 Tryz.f99 fun _ _ => [.lp 2 Nat [8] (fun i => [.int .i64 (i : Nat)]) (fun i => i ≤ x.1.n ∧ softB x.1.f i = true) fun i => x.1.n - i]
theorem EF_ok (x : RowD Int × Unit × Unit) : EnvOk Tryz.prog (EF x) := (E0_ok.inl _ Tryz.func66 rfl (by kernel_rfl)).inl _ Tryz.func99 rfl (by kernel_rfl)
theorem con_ok : PcOk Tryz.prog 65 conC := by
  refine pcOf_run EF_ok Tryz.func65 rfl (by kernel_rfl) (fun x => trivial)
    (fun x => []) (fun _ => Nat.le_of_ble_eq_true rfl) (fun ⟨⟨b, off, n, c, z, f⟩, (), ()⟩ hp hw => ?_)
  have hn : n ≤ c ∧ c ≤ 9223372036854775807 := (hw _ (List.mem_cons_self ..)).2
  refine vc_of (q :=
      ∀ (v1:Int), v1=(↑n:Int)→(∃ (x1:Nat), (0:Int)=(↑x1:Int)∧x1≤n∧Mk.softB f x1=true)∧∀ (b1:Nat), b1≤n∧Mk.softB f b1=true→(decide ((↑b1:Int) < v1)=true→(0:Int)≤(↑b1:Int)∧(↑b1:Int) < (↑n:Int)∧(b=b∧off=off)∧Int.toNat (↑b1:Int) < n∧∀ (t1:Bool), (t1=if decide (f (Int.toNat (↑b1:Int)) < (-8:Int))=true then true else decide (f (Int.toNat (↑b1:Int)) > (7:Int)))→∀ (t2:Bool), t2=t1→(t2=true→∀ (v2:Int),
      v2=(↑b1:Int)→decide (v2≥(0:Int))=!Mk.softB f n)∧(t2=false→∀ (v3:Int), v3=IntKind.i64.wrap ((↑b1:Int)+(1:Int))→∃ (x2:Nat), v3=(↑x2:Int)∧(x2≤n∧Mk.softB f x2=true)∧n - x2 < n - b1))∧(decide ((↑b1:Int) < v1)=false→∀ (v2:Int), v2=(-1:Int)→decide (v2≥(0:Int))=!Mk.softB f n)) (by kernel_rfl) ?_
  try simp only [eq_self, true_and, and_true, Nat.le_refl, implies_true, forall_const, Bool.false_eq_true, Bool.true_eq_false, reduceCtorEq, false_imp_iff, true_imp_iff, Int.toNat_zero, Int.toNat_natCast, Nat.zero_lt_one, Int.le_refl, allGet]
  intro v1 h1
  subst h1
  refine ⟨⟨0, rfl, Nat.zero_le _, rfl⟩, ?_⟩
  rintro i ⟨hi, hs⟩
  refine ⟨fun hlt => ?_, fun hge v2 h2 => ?_⟩
  · have hlt := of_decide_eq_true hlt
    refine ⟨by omega, by omega, by omega, fun t1 h1 t2 h2 => ?_⟩
    have ht : t2 = !isV (f i) := by
      rw [h2, h1, isV]
      by_cases q : f i < -8
      · rw [if_pos (decide_eq_true q), decide_eq_false (show ¬ (-8 ≤ f i) by omega)]; rfl
      · rw [if_neg (by simpa using q), decide_eq_true (show -8 ≤ f i by omega), Bool.true_and]
        by_cases q2 : f i > 7
        · rw [decide_eq_true q2, decide_eq_false (show ¬ f i ≤ 7 by omega)]; rfl
        · rw [decide_eq_false q2, decide_eq_true (show f i ≤ 7 by omega)]; rfl
    refine ⟨fun h v2 h2' => ?_, fun h v3 h3 => ⟨i + 1, h3.trans (l_succ (by omega)), ⟨by omega, ?_⟩, by omega⟩⟩
    · have hv : isV (f i) = false := by rw [ht] at h; simpa using h
      rw [softB_false hv (by omega), decide_eq_true (by omega)]; rfl
    · have hv : isV (f i) = true := by rw [ht] at h; simpa using h
      rw [softB, hs, hv]; rfl
  · have hge := of_decide_eq_false hge
    obtain rfl : i = n := by omega
    rw [hs, h2]; rfl
/-! ### Clone -/
def clone := ecC aRow (fun x => [x.1.z = false, x.1.n * 8 ≤ 140737488355328]) (fun x (y : Nat × Nat × Nat) => x.1.n ≤ y.2.2 ∧ y.2.2 ≤ 9223372036854775807) (fun x y => .slice 1 y.1 y.2.1 [] 1 0 x.1.n y.2.2 false) (fun x y => [⟨1, y.1, y.2.1, 1, x.1.n, fun k => .int .i64 (x.1.f k), true, false, y.2.2, 3, false, none⟩]) 1
def EK : Env := E0.addQ 30 eqSl
theorem EK_ok : EnvOk Tryz.prog EK := E0_ok.addQ (eqSl_ok (e := 3) (by kernel_rfl))
theorem clone_ok : EcOk Tryz.prog 69 clone := by
  refine ecC_run (fun _ => EK_ok) Tryz.func69 rfl (by kernel_rfl) []
    (fun x => []) (fun _ => Nat.le_of_ble_eq_true rfl) (fun ⟨⟨b, off, n, c, z, f⟩, ()⟩ hp hw => ?_)
  refine vc_of (q :=
      (z=true→∃ (x1:Nat × Nat × Nat), SVeq (SV.slice 999999 0 0 [] 0 0 0 0 true) (SV.slice 1 x1.1 x1.2.1 [] 1 0 n x1.2.2 false)∧(false=true∧n=0∧x1.2.2=0)∧n≤x1.2.2∧x1.2.2≤9223372036854775807)∧(z=false→∀ (b1:Nat), (b1=b1∧0=0)∧(false=true→false=true)∧0=0∧0≤0∧0≤0∧(0+n)*8≤140737488355328∧0+n≤9223372036854775807∧n≤n∧(b=b∧off=off)∧∀ (b2 b3 b4:Nat), 0+n≤b4→b4≤9223372036854775807→(false=true→n=0→b4=0)→∃ (x2:Nat ×
      Nat × Nat), (b2=x2.1∧b3=x2.2.1∧0=0∧0+n=n∧b4=x2.2.2∧(false&&decide (n=0))=false)∧((b2=x2.1∧b3=x2.2.1∧(false&&decide (n=0))=false∧n≤0+n∧n≤x2.2.2∧x2.2.2≤b4)∧∀ (i1:Nat), i1 < n→(if i1 < 0 then (0:Int) else f (i1 - 0))=f i1)∧n≤x2.2.2∧x2.2.2≤9223372036854775807)) (by kernel_rfl) ?_
  try simp only [eq_self, true_and, and_true, Nat.le_refl, implies_true, forall_const, Bool.false_eq_true, Bool.true_eq_false, reduceCtorEq, false_imp_iff, true_imp_iff, Int.toNat_zero, Int.toNat_natCast, Nat.zero_lt_one, Int.le_refl, allGet]
  obtain ⟨p1, p2, _⟩ := hp
  dsimp only at p1 p2
  refine ⟨fun h => (by rw [p1] at h; cases h), fun _ => ⟨by omega, by omega, fun b2 b3 b4 h1 h2 => ?_⟩⟩
  exact ⟨(b2, b3, b4), ⟨rfl, rfl, Nat.zero_add _, rfl, rfl⟩, ⟨⟨rfl, rfl, rfl, by omega, by show n ≤ b4; omega, Nat.le_refl _⟩, fun i hi => rfl⟩, by show n ≤ b4; omega, h2⟩
/-! ### what a finder tells -/
abbrev aFR : ArgL ((Nat × Nat × ((Nat × Nat × (Int × Bool × Unit)) × Int × Value × Int × Bool × Int × Int × Value × Unit)) × Unit) := .cons (.ptr 8 (.agg (.cons (.ptr 2 (.agg (.cons (.elt (.int .i64)) (.cons (.elt .bool) .nil)))) (.cons (.elt (.int .i64)) (.cons .any (.cons (.elt (.int .i64)) (.cons (.elt .bool) (.cons (.elt (.int .i64)) (.cons (.elt (.int .i64)) (.cons .any .nil)))))))))) .nil
def EP : Env := (E0.addQ 63 eqPt).addQ 103 eqPt
theorem EP_ok : EnvOk Tryz.prog EP := (E0_ok.addQ (eqPt_ok (by kernel_rfl))).addQ (eqPt_ok (by kernel_rfl))
def noneC := pcOf aFR (fun _ => []) (fun _ => .bool false)
theorem none_ok : PcOk Tryz.prog 64 noneC := by
  refine pcOf_run (fun _ => EP_ok) Tryz.func64 rfl (by kernel_rfl) (fun x => trivial)
    (fun x => []) (fun _ => Nat.le_of_ble_eq_true rfl) (fun x hp hw => ?_)
  refine vc_of (q :=
      (false=false→x.1.1=x.1.1∧x.1.2.1=x.1.2.1)∧∀ (t1:Bool), (t1=if false=true then true else false)→t1=false) (by kernel_rfl) ?_
  try simp only [eq_self, true_and, and_true, Nat.le_refl, implies_true, forall_const, Bool.false_eq_true, Bool.true_eq_false, reduceCtorEq, false_imp_iff, true_imp_iff, Int.toNat_zero, Int.toNat_natCast, Nat.zero_lt_one, Int.le_refl, allGet]
  intro t1 h1
  rw [h1, if_neg (fun h => h)]
def EQ : Env := EP.addP 64 noneC
theorem EQ_ok : EnvOk Tryz.prog EQ := EP_ok.addP none_ok
def lockedC := pcOf aFR (fun _ => []) (fun x => .bool x.1.2.2.1.2.2.2.1)
theorem locked_ok : PcOk Tryz.prog 44 lockedC := by
  refine pcOf_run (fun _ => EQ_ok) Tryz.func44 rfl (by kernel_rfl) (fun x => trivial)
    (fun x => []) (fun _ => Nat.le_of_ble_eq_true rfl) (fun x hp hw => ?_)
  refine vc_of (q :=
      (x.1.1=x.1.1∧x.1.2.1=x.1.2.1)∧((x.1.2.2.1).1=(x.1.2.2.1).1∧((x.1.2.2.1).2).1=((x.1.2.2.1).2).1)∧∀ (t1:Bool), t1=false→((!t1)=true→x.1.1=x.1.1∧x.1.2.1=x.1.2.1)∧((!t1)=true→(x.1.2.2.1).1=(x.1.2.2.1).1∧((x.1.2.2.1).2).1=((x.1.2.2.1).2).1)∧∀ (t2:Bool), (t2=if (!t1)=true then ((((x.1.2.2.1).2).2).2).1 else false)→t2=((((x.1.2.2.1).2).2).2).1) (by kernel_rfl) ?_
  try simp only [eq_self, true_and, and_true, Nat.le_refl, implies_true, forall_const, Bool.false_eq_true, Bool.true_eq_false, reduceCtorEq, false_imp_iff, true_imp_iff, Int.toNat_zero, Int.toNat_natCast, Nat.zero_lt_one, Int.le_refl, allGet]
  intro t1 h1 t2 h2
  rw [h2, h1]; rfl
end Mk
