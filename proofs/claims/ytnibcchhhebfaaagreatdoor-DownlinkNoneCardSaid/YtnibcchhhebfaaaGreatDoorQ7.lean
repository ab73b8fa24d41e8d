/-
  OWN WORK. The best way through the trellis: soft values, which survivor is better, decoding without noise.
-/
import Derived.Test.YtnibcchhhebfaaaGreatDoorQ6
namespace Vt
open Go Go.Proofs Eng
set_option linter.unusedVariables false
set_option linter.unusedSimpArgs false
set_option maxHeartbeats 8000000
set_option maxRecDepth 100000
def isV (x : Int) : Bool := decide (-8 ≤ x) && decide (x ≤ 7)
def softB (f : Nat → Int) : Nat → Bool
  | 0 => true
  | n + 1 => softB f n && isV (f n)
theorem softB_false {f : Nat → Int} {k : Nat} (h : isV (f k) = false) : ∀ {n : Nat}, k < n → softB f n = false
  | n + 1, hk => by
    simp only [softB]
    by_cases e : k = n
    · subst e; rw [h, Bool.and_false]
    · rw [softB_false h (by omega), Bool.false_and]
theorem softB_true {f : Nat → Int} : ∀ {n : Nat}, (∀ k, k < n → isV (f k) = true) → softB f n = true
  | 0, _ => rfl
  | n + 1, h => by rw [softB, softB_true fun k hk => h k (by omega), h n (by omega)]; rfl
abbrev aCon : ArgL (RowD Int × Unit × Unit) := .cons (.row (.int .i64)) (.cons (.fnc 117 .nil) .nil)
def conC := pcOf aCon (fun x => []) (fun x => .bool (!softB x.1.f x.1.n))
def EF (x : RowD Int × Unit × Unit) : Env := (E0.inl 117 Tryz.f117 fun _ _ => []).inl 99 Tryz.f99 fun _ _ => [.lp 2 Nat [8] (fun i => [.int .i64 (i : Nat)]) (fun i => i ≤ x.1.n ∧ softB x.1.f i = true) fun i => x.1.n - i]
theorem EF_ok (x : RowD Int × Unit × Unit) : EnvOk Tryz.prog (EF x) := (E0_ok.inl _ Tryz.func117 rfl (by kernel_rfl)).inl _ Tryz.func99 rfl (by kernel_rfl)
theorem con_ok : PcOk Tryz.prog 65 conC := by
  refine pcOf_run EF_ok Tryz.func65 rfl (by kernel_rfl) (fun x => trivial)
    (fun x => []) (fun _ => Nat.le_of_ble_eq_true rfl) (fun ⟨⟨b, off, n, c, z, f⟩, (), ()⟩ hp hw => ?_)
  have hn : n ≤ c ∧ c ≤ 9223372036854775807 := (hw _ (List.mem_cons_self ..)).2
  refine vc_of (q :=
      ∀ (v1:Int), v1=(↑n:Int)→(∃ (x1:Nat), (0:Int)=(↑x1:Int)∧x1≤n∧Vt.softB f x1=true)∧∀ (b1:Nat), b1≤n∧Vt.softB f b1=true→(decide ((↑b1:Int) < v1)=true→(0:Int)≤(↑b1:Int)∧(↑b1:Int) < (↑n:Int)∧(b=b∧off=off)∧Int.toNat (↑b1:Int) < n∧∀ (t1:Bool), (t1=if decide (f (Int.toNat (↑b1:Int)) < (-8:Int))=true then true else decide (f (Int.toNat (↑b1:Int)) > (7:Int)))→∀ (t2:Bool), t2=t1→(t2=true→∀ (v2:Int),
      v2=(↑b1:Int)→decide (v2≥(0:Int))=!Vt.softB f n)∧(t2=false→∀ (v3:Int), v3=IntKind.i64.wrap ((↑b1:Int)+(1:Int))→∃ (x2:Nat), v3=(↑x2:Int)∧(x2≤n∧Vt.softB f x2=true)∧n - x2 < n - b1))∧(decide ((↑b1:Int) < v1)=false→∀ (v2:Int), v2=(-1:Int)→decide (v2≥(0:Int))=!Vt.softB f n)) (by kernel_rfl) ?_
  try simp only [eq_self, true_and, and_true, Nat.le_refl, implies_true, forall_const, Bool.false_eq_true, Bool.true_eq_false, reduceCtorEq, false_imp_iff, true_imp_iff, Int.toNat_zero, Int.toNat_natCast, Nat.zero_lt_one, Int.le_refl, allGet]
  intro v1 h1
  subst h1
  refine ⟨⟨0, rfl, Nat.zero_le _, rfl⟩, ?_⟩
  rintro i ⟨hi, hs⟩
  refine ⟨fun hlt => ?_, fun hge v2 h2 => ?_⟩
  · have hlt := of_decide_eq_true hlt
    refine ⟨by omega, by omega, by omega, fun t1 h1 t2 h2 => ?_⟩
    have ht : t2 = !isV (f i) := by
      rw [h2, h1, isV]
      by_cases q : f i < -8
      · rw [if_pos (decide_eq_true q), decide_eq_false (show ¬ (-8 ≤ f i) by omega)]; rfl
      · rw [if_neg (by simpa using q), decide_eq_true (show -8 ≤ f i by omega), Bool.true_and]
        by_cases q2 : f i > 7
        · rw [decide_eq_true q2, decide_eq_false (show ¬ f i ≤ 7 by omega)]; rfl
        · rw [decide_eq_false q2, decide_eq_true (show f i ≤ 7 by omega)]; rfl
    refine ⟨fun h v2 h2' => ?_, fun h v3 h3 => ⟨i + 1, h3.trans (l_succ (by omega)), ⟨by omega, ?_⟩, by omega⟩⟩
    · have hv : isV (f i) = false := by rw [ht] at h; simpa using h
      rw [softB_false hv (by omega), decide_eq_true (by omega)]; rfl
    · have hv : isV (f i) = true := by rw [ht] at h; simpa using h
      rw [softB, hs, hv]; rfl
  · have hge := of_decide_eq_false hge
    obtain rfl : i = n := by omega
    rw [hs, h2]; rfl
abbrev aRow : ArgL (RowD Int × Unit) := .cons (.row (.int .i64)) .nil
def softC := pcOf aRow (fun _ => []) (fun x => .bool (softB x.1.f x.1.n))
def ESO : Env := E0.addP 65 conC
theorem ESO_ok : EnvOk Tryz.prog ESO := E0_ok.addP con_ok
theorem soft_ok : PcOk Tryz.prog 84 softC := by
  refine pcOf_run (fun _ => ESO_ok) Tryz.func84 rfl (by kernel_rfl) (fun x => trivial)
    (fun x => []) (fun _ => Nat.le_of_ble_eq_true rfl) (fun ⟨⟨b, off, n, c, z, f⟩, ()⟩ hp hw => ?_)
  refine vc_of (q :=
      n≤n∧(∀ (k1:Nat), k1 < n→true=true)∧(b=b∧off=off)∧∀ (t1:Bool), t1=!Vt.softB f n→(!t1)=Vt.softB f n) (by kernel_rfl) ?_
  exact ⟨Nat.le_refl _, fun _ _ => rfl, ⟨rfl, rfl⟩, fun t h => by rw [h, Bool.not_not]⟩
abbrev aBef : ArgL ((Int × Int × Unit) × (Int × Int × Unit) × Unit) := .cons (.elt eSv) (.cons (.elt eSv) .nil)
def bef (x y : Int × Int) : Bool := decide (x.1 < y.1) || (decide (x.1 = y.1) && decide (y.2 < x.2))
def befC := pcOf aBef (fun _ => []) (fun x => .bool (bef (x.1.1, x.1.2.1) (x.2.1.1, x.2.1.2.1)))
theorem bef_ok : PcOk Tryz.prog 86 befC := by
  refine pcOf_run (fun _ => E0_ok) Tryz.func86 rfl (by kernel_rfl) (fun x => trivial)
    (fun x => []) (fun _ => Nat.le_of_ble_eq_true rfl) (fun ⟨⟨s, r, ()⟩, ⟨s', r', ()⟩, ()⟩ hp hw => ?_)
  refine vc_of (q :=
      ∀ (b1 b2:Nat), (b1=b1∧0=0)∧(b2=b2∧0=0)∧(decide (s < s')=false→b1=b1∧0=0)∧(decide (s < s')=false→b2=b2∧0=0)∧((s==s')=true∧decide (s < s')=false→b1=b1∧0=0)∧((s==s')=true∧decide (s < s')=false→b2=b2∧0=0)∧∀ (t1:Bool), (t1=if (s==s')=true then decide (r > r') else false)→∀ (t2:Bool), (t2=if decide (s < s')=true then true else t1)→t2=Vt.bef (s, r) (s', r')) (by kernel_rfl) ?_
  refine fun b1 b2 => ⟨⟨rfl, rfl⟩, ⟨rfl, rfl⟩, fun _ => ⟨rfl, rfl⟩, fun _ => ⟨rfl, rfl⟩, fun _ => ⟨rfl, rfl⟩, fun _ => ⟨rfl, rfl⟩, fun t1 h1 t2 h2 => ?_⟩
  rw [h2, h1]
  unfold bef
  by_cases q : s < s' <;> by_cases q2 : s = s' <;> simp [q, q2]
end Vt
