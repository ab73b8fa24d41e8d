/-
  OWN WORK. Which sizes are possible; how many symbols a frame has.
-/
import Derived.Test.YtnibcchhhebfaaaGreatDoorQA
import Derived.Test.YtnibcchhhebfaaaGreatDoorQ4
import Derived.Test.YtnibcchhhebfaaaGreatDoorQX
namespace Vt
open Go Go.Proofs Eng
set_option linter.unusedVariables false
set_option linter.unusedSimpArgs false
set_option maxHeartbeats 8000000
set_option maxRecDepth 100000
end Vt
namespace Vt
open Go Go.Proofs Eng
set_option linter.unusedVariables false
set_option linter.unusedSimpArgs false
set_option maxHeartbeats 8000000
set_option maxRecDepth 100000
def posB (n d : Int) : Bool := decide (1 ≤ d) && decide (d ≤ 4) && decide (d ≤ n) && decide (n ≤ 223 * d)
theorem posB_iff {n d : Int} : posB n d = true ↔ 1 ≤ d ∧ d ≤ 4 ∧ d ≤ n ∧ n ≤ 223 * d := by simp [posB, and_assoc]
theorem pos_of {n d v1 : Int} {t1 t2 t3 : Bool} (h1 : t1 = if decide (d ≥ 1) = true then decide (d ≤ 4) else false) (h2 : t2 = if t1 = true then decide (n ≥ d) else false) (h3 : v1 = IntKind.i64.wrap (223 * d)) (h4 : t3 = if t2 = true then decide (n ≤ v1) else false) : t3 = posB n d := by
  unfold posB
  subst h1 h2
  by_cases a : 1 ≤ d
  · by_cases b : d ≤ 4
    · rw [w64_id (by omega) (by omega)] at h3
      subst h3 h4
      by_cases c : d ≤ n <;> simp [a, b, c]
    · subst h4; simp [a, b]
  · subst h4; simp [a]
theorem att0_len : (Mk.attL []).length = 32 := by decide +kernel
def possC := pcOf aII (fun _ => []) (fun x => .bool (posB x.1 x.2.1))
theorem poss_ok : PcOk Tryz.prog 30 possC := by
  refine pcOf_run (fun _ => E0_ok) Tryz.func30 rfl (by kernel_rfl) (fun _ => trivial)
    (fun x => []) (fun _ => Nat.le_of_ble_eq_true rfl) (fun ⟨n, d, ()⟩ hp hw => ?_)
  refine vc_of (q :=
      ∀ (t1:Bool), (t1=if decide (d≥(1:Int))=true then decide (d≤(4:Int)) else false)→∀ (t2:Bool), (t2=if t1=true then decide (n≥d) else false)→∀ (v1:Int), v1=IntKind.i64.wrap ((223:Int)*d)→∀ (t3:Bool), (t3=if t2=true then decide (n≤v1) else false)→t3=Vt.posB n d) (by kernel_rfl) ?_
  try simp only [eq_self, true_and, and_true, Nat.le_refl, implies_true, forall_const, Bool.false_eq_true, Bool.true_eq_false, reduceCtorEq, false_imp_iff, true_imp_iff, Int.toNat_zero, Int.toNat_natCast, Nat.zero_lt_one, Int.le_refl, allGet]
  exact fun t1 h1 t2 h2 v1 h3 t3 h4 => pos_of h1 h2 h3 h4
def dsymC := pcOf aII (fun _ => []) (fun x => .tup [.int .i64 (if posB x.1 x.2.1 then 16 * (x.1 + 8 * x.2.1) + 44 else 0), .int .i64 (if posB x.1 x.2.1 then 0 else 2)])
def EDS : Env := (((((E0.addP 30 possC).addP 36 Mk.attach).addP 32 symsC).inl 31 Tryz.f31 fun _ _ => []).inl 33 Tryz.f33 fun _ _ => [])
theorem EDS_ok : EnvOk Tryz.prog EDS := (((((E0_ok.addP poss_ok).addP Mk.attach_ok).addP syms_ok).inl _ Tryz.func31 rfl (by kernel_rfl)).inl _ Tryz.func33 rfl (by kernel_rfl))
theorem dsym_ok : PcOk Tryz.prog 10 dsymC := by
  refine pcOf_run (fun _ => EDS_ok) Tryz.func10 rfl (by kernel_rfl) (fun _ => ⟨trivial, trivial, trivial⟩)
    (fun x => []) (fun _ => Nat.le_of_ble_eq_true rfl) (fun ⟨n, d, ()⟩ hp hw => ?_)
  refine vc_of (q :=
      ∀ (t1:Bool), t1=Vt.posB n d→((!t1)=true→((0:Int)=if Vt.posB n d=true then (16:Int)*(n+(8:Int)*d)+(44:Int) else (0:Int))∧(2:Int)=if Vt.posB n d=true then (0:Int) else (2:Int))∧((!t1)=false→∀ (s1:List UInt8), s1=Mk.attL []→∀ (v1:Int), v1=Mk.attE []→∀ (v2:Int), v2=(↑(List.length s1):Int)→∀ (v3:Int), v3=v2→∀ (v4:Int), v4=IntKind.i64.wrap ((8:Int)*d)→∀ (v5:Int), v5=IntKind.i64.wrap (n+v4)→∀ (v6:Int),
      v6=v5→∀ (v7:Int), (v7=if v6 < 0∨v6 > 1100 then (0:Int) else (16:Int)*v6+(12:Int))→∀ (v8:Int), v8=IntKind.i64.wrap (v3+v7)→(v8=if Vt.posB n d=true then (16:Int)*(n+(8:Int)*d)+(44:Int) else (0:Int))∧(0:Int)=if Vt.posB n d=true then (0:Int) else (2:Int))) (by kernel_rfl) ?_
  try simp only [eq_self, true_and, and_true, Nat.le_refl, implies_true, forall_const, Bool.false_eq_true, Bool.true_eq_false, reduceCtorEq, false_imp_iff, true_imp_iff, Int.toNat_zero, Int.toNat_natCast, Nat.zero_lt_one, Int.le_refl, allGet]
  intro t1 h1
  subst h1
  refine ⟨fun q => ?_, fun q s1 hs v1 _ v2 h2 v3 h3 v4 h4 v5 h5 v6 h6 v7 h7 v8 h8 => ?_⟩
  · have q : posB n d = false := by simpa using q
    simp [q]
  · have q : posB n d = true := by simpa using q
    obtain ⟨a, b, c, e⟩ := posB_iff.1 q
    have := att0_len
    rw [← hs] at this
    rw [w64_id (by omega) (by omega)] at h4
    subst h4
    rw [w64_id (by omega) (by omega)] at h5
    subst h5 h6
    rw [if_neg (by omega)] at h7
    rw [w64_id (by omega) (by omega)] at h8
    rw [if_pos q, if_pos q]
    exact ⟨by omega, rfl⟩
end Vt
