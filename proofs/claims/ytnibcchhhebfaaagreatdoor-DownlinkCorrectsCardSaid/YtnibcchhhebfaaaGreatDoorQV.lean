/-
  OWN WORK. Send, of the program and of the reference.
-/
import Derived.Test.YtnibcchhhebfaaaGreatDoorQA
import Derived.Test.YtnibcchhhebfaaaGreatDoorQ4
import Derived.Test.YtnibcchhhebfaaaGreatDoorQX
import Derived.Test.YtnibcchhhebfaaaGreatDoorQF
import Derived.Test.YtnibcchhhebfaaaGreatDoorQS
namespace Vt
open Go Go.Proofs Eng
set_option linter.unusedVariables false
set_option linter.unusedSimpArgs false
set_option maxHeartbeats 8000000
set_option maxRecDepth 100000
end Vt
namespace Vt
open Go Go.Proofs Eng
set_option linter.unusedVariables false
set_option linter.unusedSimpArgs false
set_option maxHeartbeats 8000000
set_option maxRecDepth 100000
end Vt
namespace Vt
open Go Go.Proofs Eng
set_option linter.unusedVariables false
set_option linter.unusedSimpArgs false
set_option maxHeartbeats 8000000
set_option maxRecDepth 100000
theorem encS_list (m : List UInt8) : Mk.listB (encS m) = true := by
  unfold Mk.listB encS Byt.of
  rw [List.all_map, List.all_eq_true]
  intro k _
  have := sym_le (bitsOf m) k
  show Nat.ble (UInt8.ofNat (((sym (bitsOf m) k : Nat) : Int)).toNat).toNat 1 = true
  rw [Int.toNat_natCast]
  rcases (by omega : sym (bitsOf m) k = 0 ∨ sym (bitsOf m) k = 1) with h | h <;> rw [h] <;> decide
theorem attE_enc (m : List UInt8) : Mk.attE (encS m) = 0 := by
  unfold Mk.attE
  rw [if_pos (encS_list m), if_pos (encS_le m)]
theorem mix_len (b : List UInt8) : (Mk.mixS b).length ≤ b.length := by
  unfold Mk.mixS
  split
  · exact Nat.zero_le _
  · rw [Mk.bytof_len]; exact Nat.le_refl _
theorem mixE_0 {b : List UInt8} (h : b.length ≤ 1000) : Mk.mixE b = 0 := if_neg (by omega)
theorem wB_pos {f : List UInt8} {d : Int} : Galois.wB f d = !posB f.length d := by
  cases h : posB f.length d with
  | true =>
    obtain ⟨a, b, c, e⟩ := posB_iff.1 h
    unfold Galois.wB
    rw [decide_eq_false (by omega), decide_eq_false (by omega), decide_eq_false (by omega), decide_eq_false (by omega)]; rfl
  | false =>
    have : ¬ (1 ≤ d ∧ d ≤ 4 ∧ d ≤ (f.length : Int) ∧ (f.length : Int) ≤ 223 * d) := fun q => by rw [posB_iff.2 q] at h; cases h
    unfold Galois.wB
    by_cases a : d < 1
    · simp [a]
    · by_cases b : 4 < d
      · simp [b]
      · by_cases c : (f.length : Int) < d
        · simp [c]
        · simp only [decide_eq_true (show 223 * d < (f.length : Int) by omega), Bool.or_true]; rfl
noncomputable def sendS (f : List UInt8) (d : Int) : List UInt8 := if posB f.length d then Mk.attL (encS (Mk.mixS (Galois.wrapL f d))) else []
def sendE (f : List UInt8) (d : Int) : Int := if posB f.length d then 0 else 2
theorem sendS_len (f : List UInt8) (d : Int) : (sendS f d).length ≤ 20032 := by
  unfold sendS
  split
  · exact Mk.attL_len _
  · exact Nat.zero_le _
noncomputable def sendC := pcOf aSI (fun _ => []) (fun x => .tup [.str (sendS x.1 x.2.1), .int .i64 (sendE x.1 x.2.1)])
noncomputable def ESX1 : Env := ((((E0.addP 54 Galois.wrap).addP 55 Mk.mix).addP 56 encC).addP 36 Mk.attach).addP 30 possC
theorem ESX1_ok : EnvOk Tryz.prog ESX1 := ((((E0_ok.addP Galois.wrapB_ok).addP Mk.mix_ok).addP enc_ok).addP Mk.attach_ok).addP poss_ok
noncomputable def ESX : Env := (ESX1.inl 53 Tryz.f53 fun _ _ => []).inl 35 Tryz.f35 fun _ _ => rds 3
theorem ESX_ok : EnvOk Tryz.prog ESX := (ESX1_ok.inl _ Tryz.func53 rfl (by kernel_rfl)).inl _ Tryz.func35 rfl (by kernel_rfl)
theorem send_ok : PcOk Tryz.prog 12 sendC := by
  refine pcOf_run (fun _ => ESX_ok) Tryz.func12 rfl (by kernel_rfl) (fun x => ⟨(by have := sendS_len x.1 x.2.1; show (sendS x.1 x.2.1).length ≤ 9223372036854775807; omega), trivial, trivial⟩)
    (fun x => [.unroll 6 5, .raw 5, .raw 6, .raw 7, .raw 12, .det 0]) (fun _ => Nat.le_of_ble_eq_true rfl) (fun ⟨s, d, u⟩ hp hw => ?_)
  refine vc_of (q :=
      ∀ (v1:Int), v1=(↑(List.length s):Int)→∀ (t1:Bool), t1=Vt.posB v1 d→((!t1)=true→[]=Vt.sendS s d∧(2:Int)=Vt.sendE s d)∧((!t1)=false→∀ (v2:Int), v2=(↑(List.length s):Int)→∀ (b1 b2 b3:Nat), (b3=b3∧0=0)∧(b3=b3∧0=0)∧∀ (b4:Nat), (b4=b4∧0=0)∧(b4=b4∧0=0)∧(b4=b4∧0=0)∧(b4=b4∧0=0)∧∀ (b5:Nat), (0:Int)≤(0:Int)∧(0:Int) < (↑(4:Nat):Int)∧(b5=b5∧0=0)∧0 < 4∧(b2=b2∧0=0)∧∀ (s1:List UInt8), s1=Galois.wrapL s d→∀
      (v3:Int), v3=Galois.wrapE s d→∀ (s2:List UInt8), s2=s1→∀ (v4:Int), v4=v3→((v4 != (0:Int))=true→[]=Vt.sendS s d∧v4=Vt.sendE s d)∧((v4 != (0:Int))=false→(0:Int)≤IntKind.i64.wrap ((0:Int)+(1:Int))∧IntKind.i64.wrap ((0:Int)+(1:Int)) < (↑(4:Nat):Int)∧(b5=b5∧0=0)∧1 < 4∧∀ (s3:List UInt8), s3=Mk.mixS s2→∀ (v5:Int), v5=Mk.mixE s2→((v5 != (0:Int))=true→[]=Vt.sendS s d∧v5=Vt.sendE s d)∧((v5 !=
      (0:Int))=false→(0:Int)≤IntKind.i64.wrap (IntKind.i64.wrap ((0:Int)+(1:Int))+(1:Int))∧IntKind.i64.wrap (IntKind.i64.wrap ((0:Int)+(1:Int))+(1:Int)) < (↑(4:Nat):Int)∧(b5=b5∧0=0)∧2 < 4∧List.length s3≤1100∧∀ (s4:List UInt8), s4=Vt.encS s3→∀ (v6:Int), v6=0→((v6 != (0:Int))=true→[]=Vt.sendS s d∧v6=Vt.sendE s d)∧((v6 != (0:Int))=false→(0:Int)≤IntKind.i64.wrap (IntKind.i64.wrap (IntKind.i64.wrap
      ((0:Int)+(1:Int))+(1:Int))+(1:Int))∧IntKind.i64.wrap (IntKind.i64.wrap (IntKind.i64.wrap ((0:Int)+(1:Int))+(1:Int))+(1:Int)) < (↑(4:Nat):Int)∧(b5=b5∧0=0)∧3 < 4∧∀ (s5:List UInt8), s5=Mk.attL s4→∀ (v7:Int), v7=Mk.attE s4→((v7 != (0:Int))=true→[]=Vt.sendS s d∧v7=Vt.sendE s d)∧((v7 != (0:Int))=false→s5=Vt.sendS s d∧(0:Int)=Vt.sendE s d)))))) (by kernel_rfl) ?_
  try simp only [eq_self, true_and, and_true, Nat.le_refl, implies_true, forall_const, Bool.false_eq_true, Bool.true_eq_false, reduceCtorEq, false_imp_iff, true_imp_iff, Int.toNat_zero, Int.toNat_natCast, Nat.zero_lt_one, Int.le_refl, allGet]
  intro v1 h1 t1 ht
  subst h1
  refine ⟨fun q => ?_, fun q v2 h2 => ?_⟩
  · have q : posB s.length d = false := by rw [← ht]; simpa using q
    simp [sendS, sendE, q]
  · have q : posB s.length d = true := by rw [← ht]; simpa using q
    have hw1 : Galois.wrapE s d = 0 := by unfold Galois.wrapE; rw [wB_pos, q]; rfl
    have hl1 := Galois.wrapL_len s d
    have hl2 := mix_len (Galois.wrapL s d)
    refine ⟨by omega, by omega, fun s1 e1 v3 e3 s2 e2 v4 e4 => ?_⟩
    subst e1 e2 e3 e4
    rw [hw1]
    refine ⟨fun h => absurd h (by decide), fun _ => ⟨by decide, by decide, by decide, fun s3 e3 v5 e5 => ?_⟩⟩
    subst e3
    rw [e5, mixE_0 hl1]
    refine ⟨fun h => absurd h (by decide), fun _ => ⟨by decide, by decide, by decide, by omega, fun s4 e4 v6 e6 => ?_⟩⟩
    subst e4 e6
    refine ⟨fun h => absurd h (by decide), fun _ => ⟨by decide, by decide, by decide, fun s5 e5 v7 e7 => ?_⟩⟩
    rw [e7, attE_enc]
    exact ⟨fun h => absurd h (by decide), fun _ => ⟨by rw [e5, sendS, if_pos q], by rw [sendE, if_pos q]⟩⟩
end Vt
