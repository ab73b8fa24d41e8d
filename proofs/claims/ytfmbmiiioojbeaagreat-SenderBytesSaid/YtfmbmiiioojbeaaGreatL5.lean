/-
  OWN WORK. Units of the program: the kinds, Valid.
-/
import Derived.Test.YtfmbmiiioojbeaaGreatL4
namespace Rc
open Go Go.Proofs Eng
set_option linter.unusedVariables false
set_option linter.unusedSimpArgs false
set_option maxRecDepth 100000
set_option maxHeartbeats 4000000
theorem ite_dec (P Q : Prop) [Decidable P] [Decidable Q] : (if P then decide Q else false) = true ↔ P ∧ Q := by
  by_cases h : P <;> simp [h]
theorem ite34 (x : Int) : (if x = 3 then true else x == 4) = true ↔ (x = 3 ∨ x = 4) := by
  by_cases h : x = 3 <;> simp [h]
abbrev fnS (f : FuncId) : SV := .fn (.func f) [] []
abbrev nilF : SV := .val .nilFunc
def kindsG : Nat → SV := fun k => match nth [.agg [nilF, nilF, nilF, nilF], .agg [fnS 84, fnS 85, fnS 86, fnS 87], .agg [fnS 89, fnS 90, fnS 91, fnS 92], .agg [fnS 93, fnS 94, fnS 95, fnS 97], .agg [fnS 98, fnS 99, fnS 100, fnS 101], .agg [fnS 102, fnS 103, fnS 105, fnS 106], .agg [fnS 107, fnS 108, fnS 109, fnS 110]] k with
  | some x => x
  | none => .agg [nilF, nilF, nilF, nilF]
theorem kindsG_wf : ∀ i, i < 7 → (kindsG i).wf ∧ (kindsG i).sz = 4 ∧ (kindsG i).nt = true := by
  intro i hi
  obtain rfl | rfl | rfl | rfl | rfl | rfl | rfl : i = 0 ∨ i = 1 ∨ i = 2 ∨ i = 3 ∨ i = 4 ∨ i = 5 ∨ i = 6 := by omega
  all_goals exact ⟨by simp [kindsG, nth, SV.wf, SV.wfA, SV.wfL, SV.nt], rfl, rfl⟩
def kindsC := pcOf .nil (fun _ => []) (fun _ => .arr 7 4 kindsG)
theorem kinds_ok : PcOk Tryz.prog 58 kindsC := by
  refine pcOf_run (fun _ => E0_ok) Tryz.func58 rfl (by kernel_rfl) (fun x => kindsG_wf)
    (fun x => []) (fun _ => Nat.le_of_ble_eq_true rfl) (fun () hp hw => ?_)
  refine vc_of (q :=
      ∀ (b1:Nat), (b1=b1∧0=0)∧(b1=b1∧0=0)∧SVeq (SV.arr 7 4 fun (k:Nat) ↦
      match Eng.nth [SV.agg [SV.val Go.Value.nilFunc, SV.val Go.Value.nilFunc, SV.val Go.Value.nilFunc, SV.val Go.Value.nilFunc], SV.agg [SV.fn (Go.Fn.func 84) [] [], SV.fn (Go.Fn.func 85) [] [], SV.fn (Go.Fn.func 86) [] [], SV.fn (Go.Fn.func 87) [] []], SV.agg [SV.fn (Go.Fn.func 89) [] [], SV.fn (Go.Fn.func 90) [] [], SV.fn (Go.Fn.func 91) [] [], SV.fn (Go.Fn.func 92) [] []], SV.agg [SV.fn (Go.Fn.func 93) [] [], SV.fn (Go.Fn.func 94) [] [], SV.fn (Go.Fn.func 95) [] [], SV.fn (Go.Fn.func 97) [] []], SV.agg [SV.fn (Go.Fn.func 98) [] [], SV.fn (Go.Fn.func 99) [] [], SV.fn (Go.Fn.func 100) [] [], SV.fn (Go.Fn.func 101) [] []], SV.agg [SV.fn (Go.Fn.func 102) [] [], SV.fn (Go.Fn.func 103) [] [], SV.fn (Go.Fn.func 105) [] [], SV.fn (Go.Fn.func 106) [] []], SV.agg [SV.fn (Go.Fn.func 107) [] [], SV.fn (Go.Fn.func 108) [] [], SV.fn (Go.Fn.func 109) [] [], SV.fn (Go.Fn.func 110) [] []]] k with | Option.some x => x | Option.none => SV.agg [SV.val Go.Value.nilFunc, SV.val Go.Value.nilFunc, SV.val Go.Value.nilFunc, SV.val Go.Value.nilFunc])
      (SV.arr 7 4 kindsG)) (by kernel_rfl) ?_
  try simp only [eq_self, true_and, and_true, Nat.le_refl, implies_true, forall_const, Bool.false_eq_true, Bool.true_eq_false, reduceCtorEq, false_imp_iff, true_imp_iff, Int.toNat_zero, Int.toNat_natCast, Nat.zero_lt_one, Int.le_refl, allGet]
  refine SVeq.of_eq (congrArg (SV.arr 7 4) (funext fun k => ?_))
  unfold kindsG
  generalize nth _ k = u
  cases u <;> rfl
def EK0 : Env := (((E0.addP 69 withinC).addP 104 gapsC).addP 82 sameC).addP 58 kindsC
theorem EK0_ok : EnvOk Tryz.prog EK0 := (((E0_ok.addP within_ok).addP orderly_ok).addP same_ok).addP kinds_ok
def EK1 : Env := ((((((((((((EK0).inl 84 Tryz.f84 fun _ _ => []).inl 89 Tryz.f89 fun _ _ => []).inl 93 Tryz.f93 fun _ _ => []).inl 98 Tryz.f98 fun _ _ => []).inl 102 Tryz.f102 fun _ _ => []).inl 107 Tryz.f107 fun _ _ => []).inl 85 Tryz.f85 fun _ _ => []).inl 90 Tryz.f90 fun _ _ => []).inl 94 Tryz.f94 fun _ _ => []).inl 99 Tryz.f99 fun _ _ => []).inl 103 Tryz.f103 fun _ _ => []).inl 108 Tryz.f108 fun _ _ => []
theorem EK1_ok : EnvOk Tryz.prog EK1 := ((((((((((((EK0_ok).inl _ Tryz.func84 rfl (by kernel_rfl)).inl _ Tryz.func89 rfl (by kernel_rfl)).inl _ Tryz.func93 rfl (by kernel_rfl)).inl _ Tryz.func98 rfl (by kernel_rfl)).inl _ Tryz.func102 rfl (by kernel_rfl)).inl _ Tryz.func107 rfl (by kernel_rfl)).inl _ Tryz.func85 rfl (by kernel_rfl)).inl _ Tryz.func90 rfl (by kernel_rfl)).inl _ Tryz.func94 rfl (by kernel_rfl)).inl _ Tryz.func99 rfl (by kernel_rfl)).inl _ Tryz.func103 rfl (by kernel_rfl)).inl _ Tryz.func108 rfl (by kernel_rfl)
theorem valid_ok : PcOk Tryz.prog 55 validC := by
  refine pcOf_run (fun _ => EK1_ok) Tryz.func55 rfl (by kernel_rfl) (fun x => trivial)
    (fun x => [.draw 3 (.take 0 (.take 1 (.take 2 (.case 17 [1, 2, 3, 4, 5, 6] (.take 3 (.br 4 (.br 5 .fin .stop) .stop)))))) [3], .draw 5 (.take 0 (.take 1 (.take 2 (.take 3 (.take 4 (.br 5 (.take 6 (.br 7 .fin .stop)) .stop)))))) [4]])
    (fun _ => Nat.le_of_ble_eq_true rfl) (fun ⟨⟨k, nr, nm, sz, sm, of, da, wy, o, me, ⟨b, oo, n, c, z, f⟩, ()⟩, ()⟩ hp hw => ?_)
  refine vc_of (q :=
      ∀ (b1:Nat), (b1=b1∧0=0)∧∀ (t1:Bool), t1=decide (inR k (1:Int) (6:Int))→((!t1)=false→b1=b1∧0=0)∧∀ (t2:Bool), t2=decide (inR nr (0:Int) (65535:Int))→∀ (t3:Bool), (t3=if (!t1)=true then true else !t2)→(t3=true→false=decide (okU (uOf (k, nr, nm, sz, sm, of, da, wy, o, me, Eng.RowD.mk b oo n c z f,
      ()))))∧(t3=false→(b1=b1∧0=0)∧(k=(1:Int)∨k=(2:Int)∨k=(3:Int)∨k=(4:Int)∨k=(5:Int)∨k=(6:Int))∧(k=(1:Int)→(0:Int)≤1∧1 < (↑(7:Nat):Int)∧(∀ (b2:Nat), ((b2=b2∧0=0)∧(b2=b2∧0=0)∧(b1=b1∧0=0)∧∀ (b3 b4:Nat), (b3=b3∧0=0)∧(b3=b3∧0=0)∧(b4=b4∧0=0)∧(b4=b4∧0=0)∧∀ (v1:Int), v1=0→∀ (v2:Int), v2=0→∀ (s1:List UInt8), s1=nm→∀ (v3:Int), v3=sz→∀ (v4:Int), v4=0→∀ (v5:Int), v5=0→∀ (s2:List UInt8), s2=[]→∀ (v6:Int), v6=0→∀
      (v7:Int), v7=0→∀ (t4:Bool), t4=false→∀ (b5:Nat), (b5=b5∧0=0)∧(b1=b1∧0=0)∧(b1=b1∧0=0)∧((b5=b5∧0=0)∧((b5=b5∧0=0)∧(b5=b5∧0=0)∧(b1=b1∧0=0)∧true=true∧n≤n∧(∀ (k1:Nat), k1 < n→true=true)∧(b=b∧oo=oo)∧∀ (t5:Bool), t5=decide (uOf (k, nr, s1, v3, v4, v5, s2, v6, v7, t4, Eng.RowD.mk 0 0 0 0 true fun (x:Nat) ↦ ((0:Int), (0:Int), ()), ())=uOf (k, nr, nm, sz, sm, of, da, wy, o, me, Eng.RowD.mk b oo n c z f,
      ()))→(t5=true→b2=b2∧0=0)∧(t5=true→b1=b1∧0=0)∧(t5=true→∀ (b6:Nat), (b6=b6∧0=0)∧∀ (v8:Int), v8=(↑(List.length nm):Int)→∀ (t6:Bool), t6=decide (inR v8 (1:Int) (32:Int))→(t6=true→b6=b6∧0=0)∧∀ (t7:Bool), t7=decide (inR sz (0:Int) (65535:Int))→∀ (t8:Bool), (t8=if t6=true then t7 else false)→∀ (t9:Bool), t9=t8→∀ (t10:Bool), (t10=if t5=true then t9 else false)→t10=decide (okU (uOf (k, nr, nm, sz, sm, of,
      da, wy, o, me, Eng.RowD.mk b oo n c z f, ()))))∧((t5=true→False)→∀ (t6:Bool), (t6=if t5=true then false else false)→t6=decide (okU (uOf (k, nr, nm, sz, sm, of, da, wy, o, me, Eng.RowD.mk b oo n c z f, ())))))∧True)∧True)∧True)∧True)∧(k=(2:Int)→(0:Int)≤2∧2 < (↑(7:Nat):Int)∧(∀ (b3:Nat), ((b3=b3∧0=0)∧(b3=b3∧0=0)∧(b1=b1∧0=0)∧∀ (b4 b5:Nat), (b4=b4∧0=0)∧(b4=b4∧0=0)∧(b5=b5∧0=0)∧(b5=b5∧0=0)∧∀ (v1:Int),
      v1=0→∀ (v2:Int), v2=0→∀ (s1:List UInt8), s1=[]→∀ (v3:Int), v3=0→∀ (v4:Int), v4=0→∀ (v5:Int), v5=of→∀ (s2:List UInt8), s2=da→∀ (v6:Int), v6=0→∀ (v7:Int), v7=0→∀ (t4:Bool), t4=false→∀ (b6:Nat), (b6=b6∧0=0)∧(b1=b1∧0=0)∧(b1=b1∧0=0)∧((b6=b6∧0=0)∧((b6=b6∧0=0)∧(b6=b6∧0=0)∧(b1=b1∧0=0)∧true=true∧n≤n∧(∀ (k1:Nat), k1 < n→true=true)∧(b=b∧oo=oo)∧∀ (t5:Bool), t5=decide (uOf (k, nr, s1, v3, v4, v5, s2, v6, v7,
      t4, Eng.RowD.mk 0 0 0 0 true fun (x:Nat) ↦ ((0:Int), (0:Int), ()), ())=uOf (k, nr, nm, sz, sm, of, da, wy, o, me, Eng.RowD.mk b oo n c z f, ()))→(t5=true→b3=b3∧0=0)∧(t5=true→b1=b1∧0=0)∧(t5=true→∀ (b7:Nat), (b7=b7∧0=0)∧∀ (v8:Int), v8=(↑(List.length da):Int)→∀ (t6:Bool), t6=decide (inR v8 (1:Int) (160:Int))→(t6=true→b7=b7∧0=0)∧(t6=true→b7=b7∧0=0)∧∀ (v9:Int), v9=(↑(List.length da):Int)→∀ (v10:Int),
      v10=IntKind.i64.wrap ((65535:Int) - v9)→∀ (t7:Bool), t7=decide (inR of (0:Int) v10)→∀ (t8:Bool), (t8=if t6=true then t7 else false)→∀ (t9:Bool), t9=t8→∀ (t10:Bool), (t10=if t5=true then t9 else false)→t10=decide (okU (uOf (k, nr, nm, sz, sm, of, da, wy, o, me, Eng.RowD.mk b oo n c z f, ()))))∧((t5=true→False)→∀ (t6:Bool), (t6=if t5=true then false else false)→t6=decide (okU (uOf (k, nr, nm, sz, sm,
      of, da, wy, o, me, Eng.RowD.mk b oo n c z f, ())))))∧True)∧True)∧True)∧True)∧(k=(3:Int)→(0:Int)≤3∧3 < (↑(7:Nat):Int)∧(∀ (b4:Nat), ((b4=b4∧0=0)∧(b4=b4∧0=0)∧(b1=b1∧0=0)∧∀ (b5 b6:Nat), (b5=b5∧0=0)∧(b5=b5∧0=0)∧(b5=b5∧0=0)∧(b6=b6∧0=0)∧(b6=b6∧0=0)∧∀ (v1:Int), v1=0→∀ (v2:Int), v2=0→∀ (s1:List UInt8), s1=[]→∀ (v3:Int), v3=sz→∀ (v4:Int), v4=sm→∀ (v5:Int), v5=0→∀ (s2:List UInt8), s2=[]→∀ (v6:Int), v6=wy→∀
      (v7:Int), v7=0→∀ (t4:Bool), t4=false→∀ (b7:Nat), (b7=b7∧0=0)∧(b1=b1∧0=0)∧(b1=b1∧0=0)∧((b7=b7∧0=0)∧((b7=b7∧0=0)∧(b7=b7∧0=0)∧(b1=b1∧0=0)∧true=true∧n≤n∧(∀ (k1:Nat), k1 < n→true=true)∧(b=b∧oo=oo)∧∀ (t5:Bool), t5=decide (uOf (k, nr, s1, v3, v4, v5, s2, v6, v7, t4, Eng.RowD.mk 0 0 0 0 true fun (x:Nat) ↦ ((0:Int), (0:Int), ()), ())=uOf (k, nr, nm, sz, sm, of, da, wy, o, me, Eng.RowD.mk b oo n c z f,
      ()))→(t5=true→b4=b4∧0=0)∧(t5=true→b1=b1∧0=0)∧(t5=true→∀ (b8:Nat), (b8=b8∧0=0)∧∀ (t6:Bool), t6=decide (inR wy (0:Int) (1:Int))→(t6=true→b8=b8∧0=0)∧∀ (t7:Bool), t7=decide (inR sz (0:Int) (65535:Int))→∀ (t8:Bool), (t8=if t6=true then t7 else false)→∀ (t9:Bool), t9=t8→∀ (t10:Bool), (t10=if t5=true then t9 else false)→t10=decide (okU (uOf (k, nr, nm, sz, sm, of, da, wy, o, me, Eng.RowD.mk b oo n c z f,
      ()))))∧((t5=true→False)→∀ (t6:Bool), (t6=if t5=true then false else false)→t6=decide (okU (uOf (k, nr, nm, sz, sm, of, da, wy, o, me, Eng.RowD.mk b oo n c z f, ())))))∧True)∧True)∧True)∧True)∧(k=(4:Int)→(0:Int)≤4∧4 < (↑(7:Nat):Int)∧(∀ (b5:Nat), ((b5=b5∧0=0)∧(b5=b5∧0=0)∧(b1=b1∧0=0)∧∀ (b6 b7:Nat), (b6=b6∧0=0)∧(b7=b7∧0=0)∧(b7=b7∧0=0)∧∀ (v1:Int), v1=0→∀ (v2:Int), v2=0→∀ (s1:List UInt8), s1=[]→∀
      (v3:Int), v3=0→∀ (v4:Int), v4=0→∀ (v5:Int), v5=0→∀ (s2:List UInt8), s2=[]→∀ (v6:Int), v6=wy→∀ (v7:Int), v7=0→∀ (t4:Bool), t4=false→∀ (b8:Nat), (b8=b8∧0=0)∧(b1=b1∧0=0)∧(b1=b1∧0=0)∧((b8=b8∧0=0)∧((b8=b8∧0=0)∧(b8=b8∧0=0)∧(b1=b1∧0=0)∧true=true∧n≤n∧(∀ (k1:Nat), k1 < n→true=true)∧(b=b∧oo=oo)∧∀ (t5:Bool), t5=decide (uOf (k, nr, s1, v3, v4, v5, s2, v6, v7, t4, Eng.RowD.mk 0 0 0 0 true fun (x:Nat) ↦
      ((0:Int), (0:Int), ()), ())=uOf (k, nr, nm, sz, sm, of, da, wy, o, me, Eng.RowD.mk b oo n c z f, ()))→(t5=true→b5=b5∧0=0)∧(t5=true→b1=b1∧0=0)∧(t5=true→∀ (b9:Nat), (b9=b9∧0=0)∧∀ (t6:Bool), t6=decide (inR wy (0:Int) (4:Int))→∀ (t7:Bool), t7=t6→∀ (t8:Bool), (t8=if t5=true then t7 else false)→t8=decide (okU (uOf (k, nr, nm, sz, sm, of, da, wy, o, me, Eng.RowD.mk b oo n c z f, ()))))∧((t5=true→False)→∀
      (t6:Bool), (t6=if t5=true then false else false)→t6=decide (okU (uOf (k, nr, nm, sz, sm, of, da, wy, o, me, Eng.RowD.mk b oo n c z f, ())))))∧True)∧True)∧True)∧True)∧(k=(5:Int)→(0:Int)≤5∧5 < (↑(7:Nat):Int)∧(∀ (b6:Nat), ((b6=b6∧0=0)∧(b6=b6∧0=0)∧(b1=b1∧0=0)∧∀ (b7 b8:Nat), (b7=b7∧0=0)∧(b7=b7∧0=0)∧(b8=b8∧0=0)∧(b8=b8∧0=0)∧∀ (v1:Int), v1=0→∀ (v2:Int), v2=0→∀ (s1:List UInt8), s1=[]→∀ (v3:Int), v3=0→∀
      (v4:Int), v4=0→∀ (v5:Int), v5=0→∀ (s2:List UInt8), s2=[]→∀ (v6:Int), v6=0→∀ (v7:Int), v7=0→∀ (t4:Bool), t4=me→∀ (b9:Nat), (b9=b9∧0=0)∧(b1=b1∧0=0)∧(b1=b1∧0=0)∧((b9=b9∧0=0)∧((b9=b9∧0=0)∧(b9=b9∧0=0)∧(b1=b1∧0=0)∧n≤n∧(∀ (k1:Nat), k1 < n→true=true)∧(b=b∧oo=oo)∧n≤n∧(∀ (k2:Nat), k2 < n→true=true)∧(b=b∧oo=oo)∧∀ (t5:Bool), t5=decide (uOf (k, nr, s1, v3, v4, v5, s2, v6, v7, t4, Eng.RowD.mk b oo n c z f,
      ())=uOf (k, nr, nm, sz, sm, of, da, wy, o, me, Eng.RowD.mk b oo n c z f, ()))→(t5=true→b6=b6∧0=0)∧(t5=true→b1=b1∧0=0)∧(t5=true→∀ (b10:Nat), (b10=b10∧0=0)∧n≤n∧(∀ (k3:Nat), k3 < n→true=true)∧(b=b∧oo=oo)∧n≤8796093022208∧∀ (t6:Bool), t6=decide (gapsOk (-1:Int) (gapsOf (Eng.RowD.mk b oo n c z f))∧n≤20)→(t6=true→b10=b10∧0=0)∧(me=false∧t6=true→b10=b10∧0=0)∧∀ (v8:Int), v8=(↑n:Int)→∀ (t7:Bool), (t7=if
      me=true then true else decide (v8 > (0:Int)))→∀ (t8:Bool), (t8=if t6=true then t7 else false)→∀ (t9:Bool), t9=t8→∀ (t10:Bool), (t10=if t5=true then t9 else false)→t10=decide (okU (uOf (k, nr, nm, sz, sm, of, da, wy, o, me, Eng.RowD.mk b oo n c z f, ()))))∧((t5=true→False)→∀ (t6:Bool), (t6=if t5=true then false else false)→t6=decide (okU (uOf (k, nr, nm, sz, sm, of, da, wy, o, me, Eng.RowD.mk b oo n
      c z f, ())))))∧True)∧True)∧True)∧True)∧(k=(6:Int)→(0:Int)≤6∧6 < (↑(7:Nat):Int)∧(∀ (b7:Nat), ((b7=b7∧0=0)∧(b7=b7∧0=0)∧(b1=b1∧0=0)∧∀ (b8 b9:Nat), (b8=b8∧0=0)∧(b9=b9∧0=0)∧(b9=b9∧0=0)∧∀ (v1:Int), v1=0→∀ (v2:Int), v2=0→∀ (s1:List UInt8), s1=[]→∀ (v3:Int), v3=0→∀ (v4:Int), v4=0→∀ (v5:Int), v5=0→∀ (s2:List UInt8), s2=[]→∀ (v6:Int), v6=0→∀ (v7:Int), v7=o→∀ (t4:Bool), t4=false→∀ (b10:Nat),
      (b10=b10∧0=0)∧(b1=b1∧0=0)∧(b1=b1∧0=0)∧((b10=b10∧0=0)∧((b10=b10∧0=0)∧(b10=b10∧0=0)∧(b1=b1∧0=0)∧true=true∧n≤n∧(∀ (k1:Nat), k1 < n→true=true)∧(b=b∧oo=oo)∧∀ (t5:Bool), t5=decide (uOf (k, nr, s1, v3, v4, v5, s2, v6, v7, t4, Eng.RowD.mk 0 0 0 0 true fun (x:Nat) ↦ ((0:Int), (0:Int), ()), ())=uOf (k, nr, nm, sz, sm, of, da, wy, o, me, Eng.RowD.mk b oo n c z f,
      ()))→(t5=true→b7=b7∧0=0)∧(t5=true→b1=b1∧0=0)∧(t5=true→∀ (b11:Nat), (b11=b11∧0=0)∧((o==(3:Int))=false→b11=b11∧0=0)∧∀ (t6:Bool), (t6=if (o==(3:Int))=true then true else o==(4:Int))→∀ (t7:Bool), t7=t6→∀ (t8:Bool), (t8=if t5=true then t7 else false)→t8=decide (okU (uOf (k, nr, nm, sz, sm, of, da, wy, o, me, Eng.RowD.mk b oo n c z f, ()))))∧((t5=true→False)→∀ (t6:Bool), (t6=if t5=true then false else
      false)→t6=decide (okU (uOf (k, nr, nm, sz, sm, of, da, wy, o, me, Eng.RowD.mk b oo n c z f, ())))))∧True)∧True)∧True)∧True)∧True)) (by kernel_rfl) ?_
  try simp only [eq_self, true_and, and_true, Nat.le_refl, implies_true, forall_const, Bool.false_eq_true, Bool.true_eq_false, reduceCtorEq, false_imp_iff, true_imp_iff, Int.toNat_zero, Int.toNat_natCast, Nat.zero_lt_one, Int.le_refl, allGet]
  intro t1 h1 t2 h2 t3 h3
  have hda : da.length ≤ 9223372036854775807 := (hw _ (List.mem_cons_self ..)).2.2.2.2.2.2.2.2.2.2.2.2.1
  refine ⟨fun q => ?_, fun q => ?_⟩
  · symm
    rw [decide_eq_false_iff_not]
    rintro ⟨q2, q3, _⟩
    have q2 : inR nr 0 65535 := q2
    have q4 : inR k 1 6 := by
      by_cases k1 : k = 1; exact ⟨by omega, by omega⟩
      by_cases k2 : k = 2; exact ⟨by omega, by omega⟩
      by_cases k3 : k = 3; exact ⟨by omega, by omega⟩
      by_cases k4 : k = 4; exact ⟨by omega, by omega⟩
      by_cases k5 : k = 5; exact ⟨by omega, by omega⟩
      by_cases k6 : k = 6; exact ⟨by omega, by omega⟩
      simp [fitU, uOf, k1, k2, k3, k4, k5, k6] at q3
    rw [h3, h2, h1, decide_eq_true q2, decide_eq_true q4] at q
    cases q
  have hq : inR k 1 6 ∧ inR nr 0 65535 := by
    rw [h3, h2, h1] at q
    by_cases c1 : inR k 1 6 <;> by_cases c2 : inR nr 0 65535 <;> simp [c1, c2] at q ⊢
  clear h1 h2 h3
  obtain ⟨⟨k0, k1⟩, hnr⟩ := hq
  have hO : ∀ (a b : Bool), (if a = true then true else b) = (a || b) := fun a b => by cases a <;> rfl
  refine ⟨by omega, fun hk => ⟨by decide, by decide, ?_⟩, fun hk => ⟨by decide, by decide, ?_⟩, fun hk => ⟨by decide, by decide, ?_⟩, fun hk => ⟨by decide, by decide, ?_⟩, fun hk => ⟨by decide, by decide, ?_⟩, fun hk => ⟨by decide, by decide, ?_⟩⟩
  all_goals intros
  all_goals refine ⟨?_, ?_⟩ <;> intros
  all_goals try (refine ⟨hp.1, ?_⟩; intros)
  all_goals subst_vars
  all_goals rw [Bool.eq_iff_iff]
  all_goals simp only [ite_and, hO, Bool.and_eq_true, Bool.or_eq_true, decide_eq_true_eq, beq_iff_eq]
  · rename_i hh; have hs := of_decide_eq_true hh.symm
    rw [if_pos trivial, ite_dec]
    exact ⟨fun h => ⟨hnr, h, hs⟩, fun h => h.2.1⟩
  · rename_i hh; have hs := fun q => hh (decide_eq_true q)
    simp only [ite_self, Bool.false_eq_true, false_iff]
    exact fun h => hs h.2.2
  · rename_i hh; have hs := of_decide_eq_true hh.symm
    rw [if_pos trivial, w64_id (by omega) (by omega), ite_dec]
    exact ⟨fun h => ⟨hnr, h, hs⟩, fun h => h.2.1⟩
  · rename_i hh; have hs := fun q => hh (decide_eq_true q)
    simp only [ite_self, Bool.false_eq_true, false_iff]
    exact fun h => hs h.2.2
  · rename_i hh; have hs := of_decide_eq_true hh.symm
    rw [if_pos trivial, ite_dec]
    exact ⟨fun h => ⟨hnr, h, hs⟩, fun h => h.2.1⟩
  · rename_i hh; have hs := fun q => hh (decide_eq_true q)
    simp only [ite_self, Bool.false_eq_true, false_iff]
    exact fun h => hs h.2.2
  · rename_i hh; have hs := of_decide_eq_true hh.symm
    rw [if_pos trivial, decide_eq_true_eq]
    exact ⟨fun h => ⟨hnr, h, hs⟩, fun h => h.2.1⟩
  · rename_i hh; have hs := fun q => hh (decide_eq_true q)
    simp only [ite_self, Bool.false_eq_true, false_iff]
    exact fun h => hs h.2.2
  · rename_i hh; have hs := of_decide_eq_true hh.symm
    rw [if_pos trivial]
    have hn : (gapsOf ⟨b, oo, n, c, z, f⟩).length = n := gapsOf_len _
    constructor
    · intro h
      by_cases q : gapsOk (-1) (gapsOf ⟨b, oo, n, c, z, f⟩) ∧ n ≤ 20
      · rw [if_pos q, Bool.or_eq_true, decide_eq_true_eq] at h
        have hf : gapsOk (-1) (gapsOf ⟨b, oo, n, c, z, f⟩) ∧ (gapsOf ⟨b, oo, n, c, z, f⟩).length ≤ 20 ∧ (_ ∨ 0 < (gapsOf ⟨b, oo, n, c, z, f⟩).length) := ⟨q.1, by rw [hn]; exact q.2, h.imp id fun q => by rw [hn]; omega⟩
        exact ⟨hnr, hf, hs⟩
      · rw [if_neg q] at h; cases h
    · rintro ⟨_, hf, _⟩
      have hf : gapsOk (-1) (gapsOf ⟨b, oo, n, c, z, f⟩) ∧ (gapsOf ⟨b, oo, n, c, z, f⟩).length ≤ 20 ∧ (_ ∨ 0 < (gapsOf ⟨b, oo, n, c, z, f⟩).length) := hf
      rw [hn] at hf
      rw [if_pos ⟨hf.1, hf.2.1⟩, Bool.or_eq_true, decide_eq_true_eq]
      exact hf.2.2.imp id fun q => by omega
  · rename_i hh; have hs := fun q => hh (decide_eq_true q)
    simp only [ite_self, Bool.false_eq_true, false_iff]
    exact fun h => hs h.2.2
  · rename_i hh; have hs := of_decide_eq_true hh.symm
    rw [if_pos trivial]
    rw [ite34]
    exact ⟨fun h => ⟨hnr, h, hs⟩, fun h => h.2.1⟩
  · rename_i hh; have hs := fun q => hh (decide_eq_true q)
    simp only [ite_self, Bool.false_eq_true, false_iff]
    exact fun h => hs h.2.2
end Rc
