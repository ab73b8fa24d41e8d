/-
  OWN WORK. strings.Clone: the shelf's contract at this program.
-/
import Derived.Shelf.Pu.Clone
import Derived.Test.YtfmbmiiioojbeaaGreatL1
namespace Rc
open Go Go.Proofs Go.Shelf Eng
set_option linter.unusedVariables false
set_option maxRecDepth 100000
set_option maxHeartbeats 4000000
def renC : Ren := ⟨fun
  | 25 => 51
  | n => n, fun
  | 0 => 0
  | 3 => 3
  | 4 => 4
  | 5 => 5
  | 9 => 9
  | 37 => 115
  | 47 => 149
  | n => n, fun n => n⟩
theorem laysC : LaysPu.n25 Tryz.prog renC := {
  mixed := by kernel_rfl
  f25 := (Tryz.func51).trans (by kernel_rfl)
  t0 := Tryz.underlying0
  a0 := Tryz.isAgg0
  z0 := Tryz.sizeOf0
  v0 := Tryz.zeroValue0
  i0 := by kernel_rfl
  t3 := Tryz.underlying3
  a3 := Tryz.isAgg3
  z3 := Tryz.sizeOf3
  v3 := Tryz.zeroValue3
  i3 := by kernel_rfl
  t4 := Tryz.underlying4
  a4 := Tryz.isAgg4
  z4 := Tryz.sizeOf4
  v4 := Tryz.zeroValue4
  i4 := by kernel_rfl
  t5 := Tryz.underlying5
  a5 := Tryz.isAgg5
  z5 := Tryz.sizeOf5
  v5 := Tryz.zeroValue5
  i5 := by kernel_rfl
  t9 := Tryz.underlying9
  a9 := Tryz.isAgg9
  z9 := Tryz.sizeOf9
  v9 := Tryz.zeroValue9
  i9 := by kernel_rfl
  t37 := Tryz.underlying115
  a37 := Tryz.isAgg115
  z37 := Tryz.sizeOf115
  v37 := Tryz.zeroValue115
  i37 := by kernel_rfl
  t47 := Tryz.underlying149
  a47 := Tryz.isAgg149
  z47 := Tryz.sizeOf149
  v47 := Tryz.zeroValue149
  i47 := by kernel_rfl
}
def cloneC := pcOf aStr (fun x => [x.1.length ≤ 281474976710656]) (fun x => .str x.1)
theorem cloneL_ok : PcOk Tryz.prog 51 cloneC := by
  refine pcOf_ok (goFn_of Tryz.func51 rfl rfl) (fun x hx => hx _ (List.mem_cons_self ..)) (fun ⟨l, ()⟩ hp hw w hS => ?_)
  obtain ⟨h1, _⟩ := hp
  have h1 : l.length ≤ 281474976710656 := h1
  have := AnyPu.stringslite_Clone laysC ⟨l.toArray⟩ w (by show l.toArray.size ≤ _; simpa using h1)
  refine this.mono ?_
  rintro e w' ⟨rfl, hB⟩
  exact ⟨.str l, [], 0, rfl, hw _ (List.mem_cons_self ..), rfl, ⟨⟨hB.os, hB.tape, hB.output, hB.size, fun k hk _ => hB.block k hk⟩, (fun e he => by cases he), List.Pairwise.nil⟩⟩
def EC0 : Env := E0.addP 51 cloneC
theorem EC0_ok : EnvOk Tryz.prog EC0 := E0_ok.addP cloneL_ok
theorem clone_ok : PcOk Tryz.prog 32 cloneC := by
  refine pcOf_runS (fun _ => EC0_ok) Tryz.func32 rfl (by kernel_rfl) (fun x hx => hx _ (List.mem_cons_self ..))
    (fun x => []) (fun _ => Nat.le_of_ble_eq_true rfl) (fun ⟨l, ()⟩ hp hw => ?_)
  refine vc_of (q :=
      List.length l≤281474976710656∧∀ (s1:List UInt8), s1=l→s1=l) (by kernel_rfl) ?_
  try simp only [eq_self, true_and, and_true, Nat.le_refl, implies_true, forall_const, Bool.false_eq_true, Bool.true_eq_false, reduceCtorEq, false_imp_iff, true_imp_iff, Int.toNat_zero, Int.toNat_natCast, Nat.zero_lt_one, Int.le_refl, allGet]
  exact ⟨hp.1, fun s h => h⟩
end Rc
