/-
  OWN WORK. Receiver: the law ReceiverNone: the walk.
-/
import Derived.Test.YtjhcndahjhkahaaGreatLP
namespace Rc
open Go Go.Proofs Eng
set_option linter.unusedVariables false
set_option linter.unusedSimpArgs false
set_option maxRecDepth 100000
set_option maxHeartbeats 4000000

abbrev OpD := Int × Int × List UInt8 × UD × Unit
abbrev pOp : Arg OpD := .agg (.cons (.elt (.int .i64)) (.cons (.elt (.int .i64)) (.cons (.elt .str) (.cons pUnit .nil))))
abbrev aOp : ArgL (OpD × Unit) := .cons pOp .nil
/-! ### taken -/
def ETK : Env := E0.addP 22 unitC
theorem ETK_ok : EnvOk Tryz.prog ETK := E0_ok.addP unit_ok
def takenL (x : OpD) : List UInt8 := if x.2.2.1 = [] then putU (uOf x.2.2.2.1) else x.2.2.1
def takenC := pcOf aOp (fun x => [(gO x.1.2.2.2.1).n ≤ 4294967296, 0 ≤ x.1.2.2.2.1.2.2.2.2.1 ∧ x.1.2.2.2.1.2.2.2.2.1 ≤ 4294967295]) (fun x => .str (takenL x.1))
theorem taken_ok : PcOk Tryz.prog 17 takenC := by
  refine pcOf_runS (fun _ => ETK_ok) Tryz.func17 rfl (by kernel_rfl) (fun x hw => ?_) (fun _ => []) (fun _ => Nat.le_of_ble_eq_true rfl) (fun ⟨⟨kd, nn, un, ⟨k, nr, nm, sz, sm, of, da, wy, o, me, ⟨b, oo, n, c, z, f⟩, ()⟩, ()⟩, ()⟩ hp hw => ?_)
  · have hw := hw _ (List.mem_cons_self ..)
    have hl : x.1.2.2.1.length ≤ 9223372036854775807 := hw.2.2.2.2.1
    show (takenL x.1).length ≤ _
    unfold takenL
    split
    · have := putU_len (uOf x.1.2.2.2.1); omega
    · exact hl
  refine vc_of (q :=
      ∀ (b1 : Nat), (b1 = b1 ∧ 0 = 0) ∧ ((un == []) = true → (b1 = b1 ∧ 0 = 0) ∧ n ≤ n ∧ (∀ (k1 : Nat), k1 < n → true = true) ∧ (b = b ∧ oo = oo) ∧ n ≤ 4294967296 ∧ ((0 : Int) ≤ sm ∧ sm ≤ (4294967295 : Int)) ∧ ∀ (s1 : List UInt8), s1 = Rc.putU (Rc.uOf (k, nr, nm, sz, sm, of, da, wy, o, me, Eng.RowD.mk b oo n c z f, ())) → s1 = Rc.takenL (kd, nn, un, (k, nr, nm, sz, sm, of, da, wy, o, me, Eng.RowD.mk b oo
      n c z f, ()), ())) ∧ ((un == []) = false → (b1 = b1 ∧ 0 = 0) ∧ un = Rc.takenL (kd, nn, un, (k, nr, nm, sz, sm, of, da, wy, o, me, Eng.RowD.mk b oo n c z f, ()), ()))) (by kernel_rfl) ?_
  try simp only [eq_self, true_and, and_true, Nat.le_refl, implies_true, forall_const, Bool.false_eq_true, Bool.true_eq_false, reduceCtorEq, false_imp_iff, true_imp_iff, Int.toNat_zero, Int.toNat_natCast, Nat.zero_lt_one, Int.le_refl, allGet]
  refine ⟨fun h => ⟨hp.1, hp.2.1, fun s1 h1 => ?_⟩, fun h => ?_⟩
  · rw [h1]
    exact (if_pos (beq_iff_eq.1 h)).symm
  · exact (if_neg fun q => by rw [beq_iff_eq.2 q] at h; cases h).symm
/-! ### the law -/
def ENN : Env := (((((((((((E0.addQ 24 eqPt).addP 6 shown).addP 17 takenC).inl 28 Tryz.f28 fun _ _ => rds 1).inl 14 Tryz.f14 fun _ _ => rds 10).inl 10 Tryz.f10 fun _ _ => rds 32).inl 15 Tryz.f15 fun _ _ => rds 30).inl 16 Tryz.f16 fun _ _ => rds 20).inl 21 Tryz.f21 fun _ _ => rds 10).inl 18 Tryz.f18 fun _ _ => rds 10).inl 11 Tryz.f11 fun _ _ => rds 6).inl 12 Tryz.f12 fun _ _ => [.unroll 2 2, .raw 1, .raw 2, .raw 3, .raw 7, .det 0]
theorem ENN_ok : EnvOk Tryz.prog ENN := (((((((((((E0_ok.addQ (eqPt_ok (by kernel_rfl))).addP shown_ok).addP taken_ok).inl _ Tryz.func28 rfl (by kernel_rfl)).inl _ Tryz.func14 rfl (by kernel_rfl)).inl _ Tryz.func10 rfl (by kernel_rfl)).inl _ Tryz.func15 rfl (by kernel_rfl)).inl _ Tryz.func16 rfl (by kernel_rfl)).inl _ Tryz.func21 rfl (by kernel_rfl)).inl _ Tryz.func18 rfl (by kernel_rfl)).inl _ Tryz.func11 rfl (by kernel_rfl)).inl _ Tryz.func12 rfl (by kernel_rfl)
abbrev UnitIn (u : UD) : Prop := inKind .i64 u.1 ∧ inKind .i64 u.2.1 ∧ u.2.2.1.length ≤ 140737488351232 ∧ inKind .i64 u.2.2.2.1 ∧ inKind .u32 u.2.2.2.2.1 ∧ inKind .i64 u.2.2.2.2.2.1 ∧ u.2.2.2.2.2.2.1.length ≤ 140737488351232 ∧ inKind .i64 u.2.2.2.2.2.2.2.1 ∧ inKind .i64 u.2.2.2.2.2.2.2.2.1 ∧ True ∧
  ((gO u).n ≤ (gO u).c ∧ (gO u).c * 16 ≤ 140737488351232 ∧ ∀ i, i < (gO u).n → inKind .i64 ((gO u).f i).1 ∧ inKind .i64 ((gO u).f i).2.1 ∧ True) ∧ True
abbrev OpIn (x : OpD) : Prop := inKind .i64 x.1 ∧ inKind .i64 x.2.1 ∧ x.2.2.1.length ≤ 140737488351232 ∧ UnitIn x.2.2.2.1 ∧ True
section
variable {H : Type} {enc : TypeId × Value → H} {W : World} {base : Nat}
theorem opGap : OpE enc Tryz.prog W 46 eGap (fun g => inKind .i64 g.1 ∧ inKind .i64 g.2.1 ∧ True) :=
  .agg (tot := 2) (by kernel_rfl) (by kernel_rfl) rfl (.cons (off := 0) (.int (t := 3) (by kernel_rfl) (by kernel_rfl)) rfl (.cons (off := 1) (.int (t := 3) (by kernel_rfl) (by kernel_rfl)) rfl .nil))
abbrev unitCells : List TypeId := [3] ++ ([3] ++ ([9] ++ ([3] ++ ([33] ++ ([3] ++ ([9] ++ ([3] ++ ([3] ++ ([4] ++ ([34] ++ []))))))))))
theorem opUnit : OpA enc Tryz.prog W base 36 unitCells pUnit UnitIn :=
  .agg (tot := 11) (by kernel_rfl) (by kernel_rfl) rfl (.cons (off := 0) (.elt (ct := [3]) (.int (t := 3) (by kernel_rfl) (by kernel_rfl)) (by kernel_rfl)) rfl (.cons (off := 1) (.elt (ct := [3]) (.int (t := 3) (by kernel_rfl) (by kernel_rfl)) (by kernel_rfl)) rfl (.cons (off := 2) (.elt (ct := [9]) (.str (t := 9) (by kernel_rfl) (by kernel_rfl)) (by kernel_rfl)) rfl (.cons (off := 3) (.elt (ct := [3]) (.int (t := 3) (by kernel_rfl) (by kernel_rfl)) (by kernel_rfl)) rfl (.cons (off := 4) (.elt (ct := [33]) (.int (t := 33) (by kernel_rfl) (by kernel_rfl)) (by kernel_rfl)) rfl (.cons (off := 5) (.elt (ct := [3]) (.int (t := 3) (by kernel_rfl) (by kernel_rfl)) (by kernel_rfl)) rfl (.cons (off := 6) (.elt (ct := [9]) (.str (t := 9) (by kernel_rfl) (by kernel_rfl)) (by kernel_rfl)) rfl (.cons (off := 7) (.elt (ct := [3]) (.int (t := 3) (by kernel_rfl) (by kernel_rfl)) (by kernel_rfl)) rfl (.cons (off := 8) (.elt (ct := [3]) (.int (t := 3) (by kernel_rfl) (by kernel_rfl)) (by kernel_rfl)) rfl (.cons (off := 9) (.elt (ct := [4]) (.bool (t := 4) (by kernel_rfl) (by kernel_rfl)) (by kernel_rfl)) rfl (.cons (off := 10) (.row (t := 34) (e := 46) (by kernel_rfl) opGap (by kernel_rfl) (by kernel_rfl)) rfl (.nil (ct := [])))))))))))))
abbrev opCells : List TypeId := [3] ++ ([3] ++ ([9] ++ (unitCells ++ [])))
theorem opOp : OpA enc Tryz.prog W base 53 opCells pOp OpIn :=
  .agg (tot := 14) (by kernel_rfl) (by kernel_rfl) rfl (.cons (off := 0) (.elt (ct := [3]) (.int (t := 3) (by kernel_rfl) (by kernel_rfl)) (by kernel_rfl)) rfl (.cons (off := 1) (.elt (ct := [3]) (.int (t := 3) (by kernel_rfl) (by kernel_rfl)) (by kernel_rfl)) rfl (.cons (off := 2) (.elt (ct := [9]) (.str (t := 9) (by kernel_rfl) (by kernel_rfl)) (by kernel_rfl)) rfl (.cons (off := 3) opUnit rfl (.nil (ct := []))))))
end
abbrev NoneIn (x : OpD × Unit) : Prop := OpIn x.1 ∧ True
theorem noneTop {H : Type} {enc : TypeId × Value → H} (W : World) (base : Nat) : OpTop enc Tryz.prog W base Tryz.f5.params.toList aOp NoneIn :=
  .cons opOp (.inl ⟨by kernel_rfl, by kernel_rfl, fun _ _ => rfl⟩) .nil
theorem none_walk : ∀ (x : OpD × Unit) (hR : NoneIn x) (hw : ∀ v ∈ aOp.svs 0 x, v.wf), exCode ENN Tryz.f5.ntmps ([.unroll 7 3, .det 0, .raw 1, .det 2, .raw 3, .det 4, .raw 6, .raw 7, .raw 8, .raw 9, .raw 10, .raw 11, .raw 12, .raw 13, .sure 13, .det 14, .raw 15]) (match Tryz.f5.body with | some c => c | none => .skip) (argFr 0 (aOp.svs 0 x)) (aOp.hp 0 x) aOp.tags (atEnd ENN Tryz.f5.results.toList fun r _ _ => eqv r (.bool true)) := by
  refine fun ⟨⟨kd, nn, un, ⟨k, nr, nm, sz, sm, of, da, wy, o, me, ⟨b, oo, n, c, z, f⟩, ()⟩, ()⟩, ()⟩ hR hw => ?_
  refine vc_of (q :=
      ∀ (b1 : Nat), (b1 = b1 ∧ 0 = 0) ∧ ∀ (b2 : Nat), (0 : Int) ≤ (0 : Int) ∧ (0 : Int) < (↑(1 : Nat) : Int) ∧ (b2 = b2 ∧ 0 = 0) ∧ 0 < 1 ∧ ∀ (b3 : Nat), (b3 = b3 ∧ 0 = 0) ∧ (0 : Int) ≤ (0 : Int) ∧ (0 : Int) < (↑(1 : Nat) : Int) ∧ (b2 = b2 ∧ 0 = 0) ∧ 0 < 1 ∧ ∀ (v1 : Int), v1 = (↑(List.length un) : Int) → (b3 = b3 ∧ 0 = 0) ∧ ∀ (v2 : Int), v2 = (↑(List.length da) : Int) → ∀ (v3 : Int), v3 = IntKind.i64.wrap
      (v1 + v2) → (b3 = b3 ∧ 0 = 0) ∧ ∀ (v4 : Int), v4 = (↑(List.length nm) : Int) → ∀ (v5 : Int), v5 = IntKind.i64.wrap (v3 + v4) → (decide (v5 > (1000 : Int)) = false → b3 = b3 ∧ 0 = 0) ∧ ∀ (v6 : Int), v6 = (↑n : Int) → ∀ (t1 : Bool), (t1 = if decide (v5 > (1000 : Int)) = true then true else decide (v6 > (100 : Int))) → (t1 = true → true = true) ∧ (t1 = false → ∀ (b4 : Nat), (0 : Int) ≤ (0 : Int) ∧ (0
      : Int) < (↑(2 : Nat) : Int) ∧ (b1 = b1 ∧ 0 = 0) ∧ n ≤ n ∧ (∀ (k1 : Nat), k1 < n → true = true) ∧ (b = b ∧ oo = oo) ∧ n ≤ 4294967296 ∧ ((0 : Int) ≤ sm ∧ sm ≤ (4294967295 : Int)) ∧ (b1 = b1 ∧ 0 = 0) ∧ (b1 = b1 ∧ 0 = 0) ∧ ((if (if (if (if (if (if false = true then true else IntKind.i64.wrap (IntKind.i64.wrap ((↑(0 : Nat) : Int) + (↑(0 : Nat) : Int)) + (↑(0 : Nat) : Int)) != (0 : Int)) = true then true
      else (1 : Int) != (1 : Int)) = true then true else (1 : Int) != (1 : Int)) = true then true else (1 : Int) != (1 : Int)) = true then true else (1 : Int) != (1 : Int)) = true then true else (↑(0 : Nat) : Int) != (0 : Int)) = false → b1 = b1 ∧ 0 = 0) ∧ (0 : Int) ≤ IntKind.i64.wrap ((0 : Int) + (1 : Int)) ∧ IntKind.i64.wrap ((0 : Int) + (1 : Int)) < (↑(2 : Nat) : Int) ∧ (false = false → b4 = b4 ∧ 0 =
      0) ∧ (b1 = b1 ∧ 0 = 0) ∧ n ≤ n ∧ (∀ (k2 : Nat), k2 < n → true = true) ∧ (b = b ∧ oo = oo) ∧ n ≤ 4294967296 ∧ ((0 : Int) ≤ sm ∧ sm ≤ (4294967295 : Int)) ∧ (false = false → b4 = b4 ∧ 0 = 0) ∧ (b1 = b1 ∧ 0 = 0) ∧ (false = false → b4 = b4 ∧ 0 = 0) ∧ (b1 = b1 ∧ 0 = 0) ∧ (false = false → b4 = b4 ∧ 0 = 0) ∧ (false = false → b4 = b4 ∧ 0 = 0) ∧ (false = false → b4 = b4 ∧ 0 = 0) ∧ ((if (if (if (if (if (if
      false = true then true else IntKind.i64.wrap (IntKind.i64.wrap ((↑(0 : Nat) : Int) + (↑(0 : Nat) : Int)) + (↑(0 : Nat) : Int)) != (0 : Int)) = true then true else (1 : Int) != (1 : Int)) = true then true else (1 : Int) != (1 : Int)) = true then true else (1 : Int) != (1 : Int)) = true then true else (1 : Int) != (1 : Int)) = true then true else (↑(0 : Nat) : Int) != (0 : Int)) = false → b1 = b1 ∧ 0
      = 0) ∧ (false = false → b4 = b4 ∧ 0 = 0) ∧ true = true)) (by kernel_rfl) ?_
  obtain ⟨⟨_, _, _, ⟨_, _, _, _, hsm, _⟩, _⟩, _⟩ := hR
  have hsm : inKind .u32 sm := hsm
  have sm0 : 0 ≤ sm ∧ sm ≤ 4294967295 := by
    simpa [inKind, Lit.wf, IntKind.min, IntKind.max, IntKind.signed, IntKind.bits] using hsm
  intro b1
  refine ⟨⟨rfl, rfl⟩, fun b2 => ⟨by decide, by decide, ⟨rfl, rfl⟩, by decide, fun b3 => ⟨⟨rfl, rfl⟩, by decide, by decide, ⟨rfl, rfl⟩, by decide, fun v1 h1 => ⟨⟨rfl, rfl⟩, fun v2 h2 v3 h3 => ⟨⟨rfl, rfl⟩, fun v4 h4 v5 h5 => ⟨fun _ => ⟨rfl, rfl⟩, fun v6 h6 t1 g1 => ⟨fun _ => rfl, fun q => ?_⟩⟩⟩⟩⟩⟩⟩
  have hn : n ≤ 100 := by
    rw [q] at g1
    split at g1
    · cases g1
    · have := of_decide_eq_false g1.symm
      omega
  intro b4
  exact ⟨by decide, by decide, ⟨rfl, rfl⟩, Nat.le_refl _, fun _ _ => rfl, ⟨rfl, rfl⟩, by omega, sm0, ⟨rfl, rfl⟩, ⟨rfl, rfl⟩, fun _ => ⟨rfl, rfl⟩, by decide, by decide, fun _ => ⟨rfl, rfl⟩, ⟨rfl, rfl⟩, Nat.le_refl _, fun _ _ => rfl, ⟨rfl, rfl⟩, by omega, sm0, fun _ => ⟨rfl, rfl⟩, ⟨rfl, rfl⟩, fun _ => ⟨rfl, rfl⟩, ⟨rfl, rfl⟩, fun _ => ⟨rfl, rfl⟩, fun _ => ⟨rfl, rfl⟩, fun _ => ⟨rfl, rfl⟩, fun _ => ⟨rfl, rfl⟩, fun _ => ⟨rfl, rfl⟩, rfl⟩
end Rc
