/-
  OWN WORK. Sender: the law SenderNone: the walk.
-/
import Derived.Test.YtfmbmiiioojbeaaGreatN3
import Derived.Test.YtfmbmiiioojbeaaGreatLB
namespace Rc
open Go Go.Proofs Eng
set_option linter.unusedVariables false
set_option linter.unusedSimpArgs false
set_option maxRecDepth 100000
set_option maxHeartbeats 4000000

abbrev OpD := Int × Int × List UInt8 × List UInt8 × List UInt8 × UD × Unit
abbrev pOp : Arg OpD := .agg (.cons (.elt (.int .i64)) (.cons (.elt (.int .i64)) (.cons (.elt .str) (.cons (.elt .str) (.cons (.elt .str) (.cons pUnit .nil))))))
abbrev aOp : ArgL (OpD × Unit) := .cons pOp .nil
/-! ### taken -/
def ETK : Env := E0.addP 30 unitC
theorem ETK_ok : EnvOk Tryz.prog ETK := E0_ok.addP unit_ok
def takenL (x : OpD) : List UInt8 := if x.2.2.2.2.1 = [] then putU (uOf x.2.2.2.2.2.1) else x.2.2.2.2.1
def takenC := pcOf aOp (fun x => [(gO x.1.2.2.2.2.2.1).n ≤ 4294967296, 0 ≤ x.1.2.2.2.2.2.1.2.2.2.2.1 ∧ x.1.2.2.2.2.2.1.2.2.2.2.1 ≤ 4294967295]) (fun x => .str (takenL x.1))
theorem taken_ok : PcOk Tryz.prog 21 takenC := by
  refine pcOf_runS (fun _ => ETK_ok) Tryz.func21 rfl (by kernel_rfl) (fun x hw => ?_) (fun _ => []) (fun _ => Nat.le_of_ble_eq_true rfl) (fun ⟨⟨kd, nn, sn, sf, un, ⟨k, nr, nm, sz, sm, of, da, wy, o, me, ⟨b, oo, n, c, z, f⟩, ()⟩, ()⟩, ()⟩ hp hw => ?_)
  · have hw := hw _ (List.mem_cons_self ..)
    have hl : x.1.2.2.2.2.1.length ≤ 9223372036854775807 := hw.2.2.2.2.2.2.2.2.1
    show (takenL x.1).length ≤ _
    unfold takenL
    split
    · have := putU_len (uOf x.1.2.2.2.2.2.1); omega
    · exact hl
  refine vc_of (q :=
      ∀ (b1:Nat), (b1=b1∧0=0)∧((un==[])=true→(b1=b1∧0=0)∧n≤n∧(∀ (k1:Nat), k1 < n→true=true)∧(b=b∧oo=oo)∧n≤4294967296∧((0:Int)≤sm∧sm≤(4294967295:Int))∧∀ (s1:List UInt8), s1=putU (uOf (k, nr, nm, sz, sm, of, da, wy, o, me, Eng.RowD.mk b oo n c z f, ()))→s1=takenL (kd, nn, sn, sf, un, (k, nr, nm, sz, sm, of, da, wy, o, me, Eng.RowD.mk b oo n c z f, ()), ()))∧((un==[])=false→(b1=b1∧0=0)∧un=takenL (kd, nn,
      sn, sf, un, (k, nr, nm, sz, sm, of, da, wy, o, me, Eng.RowD.mk b oo n c z f, ()), ()))) (by kernel_rfl) ?_
  try simp only [eq_self, true_and, and_true, Nat.le_refl, implies_true, forall_const, Bool.false_eq_true, Bool.true_eq_false, reduceCtorEq, false_imp_iff, true_imp_iff, Int.toNat_zero, Int.toNat_natCast, Nat.zero_lt_one, Int.le_refl, allGet]
  refine ⟨fun h => ⟨hp.1, hp.2.1, fun s1 h1 => ?_⟩, fun h => ?_⟩
  · rw [h1]
    exact (if_pos (beq_iff_eq.1 h)).symm
  · exact (if_neg fun q => by rw [beq_iff_eq.2 q] at h; cases h).symm
/-! ### great, of one call -/
abbrev GX := Nat × OpD
abbrev opV (x : OpD) : SV := .agg [.int .i64 x.1, .int .i64 x.2.1, .str x.2.2.1, .str x.2.2.2.1, .str x.2.2.2.2.1, .agg [.int .i64 x.2.2.2.2.2.1.1, .int .i64 x.2.2.2.2.2.1.2.1, .str x.2.2.2.2.2.1.2.2.1, .int .i64 x.2.2.2.2.2.1.2.2.2.1, .int .u32 x.2.2.2.2.2.1.2.2.2.2.1, .int .i64 x.2.2.2.2.2.1.2.2.2.2.2.1, .str x.2.2.2.2.2.1.2.2.2.2.2.2.1, .int .i64 x.2.2.2.2.2.1.2.2.2.2.2.2.2.1, .int .i64 x.2.2.2.2.2.1.2.2.2.2.2.2.2.2.1, .bool x.2.2.2.2.2.1.2.2.2.2.2.2.2.2.2.1, .slice 0 (gO x.2.2.2.2.2.1).b (gO x.2.2.2.2.2.1).off [] 2 0 (gO x.2.2.2.2.2.1).n (gO x.2.2.2.2.2.1).c (gO x.2.2.2.2.2.1).z]]
abbrev opRow (x : GX) : Hp := [⟨2, x.1, 0, 16, 1, fun _ => opV x.2, true, false, 1, 55, false, none⟩]
def greatA : LA := ⟨0, GX, [0], fun x => [.slice 2 x.1 0 [] 16 0 1 1 false], [2], opRow, fun _ => True, fun _ => 0⟩
def greatC := bxC greatA (fun _ => Bool) (fun x y => (.bool y, opRow x)) (fun x y => y = false → (gO x.2.2.2.2.2.2.1).n ≤ 100)
theorem or3 {A B C : Bool} (h : (if (if A = true then true else B) = true then true else C) = false) : B = false := by
  cases A <;> cases B <;> simp_all
theorem great_ok : EcOk Tryz.prog 16 greatC := by
  refine bx_run (A := greatA) (fun _ => E0_ok) Tryz.func16 rfl (by kernel_rfl) 1 rfl (fun _ => rfl) (Nat.le_of_ble_eq_true rfl) (fun _ => [.unroll 3 2, .raw 1, .raw 2, .raw 3, .raw 4, .raw 5, .raw 7, .det 0, .draw 5 (.take 0 (.take 1 (.take 2 (.take 3 (.take 4 (.take 5 (.take 6 (.take 7 (.take 8 (.take 9 (.take 10 (.take 11 (.take 12 (.take 13 (.take 14 (.take 15 (.take 16 (.take 17 (.take 18 (.take 19 (.take 20 (.take 21 (.take 22 (.take 23 (.take 24 (.take 25 (.take 26 (.take 27 (.take 28 (.take 29 (.take 30 (.take 31 (.take 32 (.take 33 (.take 34 (.take 35 (.take 36 (.take 37 (.take 38 (.take 39 (.take 40 (.take 41 .fin)))))))))))))))))))))))))))))))))))))))))) []]) 5 (fun ⟨b0, kd, nn, sn, sf, un, ⟨k, nr, nm, sz, sm, of, da, wy, o, me, ⟨b, oo, n, c, z, f⟩, ()⟩, ()⟩ hi hw => ?_)
  refine vc_of (q :=
      (0:Int)≤0∧0 < (↑(1:Nat):Int)∧(b0=b0∧0=0)∧0 < 1∧(0:Int)≤0∧0 < (↑(1:Nat):Int)∧(b0=b0∧0=0)∧0 < 1∧(decide (IntKind.i64.wrap ((↑(List.length un):Int)+(↑(List.length sn):Int)) > (1000:Int))=false→(0:Int)≤0)∧(decide (IntKind.i64.wrap ((↑(List.length un):Int)+(↑(List.length sn):Int)) > (1000:Int))=false→0 < (↑(1:Nat):Int))∧(decide (IntKind.i64.wrap ((↑(List.length un):Int)+(↑(List.length sn):Int)) >
      (1000:Int))=false→b0=b0∧0=0)∧(decide (IntKind.i64.wrap ((↑(List.length un):Int)+(↑(List.length sn):Int)) > (1000:Int))=false→0 < 1)∧((if decide (IntKind.i64.wrap ((↑(List.length un):Int)+(↑(List.length sn):Int)) > (1000:Int))=true then true else decide ((↑n:Int) > (100:Int)))=false→(0:Int)≤0)∧((if decide (IntKind.i64.wrap ((↑(List.length un):Int)+(↑(List.length sn):Int)) > (1000:Int))=true then
      true else decide ((↑n:Int) > (100:Int)))=false→0 < (↑(1:Nat):Int))∧((if decide (IntKind.i64.wrap ((↑(List.length un):Int)+(↑(List.length sn):Int)) > (1000:Int))=true then true else decide ((↑n:Int) > (100:Int)))=false→b0=b0∧0=0)∧((if decide (IntKind.i64.wrap ((↑(List.length un):Int)+(↑(List.length sn):Int)) > (1000:Int))=true then true else decide ((↑n:Int) > (100:Int)))=false→0 < 1)∧((if decide
      (IntKind.i64.wrap ((↑(List.length un):Int)+(↑(List.length sn):Int)) > (1000:Int))=true then true else decide ((↑n:Int) > (100:Int)))=false→(0:Int)≤0)∧((if decide (IntKind.i64.wrap ((↑(List.length un):Int)+(↑(List.length sn):Int)) > (1000:Int))=true then true else decide ((↑n:Int) > (100:Int)))=false→0 < (↑(1:Nat):Int))∧((if decide (IntKind.i64.wrap ((↑(List.length un):Int)+(↑(List.length sn):Int))
      > (1000:Int))=true then true else decide ((↑n:Int) > (100:Int)))=false→b0=b0∧0=0)∧((if decide (IntKind.i64.wrap ((↑(List.length un):Int)+(↑(List.length sn):Int)) > (1000:Int))=true then true else decide ((↑n:Int) > (100:Int)))=false→0 < 1)∧((if (if decide (IntKind.i64.wrap ((↑(List.length un):Int)+(↑(List.length sn):Int)) > (1000:Int))=true then true else decide ((↑n:Int) > (100:Int)))=true then
      true else decide (IntKind.i64.wrap ((↑(List.length da):Int)+(↑(List.length nm):Int)) > (1000:Int)))=true→∃ (x1:Bool), true=x1∧((b0=b0∧0=0∧false=false∧1≤1∧1≤1∧1≤1)∧∀ (i1:Nat), i1 < 1→kd=kd∧nn=nn∧sn=sn∧sf=sf∧un=un∧k=k∧nr=nr∧nm=nm∧sz=sz∧sm=sm∧of=of∧da=da∧wy=wy∧o=o∧me=me∧b=b∧oo=oo∧0=0∧n=n∧c=c∧z=z)∧(x1=false→n≤100))∧((if (if decide (IntKind.i64.wrap ((↑(List.length un):Int)+(↑(List.length sn):Int)) >
      (1000:Int))=true then true else decide ((↑n:Int) > (100:Int)))=true then true else decide (IntKind.i64.wrap ((↑(List.length da):Int)+(↑(List.length nm):Int)) > (1000:Int)))=false→(0:Int)≤0∧0 < (↑(1:Nat):Int)∧(b0=b0∧0=0)∧0 < 1∧∀ (v1:Int), v1=(↑(1:Nat):Int)→∀ (t1:Bool), (t1=if decide (v1 > (300:Int))=true then true else decide (IntKind.i64.wrap ((0:Int)+(↑(List.length sf):Int)) > (200000:Int)))→∃
      (x2:Bool), t1=x2∧((b0=b0∧0=0∧false=false∧1≤1∧1≤1∧1≤1)∧∀ (i2:Nat), i2 < 1→kd=kd∧nn=nn∧sn=sn∧sf=sf∧un=un∧k=k∧nr=nr∧nm=nm∧sz=sz∧sm=sm∧of=of∧da=da∧wy=wy∧o=o∧me=me∧b=b∧oo=oo∧0=0∧n=n∧c=c∧z=z)∧(x2=false→n≤100))) (by kernel_rfl) ?_
  repeat' (first | with_reducible exact rfl | exact trivial | exact Nat.le_refl _ | refine And.intro ?_ ?_ | refine ⟨_, rfl, ?_⟩ | intro _)
  all_goals (first | omega | decide | contradiction | (have hh := of_decide_eq_false (or3 ‹_›); omega))
/-! ### the law -/
def ENN : Env := ((((((((((((E0.addQ 24 eqPt).addQ 66 eqMp).addP 6 shown).addP 21 takenC).addE 16 greatC).inl 31 Tryz.f31 fun _ _ => rds 1).inl 9 Tryz.f9 fun _ _ => rds 15).inl 13 Tryz.f13 fun _ _ => rds 9).inl 8 Tryz.f8 fun _ _ => rds 13).inl 24 Tryz.f24 fun _ _ => rds 30).inl 26 Tryz.f26 fun _ _ => rds 20).inl 28 Tryz.f28 fun _ _ => rds 10).inl 15 Tryz.f15 fun _ _ => rds 3
theorem ENN_ok : EnvOk Tryz.prog ENN := ((((((((((((E0_ok.addQ (eqPt_ok (by kernel_rfl))).addQ (eqMp_ok Tryz.underlying66)).addP shown_ok).addP taken_ok).addE great_ok).inl _ Tryz.func31 rfl (by kernel_rfl)).inl _ Tryz.func9 rfl (by kernel_rfl)).inl _ Tryz.func13 rfl (by kernel_rfl)).inl _ Tryz.func8 rfl (by kernel_rfl)).inl _ Tryz.func24 rfl (by kernel_rfl)).inl _ Tryz.func26 rfl (by kernel_rfl)).inl _ Tryz.func28 rfl (by kernel_rfl)).inl _ Tryz.func15 rfl (by kernel_rfl)
abbrev UnitIn (u : UD) : Prop := inKind .i64 u.1 ∧ inKind .i64 u.2.1 ∧ u.2.2.1.length ≤ 140737488351232 ∧ inKind .i64 u.2.2.2.1 ∧ inKind .u32 u.2.2.2.2.1 ∧ inKind .i64 u.2.2.2.2.2.1 ∧ u.2.2.2.2.2.2.1.length ≤ 140737488351232 ∧ inKind .i64 u.2.2.2.2.2.2.2.1 ∧ inKind .i64 u.2.2.2.2.2.2.2.2.1 ∧ True ∧
  ((gO u).n ≤ (gO u).c ∧ (gO u).c * 16 ≤ 140737488351232 ∧ ∀ i, i < (gO u).n → inKind .i64 ((gO u).f i).1 ∧ inKind .i64 ((gO u).f i).2.1 ∧ True) ∧ True
abbrev OpIn (x : OpD) : Prop := inKind .i64 x.1 ∧ inKind .i64 x.2.1 ∧ x.2.2.1.length ≤ 140737488351232 ∧ x.2.2.2.1.length ≤ 140737488351232 ∧ x.2.2.2.2.1.length ≤ 140737488351232 ∧ UnitIn x.2.2.2.2.2.1 ∧ True
section
variable {H : Type} {enc : TypeId × Value → H} {W : World} {base : Nat}
theorem opGap : OpE enc Tryz.prog W 45 eGap (fun g => inKind .i64 g.1 ∧ inKind .i64 g.2.1 ∧ True) :=
  .agg (tot := 2) (by kernel_rfl) (by kernel_rfl) rfl (.cons (off := 0) (.int (t := 3) (by kernel_rfl) (by kernel_rfl)) rfl (.cons (off := 1) (.int (t := 3) (by kernel_rfl) (by kernel_rfl)) rfl .nil))
abbrev unitCells : List TypeId := [3] ++ ([3] ++ ([9] ++ ([3] ++ ([32] ++ ([3] ++ ([9] ++ ([3] ++ ([3] ++ ([4] ++ ([33] ++ []))))))))))
theorem opUnit : OpA enc Tryz.prog W base 35 unitCells pUnit UnitIn :=
  .agg (tot := 11) (by kernel_rfl) (by kernel_rfl) rfl (.cons (off := 0) (.elt (ct := [3]) (.int (t := 3) (by kernel_rfl) (by kernel_rfl)) (by kernel_rfl)) rfl (.cons (off := 1) (.elt (ct := [3]) (.int (t := 3) (by kernel_rfl) (by kernel_rfl)) (by kernel_rfl)) rfl (.cons (off := 2) (.elt (ct := [9]) (.str (t := 9) (by kernel_rfl) (by kernel_rfl)) (by kernel_rfl)) rfl (.cons (off := 3) (.elt (ct := [3]) (.int (t := 3) (by kernel_rfl) (by kernel_rfl)) (by kernel_rfl)) rfl (.cons (off := 4) (.elt (ct := [32]) (.int (t := 32) (by kernel_rfl) (by kernel_rfl)) (by kernel_rfl)) rfl (.cons (off := 5) (.elt (ct := [3]) (.int (t := 3) (by kernel_rfl) (by kernel_rfl)) (by kernel_rfl)) rfl (.cons (off := 6) (.elt (ct := [9]) (.str (t := 9) (by kernel_rfl) (by kernel_rfl)) (by kernel_rfl)) rfl (.cons (off := 7) (.elt (ct := [3]) (.int (t := 3) (by kernel_rfl) (by kernel_rfl)) (by kernel_rfl)) rfl (.cons (off := 8) (.elt (ct := [3]) (.int (t := 3) (by kernel_rfl) (by kernel_rfl)) (by kernel_rfl)) rfl (.cons (off := 9) (.elt (ct := [4]) (.bool (t := 4) (by kernel_rfl) (by kernel_rfl)) (by kernel_rfl)) rfl (.cons (off := 10) (.row (t := 33) (e := 45) (by kernel_rfl) opGap (by kernel_rfl) (by kernel_rfl)) rfl (.nil (ct := [])))))))))))))
abbrev opCells : List TypeId := [3] ++ ([3] ++ ([9] ++ ([9] ++ ([9] ++ (unitCells ++ [])))))
theorem opOp : OpA enc Tryz.prog W base 55 opCells pOp OpIn :=
  .agg (tot := 16) (by kernel_rfl) (by kernel_rfl) rfl (.cons (off := 0) (.elt (ct := [3]) (.int (t := 3) (by kernel_rfl) (by kernel_rfl)) (by kernel_rfl)) rfl (.cons (off := 1) (.elt (ct := [3]) (.int (t := 3) (by kernel_rfl) (by kernel_rfl)) (by kernel_rfl)) rfl (.cons (off := 2) (.elt (ct := [9]) (.str (t := 9) (by kernel_rfl) (by kernel_rfl)) (by kernel_rfl)) rfl (.cons (off := 3) (.elt (ct := [9]) (.str (t := 9) (by kernel_rfl) (by kernel_rfl)) (by kernel_rfl)) rfl (.cons (off := 4) (.elt (ct := [9]) (.str (t := 9) (by kernel_rfl) (by kernel_rfl)) (by kernel_rfl)) rfl (.cons (off := 5) opUnit rfl (.nil (ct := []))))))))
end
abbrev NoneIn (x : OpD × Unit) : Prop := OpIn x.1 ∧ True
theorem noneTop {H : Type} {enc : TypeId × Value → H} (W : World) (base : Nat) : OpTop enc Tryz.prog W base Tryz.f5.params.toList aOp NoneIn :=
  .cons opOp (.inl ⟨by kernel_rfl, by kernel_rfl, fun _ _ => rfl⟩) .nil
theorem none_walk : ∀ (x : OpD × Unit) (hR : NoneIn x) (hw : ∀ v ∈ aOp.svs 0 x, v.wf), exCode ENN Tryz.f5.ntmps ([.unroll 7 3, .det 0, .raw 1, .det 2, .raw 3, .raw 6, .raw 7, .raw 8, .raw 9, .raw 10, .raw 11, .raw 12, .sure 12, .det 13, .raw 14]) (match Tryz.f5.body with | some c => c | none => .skip) (argFr 0 (aOp.svs 0 x)) (aOp.hp 0 x) aOp.tags (atEnd ENN Tryz.f5.results.toList fun r _ _ => eqv r (.bool true)) := by
  refine fun ⟨⟨kd, nn, sn, sf, un, ⟨k, nr, nm, sz, sm, of, da, wy, o, me, ⟨b, oo, n, c, z, f⟩, ()⟩, ()⟩, ()⟩ hR hw => ?_
  refine vc_of (q :=
      ∀ (b1:Nat), (b1=b1∧0=0)∧∀ (b2:Nat), ∃ (x1:Nat × Int × Int × List UInt8 × List UInt8 × List UInt8 × (Int × Int × List UInt8 × Int × Int × Int × List UInt8 × Int × Int × Bool × Eng.RowD (Int × Int × Unit) × Unit) × Unit), (b2=x1.1∧0=0∧0=0∧1=1∧1=1∧false=false)∧((b2=x1.1∧0=0∧false=false∧1≤1∧1≤1∧1≤1)∧∀ (i1:Nat), i1 <
      1→kd=x1.2.1∧nn=x1.2.2.1∧sn=x1.2.2.2.1∧sf=x1.2.2.2.2.1∧un=x1.2.2.2.2.2.1∧k=x1.2.2.2.2.2.2.1.1∧nr=x1.2.2.2.2.2.2.1.2.1∧nm=x1.2.2.2.2.2.2.1.2.2.1∧sz=(x1.2.2.2.2.2.2.1.2.2.2).1∧sm=((x1.2.2.2.2.2.2.1.2.2.2).2).1∧of=(((x1.2.2.2.2.2.2.1.2.2.2).2).2).1∧da=((((x1.2.2.2.2.2.2.1.2.2.2).2).2).2).1∧wy=(((((x1.2.2.2.2.2.2.1.2.2.2).2).2).2).2).1∧o=((((((x1.2.2.2.2.2.2.1.2.2.2).2).2).2).2).2).1∧me=(((((((x1.2.2.2.2.2.2.1.2.2.2).2).2).2).2).2).2).1∧b=Eng.RowD.b
      (((((((((x1.2.2.2.2.2.2.1.2.2.2).2).2).2).2).2).2).2).1)∧oo=Eng.RowD.off (((((((((x1.2.2.2.2.2.2.1.2.2.2).2).2).2).2).2).2).2).1)∧0=0∧n=Eng.RowD.n (((((((((x1.2.2.2.2.2.2.1.2.2.2).2).2).2).2).2).2).2).1)∧c=Eng.RowD.c (((((((((x1.2.2.2.2.2.2.1.2.2.2).2).2).2).2).2).2).2).1)∧z=Eng.RowD.z (((((((((x1.2.2.2.2.2.2.1.2.2.2).2).2).2).2).2).2).2).1))∧True∧∀ (t1:Bool), (t1=false→Eng.RowD.n
      (((((((((x1.2.2.2.2.2.2.1.2.2.2).2).2).2).2).2).2).2).1)≤100)→(t1=true→true=true)∧(t1=false→∀ (b3:Nat), (0:Int)≤0∧0 < (↑(2:Nat):Int)∧(b1=b1∧0=0)∧n≤n∧(∀ (k1:Nat), k1 < n→true=true)∧(b=b∧oo=oo)∧n≤4294967296∧((0:Int)≤sm∧sm≤(4294967295:Int))∧(b1=b1∧0=0)∧((if (if (if false=true then true else IntKind.i64.wrap ((↑(0:Nat):Int)+(↑(0:Nat):Int)) != (0:Int))=true then true else (1:Int) != (1:Int))=true then
      true else (1:Int) != (1:Int))=false→b1=b1∧0=0)∧((if (if (if false=true then true else IntKind.i64.wrap ((↑(0:Nat):Int)+(↑(0:Nat):Int)) != (0:Int))=true then true else (1:Int) != (1:Int))=true then true else (1:Int) != (1:Int))=false→b1=b1∧0=0)∧((if (if (if false=true then true else IntKind.i64.wrap ((↑(0:Nat):Int)+(↑(0:Nat):Int)) != (0:Int))=true then true else (1:Int) != (1:Int))=true then true
      else (1:Int) != (1:Int))=false→b1=b1∧0=0)∧((if (if (if (if false=true then true else IntKind.i64.wrap ((↑(0:Nat):Int)+(↑(0:Nat):Int)) != (0:Int))=true then true else (1:Int) != (1:Int))=true then true else (1:Int) != (1:Int))=true then true else (1:Int) != (1:Int))=false→b1=b1∧0=0)∧(0:Int)≤IntKind.i64.wrap ((0:Int)+(1:Int))∧IntKind.i64.wrap ((0:Int)+(1:Int)) <
      (↑(2:Nat):Int)∧(false=false→b3=b3∧0=0)∧(b1=b1∧0=0)∧n≤n∧(∀ (k2:Nat), k2 < n→true=true)∧(b=b∧oo=oo)∧n≤4294967296∧((0:Int)≤sm∧sm≤(4294967295:Int))∧(false=false→b3=b3∧0=0)∧(b1=b1∧0=0)∧(false=false→b3=b3∧0=0)∧((if (if (if false=true then true else IntKind.i64.wrap ((↑(0:Nat):Int)+(↑(0:Nat):Int)) != (0:Int))=true then true else (1:Int) != (1:Int))=true then true else (1:Int) !=
      (1:Int))=false→b1=b1∧0=0)∧((if (if (if false=true then true else IntKind.i64.wrap ((↑(0:Nat):Int)+(↑(0:Nat):Int)) != (0:Int))=true then true else (1:Int) != (1:Int))=true then true else (1:Int) != (1:Int))=false→b1=b1∧0=0)∧((if (if (if false=true then true else IntKind.i64.wrap ((↑(0:Nat):Int)+(↑(0:Nat):Int)) != (0:Int))=true then true else (1:Int) != (1:Int))=true then true else (1:Int) !=
      (1:Int))=false→b1=b1∧0=0)∧(false=false→b3=b3∧0=0)∧((if (if (if (if false=true then true else IntKind.i64.wrap ((↑(0:Nat):Int)+(↑(0:Nat):Int)) != (0:Int))=true then true else (1:Int) != (1:Int))=true then true else (1:Int) != (1:Int))=true then true else (1:Int) != (1:Int))=false→b1=b1∧0=0)∧(false=false→b3=b3∧0=0)∧(false=false→b3=b3∧0=0)∧(false=false→b3=b3∧0=0)∧true=true)) (by kernel_rfl) ?_
  obtain ⟨⟨_, _, _, _, _, ⟨_, _, _, _, hsm, _⟩, _⟩, _⟩ := hR
  have hsm : inKind .u32 sm := hsm
  have sm0 : 0 ≤ sm ∧ sm ≤ 4294967295 := by
    simpa [inKind, Lit.wf, IntKind.min, IntKind.max, IntKind.signed, IntKind.bits] using hsm
  refine fun b1 => ⟨⟨rfl, rfl⟩, fun b2 => ⟨(b2, kd, nn, sn, sf, un, (k, nr, nm, sz, sm, of, da, wy, o, me, ⟨b, oo, n, c, z, f⟩, ()), ()), ?_⟩⟩
  dsimp only
  repeat' (first | with_reducible exact rfl | exact trivial | exact Nat.le_refl _ | refine And.intro ?_ ?_ | intro _)
  all_goals (first | omega | decide | contradiction | exact sm0.1 | exact sm0.2 | exact Nat.le_trans (by solve_by_elim : n ≤ 100) (by decide))
end Rc
