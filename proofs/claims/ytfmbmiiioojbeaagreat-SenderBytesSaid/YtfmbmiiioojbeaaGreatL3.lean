/-
  OWN WORK. Units: the reference's Valid and Put.
-/
import Derived.Test.YtfmbmiiioojbeaaGreatL2
namespace Rc
open Go Go.Proofs Eng
set_option linter.unusedVariables false
set_option linter.unusedSimpArgs false
set_option maxRecDepth 100000
set_option maxHeartbeats 4000000
/-! ### Valid -/
def EV0 : Env := (((E0.addP 66 withinC).addP 67 gapsC).addP 68 sameC).addP 43 bytesR
theorem EV0_ok : EnvOk Tryz.prog EV0 := (((E0_ok.addP withinR_ok).addP gapsR_ok).addP sameR_ok).addP bytesR_ok
abbrev gO (x : UD) : GapD := x.2.2.2.2.2.2.2.2.2.2.1
def validC := pcOf (.cons pUnit .nil) (fun x => [(gO x.1).n ≤ 8796093022208]) (fun x => .bool (decide (okU (uOf x.1))))
theorem validR_ok : PcOk Tryz.prog 42 validC := by
  refine pcOf_run (fun _ => EV0_ok) Tryz.func42 rfl (by kernel_rfl) (fun x => trivial)
    (fun x => [.draw 7 (.take 0 (.take 1 (.take 2 (.take 3 (.take 4 (.br 5 (.take 6 (.br 7 .fin .stop)) .stop)))))) [3], .draw 10 (.take 0 (.take 1 (.take 2 (.take 3 (.take 4 (.br 5 (.take 6 (.br 7 .fin .stop)) .stop)))))) [3], .draw 13 (.take 0 (.take 1 (.take 2 (.take 3 (.take 4 (.take 5 (.take 6 (.br 7 (.take 8 (.br 9 (.take 10 (.br 11 .fin .stop)) .stop)) .stop)))))))) [3], .draw 19 (.take 0 (.take 1 (.take 2 (.take 3 (.take 4 (.br 5 (.take 6 (.br 7 .fin .stop)) .stop)))))) [3]])
    (fun _ => Nat.le_of_ble_eq_true rfl) (fun ⟨⟨k, nr, nm, sz, sm, of, da, wy, o, me, ⟨b, oo, n, c, z, f⟩, ()⟩, ()⟩ hp hw => ?_)
  have hda : da.length ≤ 9223372036854775807 := (hw _ (List.mem_cons_self ..)).2.2.2.2.2.2.2.2.2.2.2.2.1
  have hnm : nm.length ≤ 9223372036854775807 := (hw _ (List.mem_cons_self ..)).2.2.2.2.1
  refine vc_of (q :=
      ∀ (b1:Nat), (b1=b1∧0=0)∧∀ (t1:Bool), t1=decide (inR nr (0:Int) (65535:Int))→((!t1)=true→false=decide (okU (uOf (k, nr, nm, sz, sm, of, da, wy, o, me, Eng.RowD.mk b oo n c z f, ()))))∧((!t1)=false→(b1=b1∧0=0)∧(b1=b1∧0=0)∧∀ (b2:Nat), (b2=b2∧0=0)∧(b1=b1∧0=0)∧((k==(1:Int))=true→(b1=b1∧0=0)∧(b1=b1∧0=0)∧((b2=b2∧0=0)∧((b2=b2∧0=0)∧(b1=b1∧0=0)∧∀ (v1:Int), v1=(↑(List.length nm):Int)→∀ (t2:Bool), t2=decide
      (inR v1 (1:Int) (32:Int))→(t2=true→b1=b1∧0=0)∧∀ (t3:Bool), t3=decide (inR sz (0:Int) (65535:Int))→∀ (t4:Bool), (t4=if t2=true then t3 else false)→(t4=true→b2=b2∧0=0)∧(t4=true→b1=b1∧0=0)∧(t4=true→true=true)∧(t4=true→n≤n)∧(t4=true→∀ (k1:Nat), k1 < n→true=true)∧(t4=true→b=b∧oo=oo)∧∀ (t5:Bool), t5=decide (uOf (k, nr, nm, sz, (0:Int), (0:Int), [], (0:Int), (0:Int), false, Eng.RowD.mk 0 0 0 0 true fun
      (x:Nat) ↦ ((0:Int), (0:Int), ()), ())=uOf (k, nr, nm, sz, sm, of, da, wy, o, me, Eng.RowD.mk b oo n c z f, ()))→∀ (t6:Bool), (t6=if t4=true then t5 else false)→t6=decide (okU (uOf (k, nr, nm, sz, sm, of, da, wy, o, me, Eng.RowD.mk b oo n c z f, ()))))∧True)∧True)∧((k==(1:Int))=false→((k==(2:Int))=true→(b1=b1∧0=0)∧(b1=b1∧0=0)∧((b2=b2∧0=0)∧((b2=b2∧0=0)∧(b1=b1∧0=0)∧∀ (v2:Int), v2=(↑(List.length
      da):Int)→∀ (t2:Bool), t2=decide (inR v2 (1:Int) (160:Int))→(t2=true→b1=b1∧0=0)∧(t2=true→b1=b1∧0=0)∧∀ (v3:Int), v3=(↑(List.length da):Int)→∀ (v4:Int), v4=IntKind.i64.wrap ((65535:Int) - v3)→∀ (t3:Bool), t3=decide (inR of (0:Int) v4)→∀ (t4:Bool), (t4=if t2=true then t3 else false)→(t4=true→b2=b2∧0=0)∧(t4=true→b1=b1∧0=0)∧(t4=true→true=true)∧(t4=true→n≤n)∧(t4=true→∀ (k1:Nat), k1 <
      n→true=true)∧(t4=true→b=b∧oo=oo)∧∀ (t5:Bool), t5=decide (uOf (k, nr, [], (0:Int), (0:Int), of, da, (0:Int), (0:Int), false, Eng.RowD.mk 0 0 0 0 true fun (x:Nat) ↦ ((0:Int), (0:Int), ()), ())=uOf (k, nr, nm, sz, sm, of, da, wy, o, me, Eng.RowD.mk b oo n c z f, ()))→∀ (t6:Bool), (t6=if t4=true then t5 else false)→t6=decide (okU (uOf (k, nr, nm, sz, sm, of, da, wy, o, me, Eng.RowD.mk b oo n c z f,
      ()))))∧True)∧True)∧((k==(2:Int))=false→((k==(3:Int))=true→(b1=b1∧0=0)∧(b1=b1∧0=0)∧(b1=b1∧0=0)∧((b2=b2∧0=0)∧((b2=b2∧0=0)∧((b2=b2∧0=0)∧(b1=b1∧0=0)∧∀ (t2:Bool), t2=decide (inR wy (0:Int) (1:Int))→(t2=true→b1=b1∧0=0)∧∀ (t3:Bool), t3=decide (inR sz (0:Int) (65535:Int))→∀ (t4:Bool), (t4=if t2=true then t3 else false)→(t4=true→b2=b2∧0=0)∧(t4=true→b1=b1∧0=0)∧(t4=true→true=true)∧(t4=true→n≤n)∧(t4=true→∀
      (k1:Nat), k1 < n→true=true)∧(t4=true→b=b∧oo=oo)∧∀ (t5:Bool), t5=decide (uOf (k, nr, [], sz, sm, (0:Int), [], wy, (0:Int), false, Eng.RowD.mk 0 0 0 0 true fun (x:Nat) ↦ ((0:Int), (0:Int), ()), ())=uOf (k, nr, nm, sz, sm, of, da, wy, o, me, Eng.RowD.mk b oo n c z f, ()))→∀ (t6:Bool), (t6=if t4=true then t5 else false)→t6=decide (okU (uOf (k, nr, nm, sz, sm, of, da, wy, o, me, Eng.RowD.mk b oo n c z
      f, ()))))∧True)∧True)∧True)∧((k==(3:Int))=false→((k==(4:Int))=true→(b1=b1∧0=0)∧(b2=b2∧0=0)∧(b1=b1∧0=0)∧∀ (t3:Bool), t3=decide (inR wy (0:Int) (4:Int))→(t3=true→b2=b2∧0=0)∧(t3=true→b1=b1∧0=0)∧(t3=true→true=true)∧(t3=true→n≤n)∧(t3=true→∀ (k1:Nat), k1 < n→true=true)∧(t3=true→b=b∧oo=oo)∧∀ (t4:Bool), t4=decide (uOf (k, nr, [], (0:Int), (0:Int), (0:Int), [], wy, (0:Int), false, Eng.RowD.mk 0 0 0 0 true
      fun (x:Nat) ↦ ((0:Int), (0:Int), ()), ())=uOf (k, nr, nm, sz, sm, of, da, wy, o, me, Eng.RowD.mk b oo n c z f, ()))→∀ (t5:Bool), (t5=if t3=true then t4 else false)→t5=decide (okU (uOf (k, nr, nm, sz, sm, of, da, wy, o, me, Eng.RowD.mk b oo n c z f, ()))))∧((k==(4:Int))=false→((k==(5:Int))=true→(b1=b1∧0=0)∧(b1=b1∧0=0)∧((b2=b2∧0=0)∧((b2=b2∧0=0)∧(b1=b1∧0=0)∧n≤n∧(∀ (k1:Nat), k1 <
      n→true=true)∧(b=b∧oo=oo)∧n≤8796093022208∧∀ (t4:Bool), t4=decide (gapsOk (-1:Int) (gapsOf (Eng.RowD.mk b oo n c z f))∧n≤20)→(t4=true→b1=b1∧0=0)∧(me=false∧t4=true→b1=b1∧0=0)∧∀ (v3:Int), v3=(↑n:Int)→∀ (t5:Bool), (t5=if me=true then true else decide (v3 > (0:Int)))→∀ (t6:Bool), (t6=if t4=true then t5 else false)→(t6=true→b2=b2∧0=0)∧(t6=true→b1=b1∧0=0)∧(t6=true→n≤n)∧(t6=true→∀ (k2:Nat), k2 <
      n→true=true)∧(t6=true→b=b∧oo=oo)∧(t6=true→n≤n)∧(t6=true→∀ (k3:Nat), k3 < n→true=true)∧(t6=true→b=b∧oo=oo)∧∀ (t7:Bool), t7=decide (uOf (k, nr, [], (0:Int), (0:Int), (0:Int), [], (0:Int), (0:Int), me, Eng.RowD.mk b oo n c z f, ())=uOf (k, nr, nm, sz, sm, of, da, wy, o, me, Eng.RowD.mk b oo n c z f, ()))→∀ (t8:Bool), (t8=if t6=true then t7 else false)→t8=decide (okU (uOf (k, nr, nm, sz, sm, of, da,
      wy, o, me, Eng.RowD.mk b oo n c z f, ()))))∧True)∧True)∧((k==(5:Int))=false→((k==(6:Int))=true→(b1=b1∧0=0)∧(b2=b2∧0=0)∧(b1=b1∧0=0)∧((o==(3:Int))=false→b1=b1∧0=0)∧∀ (t5:Bool), (t5=if (o==(3:Int))=true then true else o==(4:Int))→(t5=true→b2=b2∧0=0)∧(t5=true→b1=b1∧0=0)∧(t5=true→true=true)∧(t5=true→n≤n)∧(t5=true→∀ (k2:Nat), k2 < n→true=true)∧(t5=true→b=b∧oo=oo)∧∀ (t6:Bool), t6=decide (uOf (k, nr, [],
      (0:Int), (0:Int), (0:Int), [], (0:Int), o, false, Eng.RowD.mk 0 0 0 0 true fun (x:Nat) ↦ ((0:Int), (0:Int), ()), ())=uOf (k, nr, nm, sz, sm, of, da, wy, o, me, Eng.RowD.mk b oo n c z f, ()))→∀ (t7:Bool), (t7=if t5=true then t6 else false)→t7=decide (okU (uOf (k, nr, nm, sz, sm, of, da, wy, o, me, Eng.RowD.mk b oo n c z f,
      ()))))∧((k==(6:Int))=false→(false=true→b2=b2∧0=0)∧(false=true→b1=b1∧0=0)∧(false=true→true=true)∧(false=true→n≤n)∧(false=true→∀ (k2:Nat), k2 < n→true=true)∧(false=true→b=b∧oo=oo)∧∀ (t6:Bool), t6=decide (uOf (k, nr, [], (0:Int), (0:Int), (0:Int), [], (0:Int), (0:Int), false, Eng.RowD.mk 0 0 0 0 true fun (x:Nat) ↦ ((0:Int), (0:Int), ()), ())=uOf (k, nr, nm, sz, sm, of, da, wy, o, me, Eng.RowD.mk b oo
      n c z f, ()))→∀ (t7:Bool), (t7=if false=true then t6 else false)→t7=decide (okU (uOf (k, nr, nm, sz, sm, of, da, wy, o, me, Eng.RowD.mk b oo n c z f, ()))))))))))) (by kernel_rfl) ?_
  try simp only [eq_self, true_and, and_true, Nat.le_refl, implies_true, forall_const, Bool.false_eq_true, Bool.true_eq_false, reduceCtorEq, false_imp_iff, true_imp_iff, Int.toNat_zero, Int.toNat_natCast, Nat.zero_lt_one, Int.le_refl, allGet]
  intro t1 h1
  refine ⟨fun q => ?_, fun q => ?_⟩
  · symm
    rw [decide_eq_false_iff_not]
    rintro ⟨q2, _⟩
    have q2 : inR nr 0 65535 := q2
    rw [h1, decide_eq_true q2] at q
    cases q
  have hnr : inR nr 0 65535 := by
    rw [h1] at q
    have : decide (inR nr 0 65535) = true := by simpa using q
    exact of_decide_eq_true this
  refine ⟨fun hk v1 e1 t2 h2 t3 h3 t4 h4 t5 h5 t6 h6 => ?_, fun hk1 => ⟨fun hk v2 e2 t2 h2 v3 e3 v4 e4 t3 h3 t4 h4 t5 h5 t6 h6 => ?_, ?_⟩⟩
  · obtain rfl : k = 1 := by simpa using hk
    rw [ite_and] at h4 h6
    rw [h6, h5, h4, h3, h2, e1, Bool.eq_iff_iff]
    simp only [Bool.and_eq_true, decide_eq_true_eq]
    simp only [okU, fitU, only, uOf, hnr, true_and, if_true]
    rfl
  · obtain rfl : k = 2 := by simpa using hk
    rw [ite_and] at h4 h6
    rw [w64_id (by omega) (by omega)] at e4
    rw [h6, h5, h4, h3, h2, e4, e3, e2, Bool.eq_iff_iff]
    simp only [Bool.and_eq_true, decide_eq_true_eq]
    simp only [okU, fitU, only, uOf, hnr, true_and, if_true, Int.reduceEq, if_false]
    rfl
  have hO : ∀ (a b : Bool), (if a = true then true else b) = (a || b) := fun a b => by cases a <;> rfl
  refine fun hk2 => ⟨fun hk t2 h2 t3 h3 t4 h4 t5 h5 t6 h6 => ?_, fun hk3 => ⟨fun hk t3 h3 t4 h4 t5 h5 => ?_, fun hk4 => ⟨fun hk => ⟨hp.1, fun t4 h4 v1 e1 t5 h5 t6 h6 t7 h7 t8 h8 => ?_⟩, fun hk5 => ⟨fun hk t5 h5 t6 h6 t7 h7 => ?_, fun hk6 t6 h6 t7 h7 => ?_⟩⟩⟩⟩
  · obtain rfl : k = 3 := by simpa using hk
    rw [ite_and] at h4 h6
    rw [h6, h5, h4, h3, h2, Bool.eq_iff_iff]
    simp only [Bool.and_eq_true, decide_eq_true_eq]
    simp only [okU, fitU, only, uOf, hnr, true_and, if_true, Int.reduceEq, if_false]
    rfl
  · obtain rfl : k = 4 := by simpa using hk
    rw [ite_and] at h5
    rw [h5, h4, h3, Bool.eq_iff_iff]
    simp only [Bool.and_eq_true, decide_eq_true_eq]
    simp only [okU, fitU, only, uOf, hnr, true_and, if_true, Int.reduceEq, if_false]
    rfl
  · obtain rfl : k = 5 := by simpa using hk
    rw [ite_and] at h6 h8
    rw [hO] at h5
    rw [h8, h7, h6, h5, h4, e1, Bool.eq_iff_iff]
    simp only [Bool.and_eq_true, Bool.or_eq_true, decide_eq_true_eq]
    simp only [okU, fitU, only, uOf, hnr, true_and, if_true, Int.reduceEq, if_false, gapsOf_len, and_assoc]
    constructor
    · rintro ⟨a, b, c, d⟩
      exact ⟨a, b, c.imp id (fun q => by omega), d⟩
    · rintro ⟨a, b, c, d⟩
      exact ⟨a, b, c.imp id (fun q => by omega), d⟩
  · obtain rfl : k = 6 := by simpa using hk
    rw [ite_and] at h7
    rw [hO] at h5
    rw [h7, h6, h5, Bool.eq_iff_iff]
    simp only [Bool.and_eq_true, Bool.or_eq_true, beq_iff_eq, decide_eq_true_eq]
    simp only [okU, fitU, only, uOf, hnr, true_and, if_true, Int.reduceEq, if_false]
    rfl
  · have k1 : k ≠ 1 := by simpa using hk1
    have k2 : k ≠ 2 := by simpa using hk2
    have k3 : k ≠ 3 := by simpa using hk3
    have k4 : k ≠ 4 := by simpa using hk4
    have k5 : k ≠ 5 := by simpa using hk5
    have k6 : k ≠ 6 := by simpa using hk6
    rw [h7]
    symm
    simp [okU, fitU, uOf, k1, k2, k3, k4, k5, k6]
/-! ### Put -/
def EP0 : Env := (EV0.addP 42 validC).addP 39 sum16
theorem EP0_ok : EnvOk Tryz.prog EP0 := (EV0_ok.addP validR_ok).addP sumR16_ok
theorem gaps_in : ∀ (l : List (Int × Int)) (last : Int), gapsOk last l → -1 ≤ last → ∀ g ∈ l, 0 ≤ g.1 ∧ g.1 < g.2 ∧ g.2 ≤ 65535
  | [], _, _, _, g, h => by cases h
  | x :: r, last, h, hl, g, hg => by
    obtain ⟨h1, h2, h3, h4⟩ := h
    rcases List.mem_cons.1 hg with rfl | hg
    · exact ⟨by omega, h2, h3⟩
    · exact gaps_in r x.2 h4 (by omega) g hg
theorem gapsL_len (l : List (Int × Int)) : (gapsL l).length = 4 * l.length := by
  induction l with
  | nil => rfl
  | cons a r ih =>
    simp only [gapsL, List.flatMap_cons, List.length_append, byI_len, List.length_cons] at ih ⊢
    omega
theorem gapsL_take {l : List (Int × Int)} {i : Nat} (h : i < l.length) : gapsL (l.take (i + 1)) = gapsL (l.take i) ++ (byI l[i].1 2 ++ byI l[i].2 2) := by
  rw [List.take_succ_eq_append_getElem h, gapsL, List.flatMap_append]
  simp [gapsL]
theorem crc16_in (l : List UInt8) : 0 ≤ crc16 l ∧ crc16 l < 65536 := by
  have := n16_lt (l := l) (s := 65535) (by decide)
  unfold crc16
  omega
theorem headU_len {u : U} (h : okU u) : (headU u).length ≤ 165 := by
  obtain ⟨_, hf, _⟩ := h
  unfold fitU inR at hf
  unfold headU bodyU
  split at hf
  · rename_i hk; simp only [hk, if_true, List.length_append, byI_len]; omega
  split at hf
  · rename_i h1 hk; simp only [hk, if_true, List.length_append, byI_len, Int.reduceEq, if_false]; omega
  split at hf
  · rename_i h1 h2 hk; simp only [hk, if_true, List.length_append, byI_len, Int.reduceEq, if_false]; omega
  split at hf
  · rename_i h1 h2 h3 hk; simp only [hk, if_true, List.length_append, byI_len, Int.reduceEq, if_false]; omega
  split at hf
  · rename_i h1 h2 h3 h4 hk; simp only [hk, if_true, List.length_append, byI_len, Int.reduceEq, if_false, gapsL_len]; omega
  split at hf
  · rename_i h1 h2 h3 h4 h5 hk; simp only [hk, if_true, List.length_append, byI_len, Int.reduceEq, if_false]; omega
  exact hf.elim
theorem sealL_len (b : List UInt8) : (sealL b).length = b.length + 2 := by simp [sealL, byI_len]
def putC := pcOf (.cons pUnit .nil) (fun x => [(gO x.1).n ≤ 8796093022208, 0 ≤ x.1.2.2.2.2.1 ∧ x.1.2.2.2.2.1 ≤ 4294967295]) (fun x => .tup [.str (putU (uOf x.1)), .int .i64 (putE (uOf x.1))])
theorem putU_len (u : U) : (putU u).length ≤ 167 := by
  unfold putU
  split
  · rename_i h
    have := headU_len h
    rw [sealL_len]; omega
  · exact Nat.zero_le _
theorem putR_ok : PcOk Tryz.prog 12 putC := by
  refine pcOf_run (fun _ => EP0_ok) Tryz.func12 rfl (by kernel_rfl) (fun x => ⟨by have := putU_len (uOf x.1); show (putU _).length ≤ _; omega, trivial, trivial⟩)
    (fun x => [.draw 3 (.take 0 (.take 1 (.take 2 (.take 3 (.take 4 (.take 5 (.take 6 (.take 7 .fin)))))))) [], .draw 7 (.take 0 (.take 1 (.take 2 (.take 3 (.take 4 (.take 5 (.take 6 (.take 7 (.take 8 .fin))))))))) [], .draw 9 (.take 0 (.take 1 (.take 2 (.take 3 (.take 4 (.take 5 (.take 6 (.take 7 (.take 8 .fin))))))))) [], .draw 11 (.take 0 (.take 1 (.take 2 (.take 3 (.take 4 (.take 5 (.take 6 (.take 7 (.take 8 (.take 9 (.take 10 (.take 11 (.take 12 (.take 13 (.take 14 .fin))))))))))))))) [], .draw 22 (.take 0 (.take 1 (.take 2 (.take 3 (.take 4 (.take 5 (.take 6 (.take 7 (.take 8 (.take 9 (.take 10 (.take 11 (.take 12 (.take 13 (.take 14 (.take 15 (.take 16 (.take 17 .fin)))))))))))))))))) [],
      .lp 20 Nat [4, 6] (fun i => [.str (byI 5 1 ++ (byI x.1.2.1 2 ++ (byI (if x.1.2.2.2.2.2.2.2.2.2.1 then 1 else 0) 1 ++ gapsL ((gapsOf (gO x.1)).take i)))), .int .i64 (i : Nat)]) (fun i => i ≤ (gO x.1).n) (fun i => (gO x.1).n - i),
      .join ⟨18, Int, [5], fun v => [.int .i64 v], [], fun _ => [], fun v => v = if x.1.2.2.2.2.2.2.2.2.2.1 then 1 else 0, fun _ => 0⟩ 2,
      .join ⟨23, List UInt8, [4], fun s => [.str s], [], fun _ => [], fun s => okU (uOf x.1) ∧ s = headU (uOf x.1), fun _ => 0⟩ 2])
    (fun _ => Nat.le_of_ble_eq_true rfl) (fun ⟨⟨k, nr, nm, sz, sm, of, da, wy, o, me, ⟨b, oo, n, c, z, f⟩, ()⟩, ()⟩ hp hw => ?_)
  refine vc_of (q :=
      ∀ (b1:Nat), (b1=b1∧0=0)∧n≤n∧(∀ (k1:Nat), k1 < n→true=true)∧(b=b∧oo=oo)∧n≤8796093022208∧∀ (t1:Bool), t1=decide (okU (uOf (k, nr, nm, sz, sm, of, da, wy, o, me, Eng.RowD.mk b oo n c z f, ())))→((!t1)=true→[]=putU (uOf (k, nr, nm, sz, sm, of, da, wy, o, me, Eng.RowD.mk b oo n c z f, ()))∧(2:Int)=putE (uOf (k, nr, nm, sz, sm, of, da, wy, o, me, Eng.RowD.mk b oo n c z f,
      ())))∧((!t1)=false→(b1=b1∧0=0)∧((0:Int)≤k∧k≤(4294967295:Int))∧((0:Int)≤1∧(1:Int)≤16)∧∀ (s1:List UInt8), s1=byI k (Min.min (Int.toNat (1:Int)) 16)→(b1=b1∧0=0)∧((0:Int)≤nr∧nr≤(4294967295:Int))∧((0:Int)≤2∧(2:Int)≤16)∧∀ (s2:List UInt8), s2=byI nr (Min.min (Int.toNat (2:Int)) 16)→List.length s1+List.length s2≤9223372036854775807∧∀ (s3:List UInt8),
      s3=s1++s2→((b1=b1∧0=0)∧((k==(1:Int))=true→(b1=b1∧0=0)∧((0:Int)≤sz∧sz≤(4294967295:Int))∧((0:Int)≤2∧(2:Int)≤16)∧∀ (s4:List UInt8), s4=byI sz (Min.min (Int.toNat (2:Int)) 16)→List.length s3+List.length s4≤9223372036854775807∧∀ (s5:List UInt8), s5=s3++s4→(b1=b1∧0=0)∧List.length s5+List.length nm≤9223372036854775807∧∀ (s6:List UInt8), s6=s5++nm→∃ (x1:List UInt8), s6=x1∧okU (uOf (k, nr, nm, sz, sm, of,
      da, wy, o, me, Eng.RowD.mk b oo n c z f, ()))∧x1=headU (uOf (k, nr, nm, sz, sm, of, da, wy, o, me, Eng.RowD.mk b oo n c z f, ())))∧((k==(1:Int))=false→((k==(2:Int))=true→(b1=b1∧0=0)∧((0:Int)≤of∧of≤(4294967295:Int))∧((0:Int)≤2∧(2:Int)≤16)∧∀ (s5:List UInt8), s5=byI of (Min.min (Int.toNat (2:Int)) 16)→List.length s3+List.length s5≤9223372036854775807∧∀ (s6:List UInt8),
      s6=s3++s5→(b1=b1∧0=0)∧List.length s6+List.length da≤9223372036854775807∧∀ (s7:List UInt8), s7=s6++da→∃ (x1:List UInt8), s7=x1∧okU (uOf (k, nr, nm, sz, sm, of, da, wy, o, me, Eng.RowD.mk b oo n c z f, ()))∧x1=headU (uOf (k, nr, nm, sz, sm, of, da, wy, o, me, Eng.RowD.mk b oo n c z f, ())))∧((k==(2:Int))=false→((k==(3:Int))=true→(b1=b1∧0=0)∧((0:Int)≤wy∧wy≤(4294967295:Int))∧((0:Int)≤1∧(1:Int)≤16)∧∀
      (s6:List UInt8), s6=byI wy (Min.min (Int.toNat (1:Int)) 16)→List.length s3+List.length s6≤9223372036854775807∧∀ (s7:List UInt8), s7=s3++s6→(b1=b1∧0=0)∧((0:Int)≤sz∧sz≤(4294967295:Int))∧((0:Int)≤2∧(2:Int)≤16)∧∀ (s8:List UInt8), s8=byI sz (Min.min (Int.toNat (2:Int)) 16)→List.length s7+List.length s8≤9223372036854775807∧∀ (s9:List UInt8), s9=s7++s8→(b1=b1∧0=0)∧∀ (v1:Int), v1=IntKind.i64.wrap
      sm→(0≤v1∧v1≤4294967295)∧((0:Int)≤4∧(4:Int)≤16)∧∀ (s10:List UInt8), s10=byI v1 (Min.min (Int.toNat (4:Int)) 16)→List.length s9+List.length s10≤9223372036854775807∧∀ (s11:List UInt8), s11=s9++s10→∃ (x1:List UInt8), s11=x1∧okU (uOf (k, nr, nm, sz, sm, of, da, wy, o, me, Eng.RowD.mk b oo n c z f, ()))∧x1=headU (uOf (k, nr, nm, sz, sm, of, da, wy, o, me, Eng.RowD.mk b oo n c z f,
      ())))∧((k==(3:Int))=false→((k==(4:Int))=true→(b1=b1∧0=0)∧((0:Int)≤wy∧wy≤(4294967295:Int))∧((0:Int)≤1∧(1:Int)≤16)∧∀ (s7:List UInt8), s7=byI wy (Min.min (Int.toNat (1:Int)) 16)→List.length s3+List.length s7≤9223372036854775807∧∀ (s8:List UInt8), s8=s3++s7→∃ (x1:List UInt8), s8=x1∧okU (uOf (k, nr, nm, sz, sm, of, da, wy, o, me, Eng.RowD.mk b oo n c z f, ()))∧x1=headU (uOf (k, nr, nm, sz, sm, of, da,
      wy, o, me, Eng.RowD.mk b oo n c z f, ())))∧((k==(4:Int))=false→((k==(5:Int))=true→((b1=b1∧0=0)∧(me=true→∃ (x1:Int), (1:Int)=x1∧x1=if me=true then (1:Int) else (0:Int))∧(me=false→∃ (x2:Int), (0:Int)=x2∧x2=if me=true then (1:Int) else (0:Int)))∧∀ (v1:Int), (v1=if me=true then (1:Int) else (0:Int))→(0≤v1∧v1≤4294967295)∧((0:Int)≤1∧(1:Int)≤16)∧∀ (s8:List UInt8), s8=byI v1 (Min.min (Int.toNat (1:Int))
      16)→List.length s3+List.length s8≤9223372036854775807∧∀ (s9:List UInt8), s9=s3++s8→(∃ (x3:Nat), s9=byI (5:Int) 1++(byI nr 2++(byI (if me=true then (1:Int) else (0:Int)) 1++gapsL (List.take x3 (gapsOf (Eng.RowD.mk b oo n c z f)))))∧0=(↑x3:Int)∧Nat.le x3 n)∧∀ (b2:Nat), b2≤n→(b1=b1∧0=0)∧∀ (v2:Int), v2=(↑n:Int)→(decide ((↑b2:Int) < v2)=true→(b1=b1∧0=0)∧0≤(↑b2:Int)∧(↑b2:Int) <
      (↑n:Int)∧(b=b∧oo=oo)∧Int.toNat (↑b2:Int) < n∧((0:Int)≤(f (Int.toNat (↑b2:Int))).1∧(f (Int.toNat (↑b2:Int))).1≤(4294967295:Int))∧((0:Int)≤2∧(2:Int)≤16)∧∀ (s10:List UInt8), s10=byI ((f (Int.toNat (↑b2:Int))).1) (Min.min (Int.toNat (2:Int)) 16)→List.length (byI (5:Int) 1++(byI nr 2++(byI (if me=true then (1:Int) else (0:Int)) 1++gapsL (List.take b2 (gapsOf (Eng.RowD.mk b oo n c z f))))))+List.length
      s10≤9223372036854775807∧∀ (s11:List UInt8), s11=byI (5:Int) 1++(byI nr 2++(byI (if me=true then (1:Int) else (0:Int)) 1++gapsL (List.take b2 (gapsOf (Eng.RowD.mk b oo n c z f)))))++s10→(b1=b1∧0=0)∧0≤(↑b2:Int)∧(↑b2:Int) < (↑n:Int)∧(b=b∧oo=oo)∧Int.toNat (↑b2:Int) < n∧((0:Int)≤((f (Int.toNat (↑b2:Int))).2).1∧((f (Int.toNat (↑b2:Int))).2).1≤(4294967295:Int))∧((0:Int)≤2∧(2:Int)≤16)∧∀ (s12:List UInt8),
      s12=byI (((f (Int.toNat (↑b2:Int))).2).1) (Min.min (Int.toNat (2:Int)) 16)→List.length s11+List.length s12≤9223372036854775807∧∀ (s13:List UInt8), s13=s11++s12→∀ (v3:Int), v3=IntKind.i64.wrap ((↑b2:Int)+(1:Int))→∃ (x4:Nat), s13=byI (5:Int) 1++(byI nr 2++(byI (if me=true then (1:Int) else (0:Int)) 1++gapsL (List.take x4 (gapsOf (Eng.RowD.mk b oo n c z f)))))∧v3=(↑x4:Int)∧x4≤n∧n - x4 < n -
      b2)∧(decide ((↑b2:Int) < v2)=false→∃ (x4:List UInt8), byI (5:Int) 1++(byI nr 2++(byI (if me=true then (1:Int) else (0:Int)) 1++gapsL (List.take b2 (gapsOf (Eng.RowD.mk b oo n c z f)))))=x4∧okU (uOf (k, nr, nm, sz, sm, of, da, wy, o, me, Eng.RowD.mk b oo n c z f, ()))∧x4=headU (uOf (k, nr, nm, sz, sm, of, da, wy, o, me, Eng.RowD.mk b oo n c z f,
      ()))))∧((k==(5:Int))=false→(b1=b1∧0=0)∧((0:Int)≤o∧o≤(4294967295:Int))∧((0:Int)≤1∧(1:Int)≤16)∧∀ (s8:List UInt8), s8=byI o (Min.min (Int.toNat (1:Int)) 16)→List.length s3+List.length s8≤9223372036854775807∧∀ (s9:List UInt8), s9=s3++s8→∃ (x3:List UInt8), s9=x3∧okU (uOf (k, nr, nm, sz, sm, of, da, wy, o, me, Eng.RowD.mk b oo n c z f, ()))∧x3=headU (uOf (k, nr, nm, sz, sm, of, da, wy, o, me, Eng.RowD.mk
      b oo n c z f, ()))))))))∧∀ (s9:List UInt8), okU (uOf (k, nr, nm, sz, sm, of, da, wy, o, me, Eng.RowD.mk b oo n c z f, ()))∧s9=headU (uOf (k, nr, nm, sz, sm, of, da, wy, o, me, Eng.RowD.mk b oo n c z f, ()))→∀ (v2:Int), v2=crc16 s9→∀ (v3:Int), v3=IntKind.i64.wrap v2→(0≤v3∧v3≤4294967295)∧((0:Int)≤2∧(2:Int)≤16)∧∀ (s10:List UInt8), s10=byI v3 (Min.min (Int.toNat (2:Int)) 16)→List.length s9+List.length
      s10≤9223372036854775807∧∀ (s11:List UInt8), s11=s9++s10→s11=putU (uOf (k, nr, nm, sz, sm, of, da, wy, o, me, Eng.RowD.mk b oo n c z f, ()))∧(0:Int)=putE (uOf (k, nr, nm, sz, sm, of, da, wy, o, me, Eng.RowD.mk b oo n c z f, ())))) (by kernel_rfl) ?_
  try simp only [eq_self, true_and, and_true, Nat.le_refl, implies_true, forall_const, Bool.false_eq_true, Bool.true_eq_false, reduceCtorEq, false_imp_iff, true_imp_iff, Int.toNat_zero, Int.toNat_natCast, Nat.zero_lt_one, Int.le_refl, allGet]
  refine ⟨hp.1, fun t1 h1 => ⟨fun q => ?_, fun q => ?_⟩⟩
  · have : ¬ okU (uOf (k, nr, nm, sz, sm, of, da, wy, o, me, ⟨b, oo, n, c, z, f⟩, ())) := by
      rw [h1] at q
      simpa using q
    rw [putU, putE, if_neg this, if_neg this]
    exact ⟨rfl, rfl⟩
  have hok : okU (uOf (k, nr, nm, sz, sm, of, da, wy, o, me, ⟨b, oo, n, c, z, f⟩, ())) := by
    rw [h1] at q
    simpa using q
  have hok' := hok
  obtain ⟨⟨nr0, nr1⟩, hfit, honly⟩ := hok'
  dsimp only [uOf] at nr0 nr1
  obtain ⟨_, ⟨sm0, sm1⟩, _⟩ := hp
  dsimp only at sm0 sm1
  have e1 : ∀ m : Nat, m ≤ 16 → min (((m : Nat) : Int)).toNat 16 = m := fun m hm => by omega
  have hk : k = 1 ∨ k = 2 ∨ k = 3 ∨ k = 4 ∨ k = 5 ∨ k = 6 := by
    by_cases k1 : k = 1; exact .inl k1
    by_cases k2 : k = 2; exact .inr (.inl k2)
    by_cases k3 : k = 3; exact .inr (.inr (.inl k3))
    by_cases k4 : k = 4; exact .inr (.inr (.inr (.inl k4)))
    by_cases k5 : k = 5; exact .inr (.inr (.inr (.inr (.inl k5))))
    by_cases k6 : k = 6; exact .inr (.inr (.inr (.inr (.inr k6))))
    simp [fitU, uOf, k1, k2, k3, k4, k5, k6] at hfit
  refine ⟨⟨by omega, by omega⟩, by decide, fun s1 f1 => ⟨⟨nr0, by omega⟩, by decide, fun s2 f2 => ⟨by rw [f1, f2, byI_len, byI_len]; decide, fun s3 f3 => ?_⟩⟩⟩
  have hl3 : s3.length = 3 := by rw [f3, f1, f2, List.length_append, byI_len, byI_len]; rfl
  refine ⟨⟨fun hk1 => ?_, fun hk1 => ⟨fun hk2 => ?_, fun hk2 => ⟨fun hk3 => ?_, fun hk3 => ⟨fun hk4 => ?_, fun hk4 => ⟨fun hk5 => ?_, fun hk5 => ?_⟩⟩⟩⟩⟩, ?_⟩
  · obtain rfl : k = 1 := by simpa using hk1
    have hf : inR nm.length 1 32 ∧ inR sz 0 65535 := hfit
    obtain ⟨⟨_, l1⟩, z0, z1⟩ := hf
    refine ⟨⟨z0, by omega⟩, by decide, fun s4 f4 => ⟨by rw [f4, byI_len]; omega, fun s5 f5 => ⟨by rw [f5, f4, List.length_append, byI_len]; omega, fun s6 f6 => ⟨_, rfl, hok, ?_⟩⟩⟩⟩
    rw [f6, f5, f4, f3, f2, f1, List.append_assoc, List.append_assoc]
    rfl
  · obtain rfl : k = 2 := by simpa using hk2
    have hf : inR da.length 1 160 ∧ inR of 0 (65535 - da.length) := hfit
    obtain ⟨⟨_, l1⟩, z0, z1⟩ := hf
    refine ⟨⟨z0, by omega⟩, by decide, fun s4 f4 => ⟨by rw [f4, byI_len]; omega, fun s5 f5 => ⟨by rw [f5, f4, List.length_append, byI_len]; omega, fun s6 f6 => ⟨_, rfl, hok, ?_⟩⟩⟩⟩
    rw [f6, f5, f4, f3, f2, f1, List.append_assoc, List.append_assoc]
    rfl
  · obtain rfl : k = 3 := by simpa using hk3
    have hf : inR wy 0 1 ∧ inR sz 0 65535 := hfit
    obtain ⟨⟨w0, w1⟩, z0, z1⟩ := hf
    refine ⟨⟨w0, by omega⟩, by decide, fun s4 f4 => ⟨by rw [f4, byI_len]; omega, fun s5 f5 => ⟨⟨z0, by omega⟩, by decide, fun s6 f6 => ⟨by rw [f5, f4, f6, List.length_append, byI_len, byI_len]; omega, fun s7 f7 v1 g1 => ?_⟩⟩⟩⟩
    have g1 : v1 = sm := g1.trans (w64_id (by omega) (by omega))
    subst g1
    refine ⟨⟨sm0, sm1⟩, by decide, fun s8 f8 => ⟨by rw [f7, f5, f4, f6, f8, List.length_append, List.length_append, byI_len, byI_len, byI_len]; omega, fun s9 f9 => ⟨_, rfl, hok, ?_⟩⟩⟩
    rw [f9, f8, f7, f6, f5, f4, f3, f2, f1, List.append_assoc, List.append_assoc, List.append_assoc]
    rfl
  · obtain rfl : k = 4 := by simpa using hk4
    have hf : inR wy 0 4 := hfit
    obtain ⟨w0, w1⟩ := hf
    refine ⟨⟨w0, by omega⟩, by decide, fun s4 f4 => ⟨by rw [f4, byI_len]; omega, fun s5 f5 => ⟨_, rfl, hok, ?_⟩⟩⟩
    rw [f5, f4, f3, f2, f1, List.append_assoc]
    rfl
  · obtain rfl : k = 5 := by simpa using hk5
    have hf : gapsOk (-1) (gapsOf ⟨b, oo, n, c, z, f⟩) ∧ (gapsOf ⟨b, oo, n, c, z, f⟩).length ≤ 20 ∧ (me = true ∨ 0 < (gapsOf ⟨b, oo, n, c, z, f⟩).length) := hfit
    obtain ⟨hg, hgl, _⟩ := hf
    rw [gapsOf_len] at hgl
    have hgl : n ≤ 20 := hgl
    refine ⟨⟨fun h => ⟨1, rfl, by rw [if_pos h]⟩, fun h => ⟨0, rfl, by rw [h]; rfl⟩⟩, fun v1 g1 => ?_⟩
    have hv : 0 ≤ v1 ∧ v1 ≤ 1 := by rw [g1]; split <;> decide
    refine ⟨⟨hv.1, by omega⟩, by decide, fun s4 f4 => ⟨by rw [f4, byI_len]; omega, fun s5 f5 => ⟨⟨0, ?_, rfl, Nat.zero_le _⟩, fun i hi v2 g2 => ⟨fun hlt => ?_, fun hge => ?_⟩⟩⟩⟩
    · rw [f5, f4, f3, f2, f1, g1, List.append_assoc]
      simp only [gapsL, List.take_zero, List.flatMap_nil, List.append_nil]
      rfl
    · have hlt : i < n := by rw [g2] at hlt; have := of_decide_eq_true hlt; omega
      have hi' : i < (gapsOf ⟨b, oo, n, c, z, f⟩).length := by rw [gapsOf_len]; exact hlt
      have hgi : (gapsOf ⟨b, oo, n, c, z, f⟩)[i] = ((f i).1, (f i).2.1) := by simp [gapsOf]
      have hbd := gaps_in _ _ hg (by decide) _ (List.getElem_mem hi')
      rw [hgi] at hbd
      dsimp only at hbd
      have hlen : (gapsL ((gapsOf ⟨b, oo, n, c, z, f⟩).take i)).length ≤ 80 := by
        rw [gapsL_len, List.length_take]; omega
      refine ⟨by omega, by omega, hlt, ⟨hbd.1, by omega⟩, by decide, fun s6 f6 => ⟨?_, fun s7 f7 => ⟨by omega, by omega, hlt, ⟨by omega, by omega⟩, by decide, fun s8 f8 => ⟨?_, fun s9 f9 v3 g3 => ⟨i + 1, ?_, ?_, hlt, by omega⟩⟩⟩⟩⟩
      · rw [f6]; simp only [List.length_append, byI_len]; omega
      · rw [f8, f7, f6]; simp only [List.length_append, byI_len]; omega
      · rw [f9, f8, f7, f6, gapsL_take hi', hgi]
        simp only [List.append_assoc]
        rfl
      · rw [g3, w64_id (by omega) (by omega)]; omega
    · have : i = n := by rw [g2] at hge; have := of_decide_eq_false hge; omega
      subst this
      refine ⟨_, rfl, hok, ?_⟩
      rw [List.take_of_length_le (by rw [gapsOf_len]; exact Nat.le_refl _)]
      rfl
  · have k1 : k ≠ 1 := by simpa using hk1
    have k2 : k ≠ 2 := by simpa using hk2
    have k3 : k ≠ 3 := by simpa using hk3
    have k4 : k ≠ 4 := by simpa using hk4
    have k5 : k ≠ 5 := by simpa using hk5
    obtain rfl : k = 6 := by omega
    have hf : o = 3 ∨ o = 4 := hfit
    refine ⟨⟨by omega, by omega⟩, by decide, fun s4 f4 => ⟨by rw [f4, byI_len]; omega, fun s5 f5 => ⟨_, rfl, hok, ?_⟩⟩⟩
    rw [f5, f4, f3, f2, f1, List.append_assoc]
    rfl
  · rintro s ⟨_, rfl⟩ v1 g1 v2 g2
    have h16 := crc16_in (headU (uOf (k, nr, nm, sz, sm, of, da, wy, o, me, ⟨b, oo, n, c, z, f⟩, ())))
    have hlen := headU_len hok
    have g2 : v2 = crc16 (headU (uOf (k, nr, nm, sz, sm, of, da, wy, o, me, ⟨b, oo, n, c, z, f⟩, ()))) := by rw [g2, g1, w64_id (by omega) (by omega)]
    subst g2
    refine ⟨⟨h16.1, by omega⟩, by decide, fun s4 f4 => ⟨by rw [f4, byI_len]; omega, fun s5 f5 => ⟨?_, ?_⟩⟩⟩
    · rw [f5, f4, putU, if_pos hok]
      rfl
    · rw [putE, if_pos hok]
end Rc
