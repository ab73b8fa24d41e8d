/-
  OWN WORK. Units of the program: Put.
-/
import Derived.Test.YtfmbmiiioojbeaaGreatL5
namespace Rc
open Go Go.Proofs Eng
set_option linter.unusedVariables false
set_option linter.unusedSimpArgs false
set_option maxRecDepth 100000
set_option maxHeartbeats 4000000
/-- Concat of three rows: its loops are run out. -/
def catA : List An := [.unroll 3 4, .unroll 11 4, .det 0, .raw 2, .raw 3, .raw 4, .raw 8, .raw 10, .raw 11, .raw 14]
def EG0 : Env := ((E0.addE 56 bytesC).inl 133 Tryz.f133 fun _ _ => []).inl 96 Tryz.f96 fun _ _ => catA
theorem EG0_ok : EnvOk Tryz.prog EG0 := ((E0_ok.addE bytes_ok).inl _ Tryz.func133 rfl (by kernel_rfl)).inl _ Tryz.func96 rfl (by kernel_rfl)
def pgL (me : Bool) (l : List (Int × Int)) : List UInt8 := byI (if me then 1 else 0) 1 ++ gapsL l
theorem pgL_len (me : Bool) (l : List (Int × Int)) : (pgL me l).length = 1 + 4 * l.length := by
  rw [pgL, List.length_append, byI_len, gapsL_len]
theorem pgL_take {me : Bool} {l : List (Int × Int)} {i : Nat} (h : i < l.length) : pgL me (l.take (i + 1)) = pgL me (l.take i) ++ (byI l[i].1 2 ++ byI l[i].2 2) := by
  rw [pgL, gapsL_take h, pgL, List.append_assoc]
theorem getD_app (l m : List UInt8) (k : Nat) : (l ++ m).getD k 0 = if k < l.length then l.getD k 0 else m.getD (k - l.length) 0 := by
  simp only [List.getD_eq_getElem?_getD]
  split
  · rw [List.getElem?_append_left (by assumption)]
  · rw [List.getElem?_append_right (by omega)]
def rowY (g : Nat) (l : List UInt8) (y : RowY) : Hp := [⟨g, y.1, y.2.1, 1, l.length, rowG l, true, false, y.2.2, 5, false, none⟩]
def slY (g : Nat) (l : List UInt8) (y : RowY) : SV := .slice g y.1 y.2.1 [] 1 0 l.length y.2.2 false
def putGapsC := ecC (.cons pUnit .nil) (fun x => [(gO x.1).n ≤ 20, gapsOk (-1) (gapsOf (gO x.1))]) (fun x (y : RowY) => 1 + 4 * (gO x.1).n ≤ y.2.2 ∧ y.2.2 ≤ 9223372036854775807)
  (fun x y => .slice 1 y.1 y.2.1 [] 1 0 (1 + 4 * (gO x.1).n) y.2.2 false)
  (fun x y => [⟨1, y.1, y.2.1, 1, 1 + 4 * (gO x.1).n, rowG (pgL x.1.2.2.2.2.2.2.2.2.2.1 (gapsOf (gO x.1))), true, false, y.2.2, 5, false, none⟩]) 1
theorem putGaps_ok : EcOk Tryz.prog 105 putGapsC := by
  refine ecC_run (fun _ => EG0_ok) Tryz.func105 rfl (by kernel_rfl) []
    (fun x => [.loop ⟨5, Nat × RowY, [3, 14], fun y => [.slice 100 y.2.1 y.2.2.1 [] 1 0 (1 + 4 * y.1) y.2.2.2 false, .int .i64 (y.1 : Nat)], [100],
      fun y => [⟨100, y.2.1, y.2.2.1, 1, 1 + 4 * y.1, rowG (pgL x.1.2.2.2.2.2.2.2.2.2.1 ((gapsOf (gO x.1)).take y.1)), true, false, y.2.2.2, 5, false, none⟩],
      fun y => y.1 ≤ (gO x.1).n ∧ 1 + 4 * y.1 ≤ y.2.2.2 ∧ y.2.2.2 ≤ 9223372036854775807, fun y => (gO x.1).n - y.1⟩,
      .join ⟨4, RowY, [3], fun y => [.slice 100 y.1 y.2.1 [] 1 0 1 y.2.2 false], [2], fun y => [⟨100, y.1, y.2.1, 1, 1, rowG (pgL x.1.2.2.2.2.2.2.2.2.2.1 []), true, false, y.2.2, 5, false, none⟩], fun y => 1 ≤ y.2.2 ∧ y.2.2 ≤ 9223372036854775807, fun _ => 0⟩ 200,
      .draw 7 (.take 0 (.take 1 (.take 2 (.take 4 (.take 5 (.br 3 (.br 6 (.br 7 (.br 8 (.take 9 .fin) .stop) .stop) .stop) .stop)))))) []])
    (fun _ => Nat.le_of_ble_eq_true rfl) (fun ⟨⟨k, nr, nm, sz, sm, of, da, wy, o, me, ⟨b, oo, n, c, z, f⟩, ()⟩, ()⟩ hp hw => ?_)
  refine vc_of (q :=
      ∀ (b1 b2:Nat), ((b1=b1∧0=0)∧(me=true→(0:Int)≤0∧0 < (↑(1:Nat):Int)∧(b2=b2∧0=0)∧0 < 1∧∃ (x1:Nat × Nat × Nat), (b2=x1.1∧0=x1.2.1∧0=0∧1=1∧1=x1.2.2∧false=false)∧((b2=x1.1∧0=x1.2.1∧false=false∧1≤1∧1≤x1.2.2∧x1.2.2≤1)∧∀ (i1:Nat), i1 < 1→(if i1=0 then (1:Int) else (0:Int))=(↑(UInt8.toNat (List.getD (pgL me []) i1 0)):Int))∧1≤x1.2.2∧x1.2.2≤9223372036854775807)∧(me=false→∃ (x2:Nat × Nat × Nat),
      (b2=x2.1∧0=x2.2.1∧0=0∧1=1∧1=x2.2.2∧false=false)∧((b2=x2.1∧0=x2.2.1∧false=false∧1≤1∧1≤x2.2.2∧x2.2.2≤1)∧∀ (i2:Nat), i2 < 1→0=(↑(UInt8.toNat (List.getD (pgL me []) i2 0)):Int))∧1≤x2.2.2∧x2.2.2≤9223372036854775807))∧∀ (x3:Nat × Nat × Nat), 1≤x3.2.2∧x3.2.2≤9223372036854775807→(b1=b1∧0=0)∧∀ (v1:Int), v1=(↑n:Int)→(∃ (x4:Nat × Nat × Nat × Nat),
      (x3.1=x4.2.1∧x3.2.1=x4.2.2.1∧0=0∧1=1+4*x4.1∧x3.2.2=x4.2.2.2∧false=false)∧0=(↑x4.1:Int)∧((x3.1=x4.2.1∧x3.2.1=x4.2.2.1∧false=false∧1+4*x4.1≤1∧1+4*x4.1≤x4.2.2.2∧x4.2.2.2≤x3.2.2)∧∀ (i3:Nat), i3 < 1+4*x4.1→(↑(UInt8.toNat (List.getD (pgL me []) i3 0)):Int)=(↑(UInt8.toNat (List.getD (pgL me (List.take x4.1 (gapsOf (Eng.RowD.mk b oo n c z f)))) i3
      0)):Int))∧x4.1≤n∧1+4*x4.1≤x4.2.2.2∧x4.2.2.2≤9223372036854775807)∧∀ (x5:Nat × Nat × Nat × Nat), x5.1≤n∧1+4*x5.1≤x5.2.2.2∧x5.2.2.2≤9223372036854775807→(decide ((↑x5.1:Int) < v1)=true→0≤(↑x5.1:Int)∧(↑x5.1:Int) < (↑n:Int)∧(b=b∧oo=oo)∧Int.toNat (↑x5.1:Int) < n∧∀ (b3:Nat), (b3=b3∧0=0)∧(b3=b3∧0=0)∧(b3=b3∧0=0)∧(∀ (x'1:Int × Int × Unit), x'1=((f (Int.toNat (↑x5.1:Int))).1, (2:Int), ())→((0:Int)≤Prod.fst
      x'1∧Prod.fst x'1≤(4294967295:Int))∧((1:Int)≤(Prod.snd x'1).1∧(Prod.snd x'1).1≤(8:Int))∧∀ (y1:Nat × Nat × Nat), Int.toNat ((Prod.snd x'1).1)≤y1.2.2∧y1.2.2≤9223372036854775807→(∀ (x'2:Int × Int × Unit), x'2=(((f (Int.toNat (↑x5.1:Int))).2).1, (2:Int), ())→((0:Int)≤Prod.fst x'2∧Prod.fst x'2≤(4294967295:Int))∧((1:Int)≤(Prod.snd x'2).1∧(Prod.snd x'2).1≤(8:Int))∧∀ (y2:Nat × Nat × Nat), Int.toNat
      ((Prod.snd x'2).1)≤y2.2.2∧y2.2.2≤9223372036854775807→(∀ (b4:Nat), ((0:Int)≤0∧0 < (↑(3:Nat):Int)∧(b4=b4∧0=0)∧0 < 3∧∀ (v2:Int), v2=(↑(1+4*x5.1):Int)→∀ (v3:Int), v3=IntKind.i64.wrap ((0:Int)+v2)→(decide (v3 < (0:Int))=true→False)∧(decide (v3 < (0:Int))=false→(0:Int)≤IntKind.i64.wrap ((0:Int)+(1:Int))∧IntKind.i64.wrap ((0:Int)+(1:Int)) < (↑(3:Nat):Int)∧(b4=b4∧0=0)∧1 < 3∧∀ (v4:Int), v4=(↑(Int.toNat
      ((Prod.snd x'1).1)):Int)→∀ (v5:Int), v5=IntKind.i64.wrap (v3+v4)→(decide (v5 < (0:Int))=true→False)∧(decide (v5 < (0:Int))=false→(0:Int)≤IntKind.i64.wrap (IntKind.i64.wrap ((0:Int)+(1:Int))+(1:Int))∧IntKind.i64.wrap (IntKind.i64.wrap ((0:Int)+(1:Int))+(1:Int)) < (↑(3:Nat):Int)∧(b4=b4∧0=0)∧2 < 3∧∀ (v6:Int), v6=(↑(Int.toNat ((Prod.snd x'2).1)):Int)→∀ (v7:Int), v7=IntKind.i64.wrap (v5+v6)→(decide (v7
      < (0:Int))=true→False)∧(decide (v7 < (0:Int))=false→(decide (v7 < (0:Int))=true→False)∧(decide (v7 < (0:Int))=false→∀ (v8:Int), v8=(↑(0:Nat):Int)→∀ (v9:Int), v9=(↑(0:Nat):Int)→∀ (v10:Int), v10=IntKind.i64.wrap (v8 - v9)→∀ (v11:Int), v11=IntKind.i64.wrap (v7 - v10)→(decide (v11 > (0:Int))=true→∀ (v12:Int), v12=(↑(0:Nat):Int)→0≤v12∧v12≤(↑(0:Nat):Int)∧true=true∧Int.toNat
      v11*1≤140737488355328∧Int.toNat v11≤9223372036854775807∧0≤v11∧v11≤9223372036854775807∧∀ (b5 b6:Nat), Int.toNat v11≤b6→b6≤9223372036854775807→(Int.toNat v11=0→b6=0)→∀ (v13:Int), v13=(↑(0:Nat):Int)→0≤v13∧v13≤(↑b6:Int)∧(0:Int)≤0∧0 < (↑(3:Nat):Int)∧(b4=b4∧0=0)∧0 < 3∧(b5=b5∧0=0)∧(decide (Int.toNat v11=0)=true→decide (Int.toNat v11=0)=true)∧0=0∧Int.toNat v13≤Int.toNat v11∧b6≤b6∧(Int.toNat
      v13+(1+4*x5.1))*1≤140737488355328∧Int.toNat v13+(1+4*x5.1)≤9223372036854775807∧1+4*x5.1≤1+4*x5.1∧(x5.2.1=x5.2.1∧x5.2.2.1=x5.2.2.1)∧∀ (b7 b8 b9:Nat), Int.toNat v13+(1+4*x5.1)≤b9→b9≤9223372036854775807→(decide (Int.toNat v11=0)=true→1+4*x5.1=0→b9=0)→(0:Int)≤IntKind.i64.wrap ((0:Int)+(1:Int))∧IntKind.i64.wrap ((0:Int)+(1:Int)) < (↑(3:Nat):Int)∧(b4=b4∧0=0)∧1 < 3∧(b7=b7∧b8=b8)∧((decide (Int.toNat
      v11=0)&&decide (1+4*x5.1=0))=true→(decide (Int.toNat v11=0)&&decide (1+4*x5.1=0))=true)∧0=0∧Int.toNat v13+(1+4*x5.1)≤Int.toNat v13+(1+4*x5.1)∧b9≤b9∧(Int.toNat v13+(1+4*x5.1)+Int.toNat ((Prod.snd x'1).1))*1≤140737488355328∧Int.toNat v13+(1+4*x5.1)+Int.toNat ((Prod.snd x'1).1)≤9223372036854775807∧Int.toNat ((Prod.snd x'1).1)≤Int.toNat ((Prod.snd x'1).1)∧(y1.1=y1.1∧y1.2.1=y1.2.1)∧∀ (b10 b11 b12:Nat),
      Int.toNat v13+(1+4*x5.1)+Int.toNat ((Prod.snd x'1).1)≤b12→b12≤9223372036854775807→((decide (Int.toNat v11=0)&&decide (1+4*x5.1=0))=true→Int.toNat ((Prod.snd x'1).1)=0→b12=0)→(0:Int)≤IntKind.i64.wrap (IntKind.i64.wrap ((0:Int)+(1:Int))+(1:Int))∧IntKind.i64.wrap (IntKind.i64.wrap ((0:Int)+(1:Int))+(1:Int)) < (↑(3:Nat):Int)∧(b4=b4∧0=0)∧2 < 3∧(b10=b10∧b11=b11)∧((decide (Int.toNat v11=0)&&decide
      (1+4*x5.1=0)&&decide (Int.toNat ((Prod.snd x'1).1)=0))=true→(decide (Int.toNat v11=0)&&decide (1+4*x5.1=0)&&decide (Int.toNat ((Prod.snd x'1).1)=0))=true)∧0=0∧Int.toNat v13+(1+4*x5.1)+Int.toNat ((Prod.snd x'1).1)≤Int.toNat v13+(1+4*x5.1)+Int.toNat ((Prod.snd x'1).1)∧b12≤b12∧(Int.toNat v13+(1+4*x5.1)+Int.toNat ((Prod.snd x'1).1)+Int.toNat ((Prod.snd x'2).1))*1≤140737488355328∧Int.toNat
      v13+(1+4*x5.1)+Int.toNat ((Prod.snd x'1).1)+Int.toNat ((Prod.snd x'2).1)≤9223372036854775807∧Int.toNat ((Prod.snd x'2).1)≤Int.toNat ((Prod.snd x'2).1)∧(y2.1=y2.1∧y2.2.1=y2.2.1)∧∀ (b13 b14 b15:Nat), Int.toNat v13+(1+4*x5.1)+Int.toNat ((Prod.snd x'1).1)+Int.toNat ((Prod.snd x'2).1)≤b15→b15≤9223372036854775807→((decide (Int.toNat v11=0)&&decide (1+4*x5.1=0)&&decide (Int.toNat ((Prod.snd
      x'1).1)=0))=true→Int.toNat ((Prod.snd x'2).1)=0→b15=0)→∀ (v14:Int), v14=IntKind.i64.wrap ((↑x5.1:Int)+(1:Int))→∃ (x6:Nat × Nat × Nat × Nat), (b13=x6.2.1∧b14=x6.2.2.1∧0=0∧Int.toNat v13+(1+4*x5.1)+Int.toNat ((Prod.snd x'1).1)+Int.toNat ((Prod.snd x'2).1)=1+4*x6.1∧b15=x6.2.2.2∧(decide (Int.toNat v11=0)&&decide (1+4*x5.1=0)&&decide (Int.toNat ((Prod.snd x'1).1)=0)&&decide (Int.toNat ((Prod.snd
      x'2).1)=0))=false)∧v14=(↑x6.1:Int)∧((b13=x6.2.1∧b14=x6.2.2.1∧(decide (Int.toNat v11=0)&&decide (1+4*x5.1=0)&&decide (Int.toNat ((Prod.snd x'1).1)=0)&&decide (Int.toNat ((Prod.snd x'2).1)=0))=false∧1+4*x6.1≤Int.toNat v13+(1+4*x5.1)+Int.toNat ((Prod.snd x'1).1)+Int.toNat ((Prod.snd x'2).1)∧1+4*x6.1≤x6.2.2.2∧x6.2.2.2≤b15)∧∀ (i4:Nat), i4 < 1+4*x6.1→(if i4 < Int.toNat v13+(1+4*x5.1)+Int.toNat ((Prod.snd
      x'1).1) then if i4 < Int.toNat v13+(1+4*x5.1) then if i4 < Int.toNat v13 then (0:Int) else (↑(UInt8.toNat (List.getD (pgL me (List.take x5.1 (gapsOf (Eng.RowD.mk b oo n c z f)))) (i4 - Int.toNat v13) 0)):Int) else (↑(UInt8.toNat (List.getD (byI (Prod.fst x'1) (Int.toNat ((Prod.snd x'1).1))) (i4 - (Int.toNat v13+(1+4*x5.1))) 0)):Int) else (↑(UInt8.toNat (List.getD (byI (Prod.fst x'2) (Int.toNat
      ((Prod.snd x'2).1))) (i4 - (Int.toNat v13+(1+4*x5.1)+Int.toNat ((Prod.snd x'1).1))) 0)):Int))=(↑(UInt8.toNat (List.getD (pgL me (List.take x6.1 (gapsOf (Eng.RowD.mk b oo n c z f)))) i4 0)):Int))∧(x6.1≤n∧1+4*x6.1≤x6.2.2.2∧x6.2.2.2≤9223372036854775807)∧n - x6.1 < n - x5.1)∧(decide (v11 > (0:Int))=false→(0:Int)≤0∧0 < (↑(3:Nat):Int)∧(b4=b4∧0=0)∧0 <
      3∧true=true∧(1+4*x5.1)*1≤140737488355328∧1+4*x5.1≤9223372036854775807∧1+4*x5.1≤1+4*x5.1∧(x5.2.1=x5.2.1∧x5.2.2.1=x5.2.2.1)∧∀ (b5 b6:Nat), 1+4*x5.1≤b6→b6≤9223372036854775807→(1+4*x5.1=0→b6=0)→(0:Int)≤IntKind.i64.wrap ((0:Int)+(1:Int))∧IntKind.i64.wrap ((0:Int)+(1:Int)) < (↑(3:Nat):Int)∧(b4=b4∧0=0)∧1 < 3∧(b5=b5∧0=0)∧(decide (1+4*x5.1=0)=true→decide
      (1+4*x5.1=0)=true)∧0=0∧1+4*x5.1≤1+4*x5.1∧b6≤b6∧(1+4*x5.1+Int.toNat ((Prod.snd x'1).1))*1≤140737488355328∧1+4*x5.1+Int.toNat ((Prod.snd x'1).1)≤9223372036854775807∧Int.toNat ((Prod.snd x'1).1)≤Int.toNat ((Prod.snd x'1).1)∧(y1.1=y1.1∧y1.2.1=y1.2.1)∧∀ (b7 b8 b9:Nat), 1+4*x5.1+Int.toNat ((Prod.snd x'1).1)≤b9→b9≤9223372036854775807→(decide (1+4*x5.1=0)=true→Int.toNat ((Prod.snd
      x'1).1)=0→b9=0)→(0:Int)≤IntKind.i64.wrap (IntKind.i64.wrap ((0:Int)+(1:Int))+(1:Int))∧IntKind.i64.wrap (IntKind.i64.wrap ((0:Int)+(1:Int))+(1:Int)) < (↑(3:Nat):Int)∧(b4=b4∧0=0)∧2 < 3∧(b7=b7∧b8=b8)∧((decide (1+4*x5.1=0)&&decide (Int.toNat ((Prod.snd x'1).1)=0))=true→(decide (1+4*x5.1=0)&&decide (Int.toNat ((Prod.snd x'1).1)=0))=true)∧0=0∧1+4*x5.1+Int.toNat ((Prod.snd x'1).1)≤1+4*x5.1+Int.toNat
      ((Prod.snd x'1).1)∧b9≤b9∧(1+4*x5.1+Int.toNat ((Prod.snd x'1).1)+Int.toNat ((Prod.snd x'2).1))*1≤140737488355328∧1+4*x5.1+Int.toNat ((Prod.snd x'1).1)+Int.toNat ((Prod.snd x'2).1)≤9223372036854775807∧Int.toNat ((Prod.snd x'2).1)≤Int.toNat ((Prod.snd x'2).1)∧(y2.1=y2.1∧y2.2.1=y2.2.1)∧∀ (b10 b11 b12:Nat), 1+4*x5.1+Int.toNat ((Prod.snd x'1).1)+Int.toNat ((Prod.snd
      x'2).1)≤b12→b12≤9223372036854775807→((decide (1+4*x5.1=0)&&decide (Int.toNat ((Prod.snd x'1).1)=0))=true→Int.toNat ((Prod.snd x'2).1)=0→b12=0)→∀ (v13:Int), v13=IntKind.i64.wrap ((↑x5.1:Int)+(1:Int))→∃ (x6:Nat × Nat × Nat × Nat), (b10=x6.2.1∧b11=x6.2.2.1∧0=0∧1+4*x5.1+Int.toNat ((Prod.snd x'1).1)+Int.toNat ((Prod.snd x'2).1)=1+4*x6.1∧b12=x6.2.2.2∧(decide (1+4*x5.1=0)&&decide (Int.toNat ((Prod.snd
      x'1).1)=0)&&decide (Int.toNat ((Prod.snd x'2).1)=0))=false)∧v13=(↑x6.1:Int)∧((b10=x6.2.1∧b11=x6.2.2.1∧(decide (1+4*x5.1=0)&&decide (Int.toNat ((Prod.snd x'1).1)=0)&&decide (Int.toNat ((Prod.snd x'2).1)=0))=false∧1+4*x6.1≤1+4*x5.1+Int.toNat ((Prod.snd x'1).1)+Int.toNat ((Prod.snd x'2).1)∧1+4*x6.1≤x6.2.2.2∧x6.2.2.2≤b12)∧∀ (i4:Nat), i4 < 1+4*x6.1→(if i4 < 1+4*x5.1+Int.toNat ((Prod.snd x'1).1) then if
      i4 < 1+4*x5.1 then (↑(UInt8.toNat (List.getD (pgL me (List.take x5.1 (gapsOf (Eng.RowD.mk b oo n c z f)))) i4 0)):Int) else (↑(UInt8.toNat (List.getD (byI (Prod.fst x'1) (Int.toNat ((Prod.snd x'1).1))) (i4 - (1+4*x5.1)) 0)):Int) else (↑(UInt8.toNat (List.getD (byI (Prod.fst x'2) (Int.toNat ((Prod.snd x'2).1))) (i4 - (1+4*x5.1+Int.toNat ((Prod.snd x'1).1))) 0)):Int))=(↑(UInt8.toNat (List.getD (pgL
      me (List.take x6.1 (gapsOf (Eng.RowD.mk b oo n c z f)))) i4 0)):Int))∧(x6.1≤n∧1+4*x6.1≤x6.2.2.2∧x6.2.2.2≤9223372036854775807)∧n - x6.1 < n - x5.1))))))∧True)∧True)∧True)∧True)∧(decide ((↑x5.1:Int) < v1)=false→∃ (x6:Nat × Nat × Nat), (x5.2.1=x6.1∧x5.2.2.1=x6.2.1∧0=0∧1+4*x5.1=1+4*n∧x5.2.2.2=x6.2.2∧false=false)∧((x5.2.1=x6.1∧x5.2.2.1=x6.2.1∧false=false∧1+4*n≤1+4*x5.1∧1+4*n≤x6.2.2∧x6.2.2≤x5.2.2.2)∧∀
      (i4:Nat), i4 < 1+4*n→(↑(UInt8.toNat (List.getD (pgL me (List.take x5.1 (gapsOf (Eng.RowD.mk b oo n c z f)))) i4 0)):Int)=(↑(UInt8.toNat (List.getD (pgL me (gapsOf (Eng.RowD.mk b oo n c z f))) i4 0)):Int))∧1+4*n≤x6.2.2∧x6.2.2≤9223372036854775807)) (by kernel_rfl) ?_
  try simp only [eq_self, true_and, and_true, Nat.le_refl, implies_true, forall_const, Bool.false_eq_true, Bool.true_eq_false, reduceCtorEq, false_imp_iff, true_imp_iff, Int.toNat_zero, Int.toNat_natCast, Nat.zero_lt_one, Int.le_refl, allGet]
  obtain ⟨hn, hg, _⟩ := hp
  have hn : n ≤ 20 := hn
  have hgl := gapsOf_len ⟨b, oo, n, c, z, f⟩
  have h1 : ∀ u : Nat × Nat × Nat, True := fun _ => trivial
  intro b1
  refine ⟨⟨fun hm => ⟨by decide, (b1, 0, 1), ⟨rfl, rfl, rfl⟩, ⟨⟨rfl, rfl, Nat.le_refl _, Nat.le_refl _⟩, fun k hk => ?_⟩, Nat.le_refl _, by dsimp only; omega⟩, fun hm => ⟨(b1, 0, 1), ⟨rfl, rfl, rfl⟩, ⟨⟨rfl, rfl, Nat.le_refl _, Nat.le_refl _⟩, fun k hk => ?_⟩, Nat.le_refl _, by dsimp only; omega⟩⟩, ?_⟩
  · obtain rfl : k = 0 := by omega
    rw [hm]; rfl
  · obtain rfl : k = 0 := by omega
    rw [hm]; rfl
  rintro ⟨b2, o2, c2⟩ ⟨c0, c1⟩ v1 rfl
  dsimp only at c0 c1
  refine ⟨⟨(0, b2, o2, c2), ⟨rfl, rfl, rfl, rfl⟩, rfl, ⟨⟨rfl, rfl, Nat.le_refl _, c0, Nat.le_refl _⟩, fun k hk => rfl⟩, Nat.zero_le _, c0, c1⟩, ?_⟩
  rintro ⟨i, b3, o3, c3⟩ ⟨i1, i2, i3⟩
  dsimp only at i1 i2 i3 ⊢
  refine ⟨fun hlt => ?_, fun hge => ?_⟩
  · have hlt : i < n := by have := of_decide_eq_true hlt; omega
    have hi' : i < (gapsOf ⟨b, oo, n, c, z, f⟩).length := by rw [gapsOf_len]; exact hlt
    have hgi : (gapsOf ⟨b, oo, n, c, z, f⟩)[i] = ((f i).1, (f i).2.1) := by simp [gapsOf]
    have hbd := gaps_in _ _ hg (by decide) _ (List.getElem_mem hi')
    have hbd : 0 ≤ (f i).1 ∧ (f i).1 < (f i).2.1 ∧ (f i).2.1 ≤ 65535 := by rw [hgi] at hbd; exact hbd
    refine ⟨by omega, by omega, hlt, ?_⟩
    rintro x rfl
    refine ⟨⟨by dsimp only; omega, by dsimp only; omega⟩, ⟨by dsimp only; omega, by dsimp only; omega⟩, fun y1 hy1 => ?_⟩
    rintro x rfl
    refine ⟨⟨by dsimp only; omega, by dsimp only; omega⟩, ⟨by dsimp only; omega, by dsimp only; omega⟩, fun y2 hy2 => ⟨by decide, by decide, fun v2 e2 v3 e3 => ?_⟩⟩
    have e3 : v3 = 1 + 4 * i := by rw [e3, e2, w64_id (by omega) (by omega)]; omega
    refine ⟨fun q => by have := of_decide_eq_true q; omega, fun _ => ⟨by decide, by decide, by decide, fun v4 e4 v5 e5 => ?_⟩⟩
    have e4 : v4 = 2 := e4
    have e5 : v5 = 3 + 4 * i := by rw [e5, e4, e3, w64_id (by omega) (by omega)]; omega
    refine ⟨fun q => by have := of_decide_eq_true q; omega, fun _ => ⟨by decide, by decide, by decide, fun v6 e6 v7 e7 => ?_⟩⟩
    have e6 : v6 = 2 := e6
    have e7 : v7 = 5 + 4 * i := by rw [e7, e6, e5, w64_id (by omega) (by omega)]; omega
    refine ⟨fun q => by have := of_decide_eq_true q; omega, fun _ => ⟨fun q => by have := of_decide_eq_true q; omega, fun _ v8 e8 v9 e9 v10 e10 v11 e11 => ?_⟩⟩
    have e10 : v10 = 0 := by rw [e10, e8, e9]; rfl
    have e11 : v11 = 5 + 4 * i := by rw [e11, e10, e7, w64_id (by omega) (by omega)]; omega
    refine ⟨fun _ v12 e12 => ?_, fun q => by have := of_decide_eq_false q; omega⟩
    have e12 : v12 = 0 := e12
    refine ⟨by omega, by omega, by omega, by omega, by omega, by omega, fun b6 g1 g2 g3 v13 e13 => ?_⟩
    have e13 : v13 = 0 := e13
    subst e13
    have t2 : Int.toNat 2 = 2 := rfl
    simp only [t2, show Int.toNat 0 = 0 from rfl, Nat.zero_add]
    refine ⟨by omega, by omega, by decide, by decide, fun q => q, by omega, by omega, by omega, fun b9 g4 g5 g6 => ⟨by decide, by decide, by decide, fun q => q, by omega, by omega, fun b12 g7 g8 g9 => ⟨by decide, by decide, by decide, fun q => q, by omega, by omega, fun b13 b14 b15 g10 g11 g12 v14 e14 => ⟨(i + 1, b13, b14, b15), ⟨rfl, rfl, by dsimp only; omega, rfl, by simp⟩, ?_, ⟨⟨rfl, rfl, by simp, by dsimp only; omega, by dsimp only; omega, Nat.le_refl _⟩, fun k hk => ?_⟩, ⟨hlt, by dsimp only; omega, g11⟩, by dsimp only; omega⟩⟩⟩⟩
    · rw [e14, w64_id (by omega) (by omega)]; dsimp only; omega
    · dsimp only
      have hl : (pgL me ((gapsOf ⟨b, oo, n, c, z, f⟩).take i)).length = 1 + 4 * i := by
        rw [pgL_len, List.length_take, gapsOf_len]
        have : min i n = i := by omega
        dsimp only
        omega
      rw [pgL_take hi', hgi, getD_app, getD_app, hl, byI_len]
      by_cases q1 : k < 1 + 4 * i
      · rw [if_pos (by omega), if_pos q1, if_neg (by omega), if_pos q1]; rfl
      · by_cases q2 : k < 1 + 4 * i + 2
        · rw [if_pos q2, if_neg q1, if_neg q1, if_pos (by omega)]
        · rw [if_neg q2, if_neg q1, if_neg (by omega), Nat.sub_sub]
  · have : i = n := by have := of_decide_eq_false hge; omega
    subst this
    refine ⟨(b3, o3, c3), ⟨rfl, rfl, rfl, rfl⟩, ⟨⟨rfl, rfl, Nat.le_refl _, i2, Nat.le_refl _⟩, fun k hk => ?_⟩, i2, i3⟩
    rw [List.take_of_length_le (by rw [gapsOf_len]; exact Nat.le_refl _)]
/-! ### Put -/
def EQ1 : Env := (((((((((EG0.addE 105 putGapsC).addP 55 validC).addP 58 kindsC).addE 57 summedC)).inl 86 Tryz.f86 fun _ _ => [.draw 1 (.take 0 (.take 1 (.take 3 (.take 4 (.br 2 (.br 5 (.take 6 .fin) .stop) .stop))))) []]).inl 91 Tryz.f91 fun _ _ => [.draw 1 (.take 0 (.take 1 (.take 3 (.take 4 (.br 2 (.br 5 (.take 6 .fin) .stop) .stop))))) []]).inl 95 Tryz.f95 fun _ _ => [.draw 1 (.take 0 (.take 1 (.take 3 (.take 4 (.take 6 (.take 7 (.take 8 (.br 2 (.br 5 (.br 9 (.br 10 (.br 11 (.take 12 .fin) .stop) .stop) .stop) .stop) .stop)))))))) []]).inl 100 Tryz.f100 fun _ _ => []).inl 109 Tryz.f109 fun _ _ => []
theorem EQ1_ok : EnvOk Tryz.prog EQ1 := (((((((((EG0_ok.addE putGaps_ok).addP valid_ok).addP kinds_ok).addE summed_ok)).inl _ Tryz.func86 rfl (by kernel_rfl)).inl _ Tryz.func91 rfl (by kernel_rfl)).inl _ Tryz.func95 rfl (by kernel_rfl)).inl _ Tryz.func100 rfl (by kernel_rfl)).inl _ Tryz.func109 rfl (by kernel_rfl)
theorem put_ok : PcOk Tryz.prog 34 putC := by
  refine pcOf_run (fun _ => EQ1_ok) Tryz.func34 rfl (by kernel_rfl) (fun x => ⟨by have := putU_len (uOf x.1); show (putU _).length ≤ _; omega, trivial, trivial⟩)
    (fun x => [.draw 3 (.take 0 (.take 1 (.take 2 (.take 4 (.take 5 (.br 3 (.br 6 (.br 7 (.take 8 .fin) .stop) .stop) (.br 6 (.br 3 (.br 7 (.take 8 .fin) .stop) .stop) .stop))))))) [],
      .join ⟨4, RowY, [4], fun y => [.slice 100 y.1 y.2.1 [] 1 0 3 y.2.2 false], [2, 3], fun y => [⟨100, y.1, y.2.1, 1, 3, rowG (byI x.1.1 1 ++ byI x.1.2.1 2), true, false, y.2.2, 5, false, none⟩], fun y => 3 ≤ y.2.2 ∧ y.2.2 ≤ 9223372036854775807, fun _ => 0⟩ 200,
      .draw 4 (.take 0 (.take 1 (.take 2 (.take 3 (.take 4 (.case 20 [1, 2, 3, 4, 5, 6] (.take 5 (.take 6 (.take 7 (.br 8 (.br 9 (.br 10 (.take 11 (.take 12 .fin)) .stop) .stop) .stop)))))))))) [4]])
    (fun _ => Nat.le_of_ble_eq_true rfl) (fun ⟨⟨k, nr, nm, sz, sm, of, da, wy, o, me, ⟨b, oo, n, c, z, f⟩, ()⟩, ()⟩ hp hw => ?_)
  refine vc_of (q :=
      ∀ (b1:Nat), (b1=b1∧0=0)∧n≤n∧(∀ (k1:Nat), k1 < n→true=true)∧(b=b∧oo=oo)∧n≤8796093022208∧∀ (t1:Bool), t1=decide (okU (uOf (k, nr, nm, sz, sm, of, da, wy, o, me, Eng.RowD.mk b oo n c z f, ())))→((!t1)=true→[]=putU (uOf (k, nr, nm, sz, sm, of, da, wy, o, me, Eng.RowD.mk b oo n c z f, ()))∧(2:Int)=putE (uOf (k, nr, nm, sz, sm, of, da, wy, o, me, Eng.RowD.mk b oo n c z f,
      ())))∧((!t1)=false→((b1=b1∧0=0)∧∀ (v1:Int), v1=IntKind.u8.wrap k→(b1=b1∧0=0)∧(∀ (b2:Nat), (∀ (x'1:Int × Int × Unit), x'1=(nr, (2:Int), ())→((0:Int)≤Prod.fst x'1∧Prod.fst x'1≤(4294967295:Int))∧((1:Int)≤(Prod.snd x'1).1∧(Prod.snd x'1).1≤(8:Int))∧∀ (y1:Nat × Nat × Nat), Int.toNat ((Prod.snd x'1).1)≤y1.2.2∧y1.2.2≤9223372036854775807→((b2=b2∧0=0)∧(false=true→false=true)∧0=0∧1≤1∧1≤1∧(1+Int.toNat
      ((Prod.snd x'1).1))*1≤140737488355328∧1+Int.toNat ((Prod.snd x'1).1)≤9223372036854775807∧Int.toNat ((Prod.snd x'1).1)≤Int.toNat ((Prod.snd x'1).1)∧(y1.1=y1.1∧y1.2.1=y1.2.1)∧∀ (b3 b4 b5:Nat), 1+Int.toNat ((Prod.snd x'1).1)≤b5→b5≤9223372036854775807→(false=true→Int.toNat ((Prod.snd x'1).1)=0→b5=0)→∃ (x1:Nat × Nat × Nat), (b3=x1.1∧b4=x1.2.1∧0=0∧1+Int.toNat ((Prod.snd x'1).1)=3∧b5=x1.2.2∧(false&&decide
      (Int.toNat ((Prod.snd x'1).1)=0))=false)∧((b3=x1.1∧b4=x1.2.1∧(false&&decide (Int.toNat ((Prod.snd x'1).1)=0))=false∧3≤1+Int.toNat ((Prod.snd x'1).1)∧3≤x1.2.2∧x1.2.2≤b5)∧∀ (i1:Nat), i1 < 3→(if i1 < 1 then v1 else (↑(UInt8.toNat (List.getD (byI (Prod.fst x'1) (Int.toNat ((Prod.snd x'1).1))) (i1 - 1) 0)):Int))=(↑(UInt8.toNat (List.getD (byI k 1++byI nr 2) i1
      0)):Int))∧3≤x1.2.2∧x1.2.2≤9223372036854775807)∧True)∧True)∧(∀ (x'1:Int × Int × Unit), x'1=(nr, (2:Int), ())→((0:Int)≤Prod.fst x'1∧Prod.fst x'1≤(4294967295:Int))∧((1:Int)≤(Prod.snd x'1).1∧(Prod.snd x'1).1≤(8:Int))∧∀ (y1:Nat × Nat × Nat), Int.toNat ((Prod.snd x'1).1)≤y1.2.2∧y1.2.2≤9223372036854775807→(∀ (b3:Nat), ((b3=b3∧0=0)∧(false=true→false=true)∧0=0∧1≤1∧1≤1∧(1+Int.toNat ((Prod.snd
      x'1).1))*1≤140737488355328∧1+Int.toNat ((Prod.snd x'1).1)≤9223372036854775807∧Int.toNat ((Prod.snd x'1).1)≤Int.toNat ((Prod.snd x'1).1)∧(y1.1=y1.1∧y1.2.1=y1.2.1)∧∀ (b4 b5 b6:Nat), 1+Int.toNat ((Prod.snd x'1).1)≤b6→b6≤9223372036854775807→(false=true→Int.toNat ((Prod.snd x'1).1)=0→b6=0)→∃ (x1:Nat × Nat × Nat), (b4=x1.1∧b5=x1.2.1∧0=0∧1+Int.toNat ((Prod.snd x'1).1)=3∧b6=x1.2.2∧(false&&decide (Int.toNat
      ((Prod.snd x'1).1)=0))=false)∧((b4=x1.1∧b5=x1.2.1∧(false&&decide (Int.toNat ((Prod.snd x'1).1)=0))=false∧3≤1+Int.toNat ((Prod.snd x'1).1)∧3≤x1.2.2∧x1.2.2≤b6)∧∀ (i1:Nat), i1 < 3→(if i1 < 1 then v1 else (↑(UInt8.toNat (List.getD (byI (Prod.fst x'1) (Int.toNat ((Prod.snd x'1).1))) (i1 - 1) 0)):Int))=(↑(UInt8.toNat (List.getD (byI k 1++byI nr 2) i1
      0)):Int))∧3≤x1.2.2∧x1.2.2≤9223372036854775807)∧True)∧True)∧True)∧∀ (x1:Nat × Nat × Nat), 3≤x1.2.2∧x1.2.2≤9223372036854775807→(0:Int)≤3∧(3:Int)≤3∧3≤(↑x1.2.2:Int)∧(b1=b1∧0=0)∧(k=(1:Int)∨k=(2:Int)∨k=(3:Int)∨k=(4:Int)∨k=(5:Int)∨k=(6:Int))∧(k=(1:Int)→(0:Int)≤1∧1 < (↑(7:Nat):Int)∧(b1=b1∧0=0)∧(∀ (b2:Nat), (b2=b2∧0=0)∧(b2=b2∧0=0)∧(∀ (x'1:Int × Int × Unit), x'1=(sz, (2:Int), ())→((0:Int)≤Prod.fst
      x'1∧Prod.fst x'1≤(4294967295:Int))∧((1:Int)≤(Prod.snd x'1).1∧(Prod.snd x'1).1≤(8:Int))∧∀ (y1:Nat × Nat × Nat), Int.toNat ((Prod.snd x'1).1)≤y1.2.2∧y1.2.2≤9223372036854775807→((y1.1=y1.1∧y1.2.1=y1.2.1)∧(false=true→false=true)∧0=0∧Int.toNat ((Prod.snd x'1).1)≤Int.toNat ((Prod.snd x'1).1)∧y1.2.2≤y1.2.2∧(Int.toNat ((Prod.snd x'1).1)+List.length nm)*1≤140737488355328∧Int.toNat ((Prod.snd
      x'1).1)+List.length nm≤9223372036854775807∧∀ (b3 b4 b5:Nat), Int.toNat ((Prod.snd x'1).1)+List.length nm≤b5→b5≤9223372036854775807→(false=true→List.length nm=0→b5=0)→((x1.1=x1.1∧x1.2.1=x1.2.1)∧(false=true→false=true)∧0=0∧Int.toNat (3:Int)≤3∧Int.toNat (3:Int)≤x1.2.2∧(Int.toNat (3:Int)+(Int.toNat ((Prod.snd x'1).1)+List.length nm))*1≤140737488355328∧Int.toNat (3:Int)+(Int.toNat ((Prod.snd
      x'1).1)+List.length nm)≤9223372036854775807∧Int.toNat ((Prod.snd x'1).1)+List.length nm≤Int.toNat ((Prod.snd x'1).1)+List.length nm∧(b3=b3∧b4=b4)∧∀ (b6 b7 b8:Nat), Int.toNat (3:Int)+(Int.toNat ((Prod.snd x'1).1)+List.length nm)≤b8→b8≤9223372036854775807→(false=true→Int.toNat ((Prod.snd x'1).1)+List.length nm=0→b8=0)→((b6=b6∧b7=b7)∧(0=0∧∀ (k2:Nat), k2 < Int.toNat (3:Int)+(Int.toNat ((Prod.snd
      x'1).1)+List.length nm)→true=true)∧∀ (x'2:Eng.OwnD Int × Unit), x'2=(Eng.OwnD.mk b6 b7 (Int.toNat (3:Int)+(Int.toNat ((Prod.snd x'1).1)+List.length nm)) b8 (false&&decide (Int.toNat ((Prod.snd x'1).1)+List.length nm=0)) (Int.toNat (3:Int)+(Int.toNat ((Prod.snd x'1).1)+List.length nm)) b8 (false&&decide (Int.toNat ((Prod.snd x'1).1)+List.length nm=0)) fun (k_1:Nat) ↦ if k_1 < Int.toNat (3:Int) then
      (↑(UInt8.toNat (List.getD (byI k 1++byI nr 2) k_1 0)):Int) else if k_1 - Int.toNat (3:Int) < Int.toNat ((Prod.snd x'1).1) then (↑(UInt8.toNat (List.getD (byI (Prod.fst x'1) (Int.toNat ((Prod.snd x'1).1))) (k_1 - Int.toNat (3:Int)) 0)):Int) else (↑(UInt8.toNat (List.getD nm (k_1 - Int.toNat (3:Int) - Int.toNat ((Prod.snd x'1).1)) 0)):Int), ())→Eng.OwnD.n (Prod.fst x'2)≤4294967296∧Eng.OwnD.n
      (Prod.fst x'2)≤Eng.OwnD.m (Prod.fst x'2)∧Eng.OwnD.c (Prod.fst x'2)≤Eng.OwnD.cap (Prod.fst x'2)∧(Eng.OwnD.z (Prod.fst x'2)=true→Eng.OwnD.ez (Prod.fst x'2)=true)∧∀ (y2:Unit), True→∀ (s1:List UInt8), s1=sealL (Byt.of (Eng.OwnD.f (Prod.fst x'2)) (Eng.OwnD.n (Prod.fst x'2)))→s1=putU (uOf (k, nr, nm, sz, sm, of, da, wy, o, me, Eng.RowD.mk b oo n c z f, ()))∧(0:Int)=putE (uOf (k, nr, nm, sz, sm, of, da,
      wy, o, me, Eng.RowD.mk b oo n c z f, ())))∧True)∧True)∧True)∧True)∧True)∧(k=(2:Int)→(0:Int)≤2∧2 < (↑(7:Nat):Int)∧(b1=b1∧0=0)∧(∀ (b3:Nat), (b3=b3∧0=0)∧(b3=b3∧0=0)∧(∀ (x'1:Int × Int × Unit), x'1=(of, (2:Int), ())→((0:Int)≤Prod.fst x'1∧Prod.fst x'1≤(4294967295:Int))∧((1:Int)≤(Prod.snd x'1).1∧(Prod.snd x'1).1≤(8:Int))∧∀ (y1:Nat × Nat × Nat), Int.toNat ((Prod.snd
      x'1).1)≤y1.2.2∧y1.2.2≤9223372036854775807→((y1.1=y1.1∧y1.2.1=y1.2.1)∧(false=true→false=true)∧0=0∧Int.toNat ((Prod.snd x'1).1)≤Int.toNat ((Prod.snd x'1).1)∧y1.2.2≤y1.2.2∧(Int.toNat ((Prod.snd x'1).1)+List.length da)*1≤140737488355328∧Int.toNat ((Prod.snd x'1).1)+List.length da≤9223372036854775807∧∀ (b4 b5 b6:Nat), Int.toNat ((Prod.snd x'1).1)+List.length
      da≤b6→b6≤9223372036854775807→(false=true→List.length da=0→b6=0)→((x1.1=x1.1∧x1.2.1=x1.2.1)∧(false=true→false=true)∧0=0∧Int.toNat (3:Int)≤3∧Int.toNat (3:Int)≤x1.2.2∧(Int.toNat (3:Int)+(Int.toNat ((Prod.snd x'1).1)+List.length da))*1≤140737488355328∧Int.toNat (3:Int)+(Int.toNat ((Prod.snd x'1).1)+List.length da)≤9223372036854775807∧Int.toNat ((Prod.snd x'1).1)+List.length da≤Int.toNat ((Prod.snd
      x'1).1)+List.length da∧(b4=b4∧b5=b5)∧∀ (b7 b8 b9:Nat), Int.toNat (3:Int)+(Int.toNat ((Prod.snd x'1).1)+List.length da)≤b9→b9≤9223372036854775807→(false=true→Int.toNat ((Prod.snd x'1).1)+List.length da=0→b9=0)→((b7=b7∧b8=b8)∧(0=0∧∀ (k2:Nat), k2 < Int.toNat (3:Int)+(Int.toNat ((Prod.snd x'1).1)+List.length da)→true=true)∧∀ (x'2:Eng.OwnD Int × Unit), x'2=(Eng.OwnD.mk b7 b8 (Int.toNat
      (3:Int)+(Int.toNat ((Prod.snd x'1).1)+List.length da)) b9 (false&&decide (Int.toNat ((Prod.snd x'1).1)+List.length da=0)) (Int.toNat (3:Int)+(Int.toNat ((Prod.snd x'1).1)+List.length da)) b9 (false&&decide (Int.toNat ((Prod.snd x'1).1)+List.length da=0)) fun (k_1:Nat) ↦ if k_1 < Int.toNat (3:Int) then (↑(UInt8.toNat (List.getD (byI k 1++byI nr 2) k_1 0)):Int) else if k_1 - Int.toNat (3:Int) <
      Int.toNat ((Prod.snd x'1).1) then (↑(UInt8.toNat (List.getD (byI (Prod.fst x'1) (Int.toNat ((Prod.snd x'1).1))) (k_1 - Int.toNat (3:Int)) 0)):Int) else (↑(UInt8.toNat (List.getD da (k_1 - Int.toNat (3:Int) - Int.toNat ((Prod.snd x'1).1)) 0)):Int), ())→Eng.OwnD.n (Prod.fst x'2)≤4294967296∧Eng.OwnD.n (Prod.fst x'2)≤Eng.OwnD.m (Prod.fst x'2)∧Eng.OwnD.c (Prod.fst x'2)≤Eng.OwnD.cap (Prod.fst
      x'2)∧(Eng.OwnD.z (Prod.fst x'2)=true→Eng.OwnD.ez (Prod.fst x'2)=true)∧∀ (y2:Unit), True→∀ (s1:List UInt8), s1=sealL (Byt.of (Eng.OwnD.f (Prod.fst x'2)) (Eng.OwnD.n (Prod.fst x'2)))→s1=putU (uOf (k, nr, nm, sz, sm, of, da, wy, o, me, Eng.RowD.mk b oo n c z f, ()))∧(0:Int)=putE (uOf (k, nr, nm, sz, sm, of, da, wy, o, me, Eng.RowD.mk b oo n c z f,
      ())))∧True)∧True)∧True)∧True)∧True)∧(k=(3:Int)→(0:Int)≤3∧3 < (↑(7:Nat):Int)∧(b1=b1∧0=0)∧(∀ (b4:Nat), (b4=b4∧0=0)∧(b4=b4∧0=0)∧(b4=b4∧0=0)∧∀ (v2:Int), v2=IntKind.i64.wrap sm→(∀ (x'1:Int × Int × Unit), x'1=(wy, (1:Int), ())→((0:Int)≤Prod.fst x'1∧Prod.fst x'1≤(4294967295:Int))∧((1:Int)≤(Prod.snd x'1).1∧(Prod.snd x'1).1≤(8:Int))∧∀ (y1:Nat × Nat × Nat), Int.toNat ((Prod.snd
      x'1).1)≤y1.2.2∧y1.2.2≤9223372036854775807→(∀ (x'2:Int × Int × Unit), x'2=(sz, (2:Int), ())→((0:Int)≤Prod.fst x'2∧Prod.fst x'2≤(4294967295:Int))∧((1:Int)≤(Prod.snd x'2).1∧(Prod.snd x'2).1≤(8:Int))∧∀ (y2:Nat × Nat × Nat), Int.toNat ((Prod.snd x'2).1)≤y2.2.2∧y2.2.2≤9223372036854775807→(∀ (x'3:Int × Int × Unit), x'3=(v2, (4:Int), ())→((0:Int)≤Prod.fst x'3∧Prod.fst
      x'3≤(4294967295:Int))∧((1:Int)≤(Prod.snd x'3).1∧(Prod.snd x'3).1≤(8:Int))∧∀ (y3:Nat × Nat × Nat), Int.toNat ((Prod.snd x'3).1)≤y3.2.2∧y3.2.2≤9223372036854775807→(∀ (b5:Nat), ((0:Int)≤0∧0 < (↑(3:Nat):Int)∧(b5=b5∧0=0)∧0 < 3∧∀ (v3:Int), v3=(↑(Int.toNat ((Prod.snd x'1).1)):Int)→∀ (v4:Int), v4=IntKind.i64.wrap ((0:Int)+v3)→(decide (v4 < (0:Int))=true→False)∧(decide (v4 <
      (0:Int))=false→(0:Int)≤IntKind.i64.wrap ((0:Int)+(1:Int))∧IntKind.i64.wrap ((0:Int)+(1:Int)) < (↑(3:Nat):Int)∧(b5=b5∧0=0)∧1 < 3∧∀ (v5:Int), v5=(↑(Int.toNat ((Prod.snd x'2).1)):Int)→∀ (v6:Int), v6=IntKind.i64.wrap (v4+v5)→(decide (v6 < (0:Int))=true→False)∧(decide (v6 < (0:Int))=false→(0:Int)≤IntKind.i64.wrap (IntKind.i64.wrap ((0:Int)+(1:Int))+(1:Int))∧IntKind.i64.wrap (IntKind.i64.wrap
      ((0:Int)+(1:Int))+(1:Int)) < (↑(3:Nat):Int)∧(b5=b5∧0=0)∧2 < 3∧∀ (v7:Int), v7=(↑(Int.toNat ((Prod.snd x'3).1)):Int)→∀ (v8:Int), v8=IntKind.i64.wrap (v6+v7)→(decide (v8 < (0:Int))=true→False)∧(decide (v8 < (0:Int))=false→(decide (v8 < (0:Int))=true→False)∧(decide (v8 < (0:Int))=false→∀ (v9:Int), v9=(↑(0:Nat):Int)→∀ (v10:Int), v10=(↑(0:Nat):Int)→∀ (v11:Int), v11=IntKind.i64.wrap (v9 - v10)→∀
      (v12:Int), v12=IntKind.i64.wrap (v8 - v11)→(decide (v12 > (0:Int))=true→∀ (v13:Int), v13=(↑(0:Nat):Int)→0≤v13∧v13≤(↑(0:Nat):Int)∧true=true∧Int.toNat v12*1≤140737488355328∧Int.toNat v12≤9223372036854775807∧0≤v12∧v12≤9223372036854775807∧∀ (b6 b7:Nat), Int.toNat v12≤b7→b7≤9223372036854775807→(Int.toNat v12=0→b7=0)→∀ (v14:Int), v14=(↑(0:Nat):Int)→0≤v14∧v14≤(↑b7:Int)∧(0:Int)≤0∧0 <
      (↑(3:Nat):Int)∧(b5=b5∧0=0)∧0 < 3∧(b6=b6∧0=0)∧(decide (Int.toNat v12=0)=true→decide (Int.toNat v12=0)=true)∧0=0∧Int.toNat v14≤Int.toNat v12∧b7≤b7∧(Int.toNat v14+Int.toNat ((Prod.snd x'1).1))*1≤140737488355328∧Int.toNat v14+Int.toNat ((Prod.snd x'1).1)≤9223372036854775807∧Int.toNat ((Prod.snd x'1).1)≤Int.toNat ((Prod.snd x'1).1)∧(y1.1=y1.1∧y1.2.1=y1.2.1)∧∀ (b8 b9 b10:Nat), Int.toNat v14+Int.toNat
      ((Prod.snd x'1).1)≤b10→b10≤9223372036854775807→(decide (Int.toNat v12=0)=true→Int.toNat ((Prod.snd x'1).1)=0→b10=0)→(0:Int)≤IntKind.i64.wrap ((0:Int)+(1:Int))∧IntKind.i64.wrap ((0:Int)+(1:Int)) < (↑(3:Nat):Int)∧(b5=b5∧0=0)∧1 < 3∧(b8=b8∧b9=b9)∧((decide (Int.toNat v12=0)&&decide (Int.toNat ((Prod.snd x'1).1)=0))=true→(decide (Int.toNat v12=0)&&decide (Int.toNat ((Prod.snd
      x'1).1)=0))=true)∧0=0∧Int.toNat v14+Int.toNat ((Prod.snd x'1).1)≤Int.toNat v14+Int.toNat ((Prod.snd x'1).1)∧b10≤b10∧(Int.toNat v14+Int.toNat ((Prod.snd x'1).1)+Int.toNat ((Prod.snd x'2).1))*1≤140737488355328∧Int.toNat v14+Int.toNat ((Prod.snd x'1).1)+Int.toNat ((Prod.snd x'2).1)≤9223372036854775807∧Int.toNat ((Prod.snd x'2).1)≤Int.toNat ((Prod.snd x'2).1)∧(y2.1=y2.1∧y2.2.1=y2.2.1)∧∀ (b11 b12
      b13:Nat), Int.toNat v14+Int.toNat ((Prod.snd x'1).1)+Int.toNat ((Prod.snd x'2).1)≤b13→b13≤9223372036854775807→((decide (Int.toNat v12=0)&&decide (Int.toNat ((Prod.snd x'1).1)=0))=true→Int.toNat ((Prod.snd x'2).1)=0→b13=0)→(0:Int)≤IntKind.i64.wrap (IntKind.i64.wrap ((0:Int)+(1:Int))+(1:Int))∧IntKind.i64.wrap (IntKind.i64.wrap ((0:Int)+(1:Int))+(1:Int)) < (↑(3:Nat):Int)∧(b5=b5∧0=0)∧2 <
      3∧(b11=b11∧b12=b12)∧((decide (Int.toNat v12=0)&&decide (Int.toNat ((Prod.snd x'1).1)=0)&&decide (Int.toNat ((Prod.snd x'2).1)=0))=true→(decide (Int.toNat v12=0)&&decide (Int.toNat ((Prod.snd x'1).1)=0)&&decide (Int.toNat ((Prod.snd x'2).1)=0))=true)∧0=0∧Int.toNat v14+Int.toNat ((Prod.snd x'1).1)+Int.toNat ((Prod.snd x'2).1)≤Int.toNat v14+Int.toNat ((Prod.snd x'1).1)+Int.toNat ((Prod.snd
      x'2).1)∧b13≤b13∧(Int.toNat v14+Int.toNat ((Prod.snd x'1).1)+Int.toNat ((Prod.snd x'2).1)+Int.toNat ((Prod.snd x'3).1))*1≤140737488355328∧Int.toNat v14+Int.toNat ((Prod.snd x'1).1)+Int.toNat ((Prod.snd x'2).1)+Int.toNat ((Prod.snd x'3).1)≤9223372036854775807∧Int.toNat ((Prod.snd x'3).1)≤Int.toNat ((Prod.snd x'3).1)∧(y3.1=y3.1∧y3.2.1=y3.2.1)∧∀ (b14 b15 b16:Nat), Int.toNat v14+Int.toNat ((Prod.snd
      x'1).1)+Int.toNat ((Prod.snd x'2).1)+Int.toNat ((Prod.snd x'3).1)≤b16→b16≤9223372036854775807→((decide (Int.toNat v12=0)&&decide (Int.toNat ((Prod.snd x'1).1)=0)&&decide (Int.toNat ((Prod.snd x'2).1)=0))=true→Int.toNat ((Prod.snd x'3).1)=0→b16=0)→((x1.1=x1.1∧x1.2.1=x1.2.1)∧(false=true→false=true)∧0=0∧Int.toNat (3:Int)≤3∧Int.toNat (3:Int)≤x1.2.2∧(Int.toNat (3:Int)+(Int.toNat v14+Int.toNat ((Prod.snd
      x'1).1)+Int.toNat ((Prod.snd x'2).1)+Int.toNat ((Prod.snd x'3).1)))*1≤140737488355328∧Int.toNat (3:Int)+(Int.toNat v14+Int.toNat ((Prod.snd x'1).1)+Int.toNat ((Prod.snd x'2).1)+Int.toNat ((Prod.snd x'3).1))≤9223372036854775807∧Int.toNat v14+Int.toNat ((Prod.snd x'1).1)+Int.toNat ((Prod.snd x'2).1)+Int.toNat ((Prod.snd x'3).1)≤Int.toNat v14+Int.toNat ((Prod.snd x'1).1)+Int.toNat ((Prod.snd
      x'2).1)+Int.toNat ((Prod.snd x'3).1)∧(b14=b14∧b15=b15)∧∀ (b17 b18 b19:Nat), Int.toNat (3:Int)+(Int.toNat v14+Int.toNat ((Prod.snd x'1).1)+Int.toNat ((Prod.snd x'2).1)+Int.toNat ((Prod.snd x'3).1))≤b19→b19≤9223372036854775807→(false=true→Int.toNat v14+Int.toNat ((Prod.snd x'1).1)+Int.toNat ((Prod.snd x'2).1)+Int.toNat ((Prod.snd x'3).1)=0→b19=0)→((b17=b17∧b18=b18)∧(0=0∧∀ (k2:Nat), k2 < Int.toNat
      (3:Int)+(Int.toNat v14+Int.toNat ((Prod.snd x'1).1)+Int.toNat ((Prod.snd x'2).1)+Int.toNat ((Prod.snd x'3).1))→true=true)∧∀ (x'4:Eng.OwnD Int × Unit), x'4=(Eng.OwnD.mk b17 b18 (Int.toNat (3:Int)+(Int.toNat v14+Int.toNat ((Prod.snd x'1).1)+Int.toNat ((Prod.snd x'2).1)+Int.toNat ((Prod.snd x'3).1))) b19 (false&&decide (Int.toNat v14+Int.toNat ((Prod.snd x'1).1)+Int.toNat ((Prod.snd x'2).1)+Int.toNat
      ((Prod.snd x'3).1)=0)) (Int.toNat (3:Int)+(Int.toNat v14+Int.toNat ((Prod.snd x'1).1)+Int.toNat ((Prod.snd x'2).1)+Int.toNat ((Prod.snd x'3).1))) b19 (false&&decide (Int.toNat v14+Int.toNat ((Prod.snd x'1).1)+Int.toNat ((Prod.snd x'2).1)+Int.toNat ((Prod.snd x'3).1)=0)) fun (k_1:Nat) ↦ if k_1 < Int.toNat (3:Int) then (↑(UInt8.toNat (List.getD (byI k 1++byI nr 2) k_1 0)):Int) else if k_1 - Int.toNat
      (3:Int) < Int.toNat v14+Int.toNat ((Prod.snd x'1).1)+Int.toNat ((Prod.snd x'2).1) then if k_1 - Int.toNat (3:Int) < Int.toNat v14+Int.toNat ((Prod.snd x'1).1) then if k_1 - Int.toNat (3:Int) < Int.toNat v14 then (0:Int) else (↑(UInt8.toNat (List.getD (byI (Prod.fst x'1) (Int.toNat ((Prod.snd x'1).1))) (k_1 - Int.toNat (3:Int) - Int.toNat v14) 0)):Int) else (↑(UInt8.toNat (List.getD (byI (Prod.fst
      x'2) (Int.toNat ((Prod.snd x'2).1))) (k_1 - Int.toNat (3:Int) - (Int.toNat v14+Int.toNat ((Prod.snd x'1).1))) 0)):Int) else (↑(UInt8.toNat (List.getD (byI (Prod.fst x'3) (Int.toNat ((Prod.snd x'3).1))) (k_1 - Int.toNat (3:Int) - (Int.toNat v14+Int.toNat ((Prod.snd x'1).1)+Int.toNat ((Prod.snd x'2).1))) 0)):Int), ())→Eng.OwnD.n (Prod.fst x'4)≤4294967296∧Eng.OwnD.n (Prod.fst x'4)≤Eng.OwnD.m (Prod.fst
      x'4)∧Eng.OwnD.c (Prod.fst x'4)≤Eng.OwnD.cap (Prod.fst x'4)∧(Eng.OwnD.z (Prod.fst x'4)=true→Eng.OwnD.ez (Prod.fst x'4)=true)∧∀ (y4:Unit), True→∀ (s1:List UInt8), s1=sealL (Byt.of (Eng.OwnD.f (Prod.fst x'4)) (Eng.OwnD.n (Prod.fst x'4)))→s1=putU (uOf (k, nr, nm, sz, sm, of, da, wy, o, me, Eng.RowD.mk b oo n c z f, ()))∧(0:Int)=putE (uOf (k, nr, nm, sz, sm, of, da, wy, o, me, Eng.RowD.mk b oo n c z f,
      ())))∧True)∧True)∧(decide (v12 > (0:Int))=false→(0:Int)≤0∧0 < (↑(3:Nat):Int)∧(b5=b5∧0=0)∧0 < 3∧true=true∧Int.toNat ((Prod.snd x'1).1)*1≤140737488355328∧Int.toNat ((Prod.snd x'1).1)≤9223372036854775807∧Int.toNat ((Prod.snd x'1).1)≤Int.toNat ((Prod.snd x'1).1)∧(y1.1=y1.1∧y1.2.1=y1.2.1)∧∀ (b6 b7:Nat), Int.toNat ((Prod.snd x'1).1)≤b7→b7≤9223372036854775807→(Int.toNat ((Prod.snd
      x'1).1)=0→b7=0)→(0:Int)≤IntKind.i64.wrap ((0:Int)+(1:Int))∧IntKind.i64.wrap ((0:Int)+(1:Int)) < (↑(3:Nat):Int)∧(b5=b5∧0=0)∧1 < 3∧(b6=b6∧0=0)∧(decide (Int.toNat ((Prod.snd x'1).1)=0)=true→decide (Int.toNat ((Prod.snd x'1).1)=0)=true)∧0=0∧Int.toNat ((Prod.snd x'1).1)≤Int.toNat ((Prod.snd x'1).1)∧b7≤b7∧(Int.toNat ((Prod.snd x'1).1)+Int.toNat ((Prod.snd x'2).1))*1≤140737488355328∧Int.toNat ((Prod.snd
      x'1).1)+Int.toNat ((Prod.snd x'2).1)≤9223372036854775807∧Int.toNat ((Prod.snd x'2).1)≤Int.toNat ((Prod.snd x'2).1)∧(y2.1=y2.1∧y2.2.1=y2.2.1)∧∀ (b8 b9 b10:Nat), Int.toNat ((Prod.snd x'1).1)+Int.toNat ((Prod.snd x'2).1)≤b10→b10≤9223372036854775807→(decide (Int.toNat ((Prod.snd x'1).1)=0)=true→Int.toNat ((Prod.snd x'2).1)=0→b10=0)→(0:Int)≤IntKind.i64.wrap (IntKind.i64.wrap
      ((0:Int)+(1:Int))+(1:Int))∧IntKind.i64.wrap (IntKind.i64.wrap ((0:Int)+(1:Int))+(1:Int)) < (↑(3:Nat):Int)∧(b5=b5∧0=0)∧2 < 3∧(b8=b8∧b9=b9)∧((decide (Int.toNat ((Prod.snd x'1).1)=0)&&decide (Int.toNat ((Prod.snd x'2).1)=0))=true→(decide (Int.toNat ((Prod.snd x'1).1)=0)&&decide (Int.toNat ((Prod.snd x'2).1)=0))=true)∧0=0∧Int.toNat ((Prod.snd x'1).1)+Int.toNat ((Prod.snd x'2).1)≤Int.toNat ((Prod.snd
      x'1).1)+Int.toNat ((Prod.snd x'2).1)∧b10≤b10∧(Int.toNat ((Prod.snd x'1).1)+Int.toNat ((Prod.snd x'2).1)+Int.toNat ((Prod.snd x'3).1))*1≤140737488355328∧Int.toNat ((Prod.snd x'1).1)+Int.toNat ((Prod.snd x'2).1)+Int.toNat ((Prod.snd x'3).1)≤9223372036854775807∧Int.toNat ((Prod.snd x'3).1)≤Int.toNat ((Prod.snd x'3).1)∧(y3.1=y3.1∧y3.2.1=y3.2.1)∧∀ (b11 b12 b13:Nat), Int.toNat ((Prod.snd
      x'1).1)+Int.toNat ((Prod.snd x'2).1)+Int.toNat ((Prod.snd x'3).1)≤b13→b13≤9223372036854775807→((decide (Int.toNat ((Prod.snd x'1).1)=0)&&decide (Int.toNat ((Prod.snd x'2).1)=0))=true→Int.toNat ((Prod.snd x'3).1)=0→b13=0)→((x1.1=x1.1∧x1.2.1=x1.2.1)∧(false=true→false=true)∧0=0∧Int.toNat (3:Int)≤3∧Int.toNat (3:Int)≤x1.2.2∧(Int.toNat (3:Int)+(Int.toNat ((Prod.snd x'1).1)+Int.toNat ((Prod.snd
      x'2).1)+Int.toNat ((Prod.snd x'3).1)))*1≤140737488355328∧Int.toNat (3:Int)+(Int.toNat ((Prod.snd x'1).1)+Int.toNat ((Prod.snd x'2).1)+Int.toNat ((Prod.snd x'3).1))≤9223372036854775807∧Int.toNat ((Prod.snd x'1).1)+Int.toNat ((Prod.snd x'2).1)+Int.toNat ((Prod.snd x'3).1)≤Int.toNat ((Prod.snd x'1).1)+Int.toNat ((Prod.snd x'2).1)+Int.toNat ((Prod.snd x'3).1)∧(b11=b11∧b12=b12)∧∀ (b14 b15 b16:Nat),
      Int.toNat (3:Int)+(Int.toNat ((Prod.snd x'1).1)+Int.toNat ((Prod.snd x'2).1)+Int.toNat ((Prod.snd x'3).1))≤b16→b16≤9223372036854775807→(false=true→Int.toNat ((Prod.snd x'1).1)+Int.toNat ((Prod.snd x'2).1)+Int.toNat ((Prod.snd x'3).1)=0→b16=0)→((b14=b14∧b15=b15)∧(0=0∧∀ (k2:Nat), k2 < Int.toNat (3:Int)+(Int.toNat ((Prod.snd x'1).1)+Int.toNat ((Prod.snd x'2).1)+Int.toNat ((Prod.snd
      x'3).1))→true=true)∧∀ (x'4:Eng.OwnD Int × Unit), x'4=(Eng.OwnD.mk b14 b15 (Int.toNat (3:Int)+(Int.toNat ((Prod.snd x'1).1)+Int.toNat ((Prod.snd x'2).1)+Int.toNat ((Prod.snd x'3).1))) b16 (false&&decide (Int.toNat ((Prod.snd x'1).1)+Int.toNat ((Prod.snd x'2).1)+Int.toNat ((Prod.snd x'3).1)=0)) (Int.toNat (3:Int)+(Int.toNat ((Prod.snd x'1).1)+Int.toNat ((Prod.snd x'2).1)+Int.toNat ((Prod.snd
      x'3).1))) b16 (false&&decide (Int.toNat ((Prod.snd x'1).1)+Int.toNat ((Prod.snd x'2).1)+Int.toNat ((Prod.snd x'3).1)=0)) fun (k_1:Nat) ↦ if k_1 < Int.toNat (3:Int) then (↑(UInt8.toNat (List.getD (byI k 1++byI nr 2) k_1 0)):Int) else if k_1 - Int.toNat (3:Int) < Int.toNat ((Prod.snd x'1).1)+Int.toNat ((Prod.snd x'2).1) then if k_1 - Int.toNat (3:Int) < Int.toNat ((Prod.snd x'1).1) then
      (↑(UInt8.toNat (List.getD (byI (Prod.fst x'1) (Int.toNat ((Prod.snd x'1).1))) (k_1 - Int.toNat (3:Int)) 0)):Int) else (↑(UInt8.toNat (List.getD (byI (Prod.fst x'2) (Int.toNat ((Prod.snd x'2).1))) (k_1 - Int.toNat (3:Int) - Int.toNat ((Prod.snd x'1).1)) 0)):Int) else (↑(UInt8.toNat (List.getD (byI (Prod.fst x'3) (Int.toNat ((Prod.snd x'3).1))) (k_1 - Int.toNat (3:Int) - (Int.toNat ((Prod.snd
      x'1).1)+Int.toNat ((Prod.snd x'2).1))) 0)):Int), ())→Eng.OwnD.n (Prod.fst x'4)≤4294967296∧Eng.OwnD.n (Prod.fst x'4)≤Eng.OwnD.m (Prod.fst x'4)∧Eng.OwnD.c (Prod.fst x'4)≤Eng.OwnD.cap (Prod.fst x'4)∧(Eng.OwnD.z (Prod.fst x'4)=true→Eng.OwnD.ez (Prod.fst x'4)=true)∧∀ (y4:Unit), True→∀ (s1:List UInt8), s1=sealL (Byt.of (Eng.OwnD.f (Prod.fst x'4)) (Eng.OwnD.n (Prod.fst x'4)))→s1=putU (uOf (k, nr, nm, sz,
      sm, of, da, wy, o, me, Eng.RowD.mk b oo n c z f, ()))∧(0:Int)=putE (uOf (k, nr, nm, sz, sm, of, da, wy, o, me, Eng.RowD.mk b oo n c z f, ())))∧True)∧True))))))∧True)∧True)∧True)∧True)∧True)∧True)∧(k=(4:Int)→(0:Int)≤4∧4 < (↑(7:Nat):Int)∧(b1=b1∧0=0)∧(∀ (b5:Nat), (b5=b5∧0=0)∧∀ (x'1:Int × Int × Unit), x'1=(wy, (1:Int), ())→((0:Int)≤Prod.fst x'1∧Prod.fst x'1≤(4294967295:Int))∧((1:Int)≤(Prod.snd
      x'1).1∧(Prod.snd x'1).1≤(8:Int))∧∀ (y1:Nat × Nat × Nat), Int.toNat ((Prod.snd x'1).1)≤y1.2.2∧y1.2.2≤9223372036854775807→((x1.1=x1.1∧x1.2.1=x1.2.1)∧(false=true→false=true)∧0=0∧Int.toNat (3:Int)≤3∧Int.toNat (3:Int)≤x1.2.2∧(Int.toNat (3:Int)+Int.toNat ((Prod.snd x'1).1))*1≤140737488355328∧Int.toNat (3:Int)+Int.toNat ((Prod.snd x'1).1)≤9223372036854775807∧Int.toNat ((Prod.snd x'1).1)≤Int.toNat
      ((Prod.snd x'1).1)∧(y1.1=y1.1∧y1.2.1=y1.2.1)∧∀ (b6 b7 b8:Nat), Int.toNat (3:Int)+Int.toNat ((Prod.snd x'1).1)≤b8→b8≤9223372036854775807→(false=true→Int.toNat ((Prod.snd x'1).1)=0→b8=0)→((b6=b6∧b7=b7)∧(0=0∧∀ (k2:Nat), k2 < Int.toNat (3:Int)+Int.toNat ((Prod.snd x'1).1)→true=true)∧∀ (x'2:Eng.OwnD Int × Unit), x'2=(Eng.OwnD.mk b6 b7 (Int.toNat (3:Int)+Int.toNat ((Prod.snd x'1).1)) b8 (false&&decide
      (Int.toNat ((Prod.snd x'1).1)=0)) (Int.toNat (3:Int)+Int.toNat ((Prod.snd x'1).1)) b8 (false&&decide (Int.toNat ((Prod.snd x'1).1)=0)) fun (k_1:Nat) ↦ if k_1 < Int.toNat (3:Int) then (↑(UInt8.toNat (List.getD (byI k 1++byI nr 2) k_1 0)):Int) else (↑(UInt8.toNat (List.getD (byI (Prod.fst x'1) (Int.toNat ((Prod.snd x'1).1))) (k_1 - Int.toNat (3:Int)) 0)):Int), ())→Eng.OwnD.n (Prod.fst
      x'2)≤4294967296∧Eng.OwnD.n (Prod.fst x'2)≤Eng.OwnD.m (Prod.fst x'2)∧Eng.OwnD.c (Prod.fst x'2)≤Eng.OwnD.cap (Prod.fst x'2)∧(Eng.OwnD.z (Prod.fst x'2)=true→Eng.OwnD.ez (Prod.fst x'2)=true)∧∀ (y2:Unit), True→∀ (s1:List UInt8), s1=sealL (Byt.of (Eng.OwnD.f (Prod.fst x'2)) (Eng.OwnD.n (Prod.fst x'2)))→s1=putU (uOf (k, nr, nm, sz, sm, of, da, wy, o, me, Eng.RowD.mk b oo n c z f, ()))∧(0:Int)=putE (uOf
      (k, nr, nm, sz, sm, of, da, wy, o, me, Eng.RowD.mk b oo n c z f, ())))∧True)∧True)∧True)∧(k=(5:Int)→(0:Int)≤5∧5 < (↑(7:Nat):Int)∧(b1=b1∧0=0)∧(n≤n∧(∀ (k2:Nat), k2 < n→true=true)∧(b=b∧oo=oo)∧∀ (x'1:(Int × Int × List UInt8 × Int × Int × Int × List UInt8 × Int × Int × Bool × Eng.RowD (Int × Int × Unit) × Unit) × Unit), x'1=((k, nr, nm, sz, sm, of, da, wy, o, me, Eng.RowD.mk b oo n c z f, ()),
      ())→Eng.RowD.n ((((((((((((Prod.fst x'1).2).2.2)).2).2).2).2).2).2).2).1)≤20∧gapsOk (-1:Int) (gapsOf ((((((((((((Prod.fst x'1).2).2.2)).2).2).2).2).2).2).2).1))∧∀ (y1:Nat × Nat × Nat), 1+4*Eng.RowD.n ((((((((((((Prod.fst x'1).2).2.2)).2).2).2).2).2).2).2).1)≤y1.2.2∧y1.2.2≤9223372036854775807→((x1.1=x1.1∧x1.2.1=x1.2.1)∧(false=true→false=true)∧0=0∧Int.toNat (3:Int)≤3∧Int.toNat
      (3:Int)≤x1.2.2∧(Int.toNat (3:Int)+(1+4*Eng.RowD.n ((((((((((((Prod.fst x'1).2).2.2)).2).2).2).2).2).2).2).1)))*1≤140737488355328∧Int.toNat (3:Int)+(1+4*Eng.RowD.n ((((((((((((Prod.fst x'1).2).2.2)).2).2).2).2).2).2).2).1))≤9223372036854775807∧1+4*Eng.RowD.n ((((((((((((Prod.fst x'1).2).2.2)).2).2).2).2).2).2).2).1)≤1+4*Eng.RowD.n ((((((((((((Prod.fst
      x'1).2).2.2)).2).2).2).2).2).2).2).1)∧(y1.1=y1.1∧y1.2.1=y1.2.1)∧∀ (b6 b7 b8:Nat), Int.toNat (3:Int)+(1+4*Eng.RowD.n ((((((((((((Prod.fst x'1).2).2.2)).2).2).2).2).2).2).2).1))≤b8→b8≤9223372036854775807→(false=true→1+4*Eng.RowD.n ((((((((((((Prod.fst x'1).2).2.2)).2).2).2).2).2).2).2).1)=0→b8=0)→((b6=b6∧b7=b7)∧(0=0∧∀ (k3:Nat), k3 < Int.toNat (3:Int)+(1+4*Eng.RowD.n ((((((((((((Prod.fst
      x'1).2).2.2)).2).2).2).2).2).2).2).1))→true=true)∧∀ (x'2:Eng.OwnD Int × Unit), x'2=(Eng.OwnD.mk b6 b7 (Int.toNat (3:Int)+(1+4*Eng.RowD.n ((((((((((((Prod.fst x'1).2).2.2)).2).2).2).2).2).2).2).1))) b8 (false&&decide (1+4*Eng.RowD.n ((((((((((((Prod.fst x'1).2).2.2)).2).2).2).2).2).2).2).1)=0)) (Int.toNat (3:Int)+(1+4*Eng.RowD.n ((((((((((((Prod.fst x'1).2).2.2)).2).2).2).2).2).2).2).1))) b8
      (false&&decide (1+4*Eng.RowD.n ((((((((((((Prod.fst x'1).2).2.2)).2).2).2).2).2).2).2).1)=0)) fun (k_1:Nat) ↦ if k_1 < Int.toNat (3:Int) then (↑(UInt8.toNat (List.getD (byI k 1++byI nr 2) k_1 0)):Int) else (↑(UInt8.toNat (List.getD (pgL (((((((((((Prod.fst x'1).2).2.2)).2).2).2).2).2).2).1) (gapsOf ((((((((((((Prod.fst x'1).2).2.2)).2).2).2).2).2).2).2).1))) (k_1 - Int.toNat (3:Int)) 0)):Int),
      ())→Eng.OwnD.n (Prod.fst x'2)≤4294967296∧Eng.OwnD.n (Prod.fst x'2)≤Eng.OwnD.m (Prod.fst x'2)∧Eng.OwnD.c (Prod.fst x'2)≤Eng.OwnD.cap (Prod.fst x'2)∧(Eng.OwnD.z (Prod.fst x'2)=true→Eng.OwnD.ez (Prod.fst x'2)=true)∧∀ (y2:Unit), True→∀ (s1:List UInt8), s1=sealL (Byt.of (Eng.OwnD.f (Prod.fst x'2)) (Eng.OwnD.n (Prod.fst x'2)))→s1=putU (uOf (k, nr, nm, sz, sm, of, da, wy, o, me, Eng.RowD.mk b oo n c z f,
      ()))∧(0:Int)=putE (uOf (k, nr, nm, sz, sm, of, da, wy, o, me, Eng.RowD.mk b oo n c z f, ())))∧True)∧True)∧True)∧(k=(6:Int)→(0:Int)≤6∧6 < (↑(7:Nat):Int)∧(b1=b1∧0=0)∧(∀ (b6:Nat), (b6=b6∧0=0)∧∀ (x'2:Int × Int × Unit), x'2=(o, (1:Int), ())→((0:Int)≤Prod.fst x'2∧Prod.fst x'2≤(4294967295:Int))∧((1:Int)≤(Prod.snd x'2).1∧(Prod.snd x'2).1≤(8:Int))∧∀ (y1:Nat × Nat × Nat), Int.toNat ((Prod.snd
      x'2).1)≤y1.2.2∧y1.2.2≤9223372036854775807→((x1.1=x1.1∧x1.2.1=x1.2.1)∧(false=true→false=true)∧0=0∧Int.toNat (3:Int)≤3∧Int.toNat (3:Int)≤x1.2.2∧(Int.toNat (3:Int)+Int.toNat ((Prod.snd x'2).1))*1≤140737488355328∧Int.toNat (3:Int)+Int.toNat ((Prod.snd x'2).1)≤9223372036854775807∧Int.toNat ((Prod.snd x'2).1)≤Int.toNat ((Prod.snd x'2).1)∧(y1.1=y1.1∧y1.2.1=y1.2.1)∧∀ (b7 b8 b9:Nat), Int.toNat
      (3:Int)+Int.toNat ((Prod.snd x'2).1)≤b9→b9≤9223372036854775807→(false=true→Int.toNat ((Prod.snd x'2).1)=0→b9=0)→((b7=b7∧b8=b8)∧(0=0∧∀ (k3:Nat), k3 < Int.toNat (3:Int)+Int.toNat ((Prod.snd x'2).1)→true=true)∧∀ (x'3:Eng.OwnD Int × Unit), x'3=(Eng.OwnD.mk b7 b8 (Int.toNat (3:Int)+Int.toNat ((Prod.snd x'2).1)) b9 (false&&decide (Int.toNat ((Prod.snd x'2).1)=0)) (Int.toNat (3:Int)+Int.toNat ((Prod.snd
      x'2).1)) b9 (false&&decide (Int.toNat ((Prod.snd x'2).1)=0)) fun (k_1:Nat) ↦ if k_1 < Int.toNat (3:Int) then (↑(UInt8.toNat (List.getD (byI k 1++byI nr 2) k_1 0)):Int) else (↑(UInt8.toNat (List.getD (byI (Prod.fst x'2) (Int.toNat ((Prod.snd x'2).1))) (k_1 - Int.toNat (3:Int)) 0)):Int), ())→Eng.OwnD.n (Prod.fst x'3)≤4294967296∧Eng.OwnD.n (Prod.fst x'3)≤Eng.OwnD.m (Prod.fst x'3)∧Eng.OwnD.c (Prod.fst
      x'3)≤Eng.OwnD.cap (Prod.fst x'3)∧(Eng.OwnD.z (Prod.fst x'3)=true→Eng.OwnD.ez (Prod.fst x'3)=true)∧∀ (y2:Unit), True→∀ (s1:List UInt8), s1=sealL (Byt.of (Eng.OwnD.f (Prod.fst x'3)) (Eng.OwnD.n (Prod.fst x'3)))→s1=putU (uOf (k, nr, nm, sz, sm, of, da, wy, o, me, Eng.RowD.mk b oo n c z f, ()))∧(0:Int)=putE (uOf (k, nr, nm, sz, sm, of, da, wy, o, me, Eng.RowD.mk b oo n c z f,
      ())))∧True)∧True)∧True)∧True)) (by kernel_rfl) ?_
  try simp only [eq_self, true_and, and_true, Nat.le_refl, implies_true, forall_const, Bool.false_eq_true, Bool.true_eq_false, reduceCtorEq, false_imp_iff, true_imp_iff, Int.toNat_zero, Int.toNat_natCast, Nat.zero_lt_one, Int.le_refl, allGet]
  obtain ⟨hp1, ⟨sm0, sm1⟩, _⟩ := hp
  dsimp only at sm0 sm1
  refine ⟨hp1, fun t1 h1 => ⟨fun q => ?_, fun q => ?_⟩⟩
  · have : ¬ okU (uOf (k, nr, nm, sz, sm, of, da, wy, o, me, ⟨b, oo, n, c, z, f⟩, ())) := by
      rw [h1] at q
      simpa using q
    rw [putU, putE, if_neg this, if_neg this]
    exact ⟨rfl, rfl⟩
  have hok : okU (uOf (k, nr, nm, sz, sm, of, da, wy, o, me, ⟨b, oo, n, c, z, f⟩, ())) := by
    rw [h1] at q
    simpa using q
  have hok' := hok
  obtain ⟨⟨nr0, nr1⟩, hfit, honly⟩ := hok'
  have nr0 : 0 ≤ nr := nr0
  have nr1 : nr ≤ 65535 := nr1
  have hk : k = 1 ∨ k = 2 ∨ k = 3 ∨ k = 4 ∨ k = 5 ∨ k = 6 := by
    by_cases k1 : k = 1; exact .inl k1
    by_cases k2 : k = 2; exact .inr (.inl k2)
    by_cases k3 : k = 3; exact .inr (.inr (.inl k3))
    by_cases k4 : k = 4; exact .inr (.inr (.inr (.inl k4)))
    by_cases k5 : k = 5; exact .inr (.inr (.inr (.inr (.inl k5))))
    by_cases k6 : k = 6; exact .inr (.inr (.inr (.inr (.inr k6))))
    simp [fitU, uOf, k1, k2, k3, k4, k5, k6] at hfit
  have hlen := headU_len hok
  have hfin : ∀ (bd : List UInt8), headU (uOf (k, nr, nm, sz, sm, of, da, wy, o, me, ⟨b, oo, n, c, z, f⟩, ())) = (byI k 1 ++ byI nr 2) ++ bd → ∀ (g : Nat → Int) (m : Nat), m = 3 + bd.length → (∀ q, q < m → g q = if q < 3 then (((byI k 1 ++ byI nr 2).getD q 0).toNat : Int) else ((bd.getD (q - 3) 0).toNat : Int)) →
      ∀ s1, s1 = sealL (Byt.of g m) → s1 = putU (uOf (k, nr, nm, sz, sm, of, da, wy, o, me, ⟨b, oo, n, c, z, f⟩, ())) ∧ 0 = putE (uOf (k, nr, nm, sz, sm, of, da, wy, o, me, ⟨b, oo, n, c, z, f⟩, ())) := by
    intro bd hb g m hm hg s1 hs
    have : Byt.of g m = headU (uOf (k, nr, nm, sz, sm, of, da, wy, o, me, ⟨b, oo, n, c, z, f⟩, ())) := by
      rw [hb]
      have hl : ((byI k 1 ++ byI nr 2) ++ bd).length = m := by rw [List.length_append, List.length_append, byI_len, byI_len, hm]
      rw [← byt_rowG ((byI k 1 ++ byI nr 2) ++ bd), hl]
      refine byt_congr fun q hq => ?_
      rw [hg q hq, getD_app (byI k 1 ++ byI nr 2) bd]
      have h3 : (byI k 1 ++ byI nr 2).length = 3 := by rw [List.length_append, byI_len, byI_len]
      rw [h3]
      split <;> rfl
    rw [hs, this, putU, putE, if_pos hok, if_pos hok]
    exact ⟨rfl, rfl⟩
  have hbl : ∀ (bd : List UInt8), headU (uOf (k, nr, nm, sz, sm, of, da, wy, o, me, ⟨b, oo, n, c, z, f⟩, ())) = (byI k 1 ++ byI nr 2) ++ bd → bd.length ≤ 162 := fun bd hb => by
    rw [hb, List.length_append, List.length_append, byI_len, byI_len] at hlen
    omega
  have t2 : Int.toNat 2 = 2 := rfl
  have t3 : Int.toNat 3 = 3 := rfl
  have t1' : Int.toNat 1 = 1 := rfl
  have t4 : Int.toNat 4 = 4 := rfl
  have t0 : Int.toNat 0 = 0 := rfl
  have hput : ∀ (v1 : Int), v1 = IntKind.u8.wrap k → ∀ q : Nat, q < 3 → (if q < 1 then v1 else (((byI nr 2).getD (q - 1) 0).toNat : Int)) = ((byI k 1 ++ byI nr 2).getD q 0).toNat := by
    intro v1 hv q hq
    rw [getD_app, byI_len]
    by_cases h0 : q < 1
    · obtain rfl : q = 0 := by omega
      rw [if_pos h0, if_pos h0, hv, IntKind.wrap_u8]
      have : (byI k 1).getD 0 0 = UInt8.ofNat (k.toNat / 256 ^ 0 % 256) := rfl
      rw [this]
      simp
      omega
    · rw [if_neg h0, if_neg h0]
  refine ⟨fun v1 g1 => ⟨?_, ?_⟩, ?_⟩
  · rintro x rfl
    refine ⟨⟨nr0, by dsimp only; omega⟩, ⟨by dsimp only; omega, by dsimp only; omega⟩, fun y hy => ⟨by dsimp only; omega, by dsimp only; omega, fun b1 b2 b3 g2 g3 => ⟨(b1, b2, b3), ⟨rfl, rfl, rfl, rfl, rfl⟩, ⟨⟨rfl, rfl, rfl, Nat.le_refl _, g2, Nat.le_refl _⟩, hput v1 g1⟩, g2, g3⟩⟩⟩
  · rintro x rfl
    refine ⟨⟨nr0, by dsimp only; omega⟩, ⟨by dsimp only; omega, by dsimp only; omega⟩, fun y hy => ⟨by dsimp only; omega, by dsimp only; omega, fun b1 b2 b3 g2 g3 => ⟨(b1, b2, b3), ⟨rfl, rfl, rfl, rfl, rfl⟩, ⟨⟨rfl, rfl, rfl, Nat.le_refl _, g2, Nat.le_refl _⟩, hput v1 g1⟩, g2, g3⟩⟩⟩
  rintro ⟨b1, o1, c1⟩ ⟨c10, c11⟩
  dsimp only at c10 c11 ⊢
  refine ⟨by decide, by omega, by omega, fun hk => ?_, fun hk => ?_, fun hk => ?_, fun hk => ?_, fun hk => ?_, fun hk => ?_⟩
  · subst hk
    obtain ⟨⟨_, l1⟩, z0, z1⟩ := (hfit : inR nm.length 1 32 ∧ inR sz 0 65535)
    have l1 : (nm.length : Int) ≤ 32 := l1
    have z0 : 0 ≤ sz := z0
    have z1 : sz ≤ 65535 := z1
    have hb : headU (uOf (1, nr, nm, sz, sm, of, da, wy, o, me, ⟨b, oo, n, c, z, f⟩, ())) = (byI 1 1 ++ byI nr 2) ++ (byI sz 2 ++ nm) := by rw [List.append_assoc]; rfl
    refine ⟨by decide, by decide, ?_⟩
    rintro x rfl
    simp only [t2, t3]
    refine ⟨⟨z0, by omega⟩, ⟨by omega, by omega⟩, fun y hy => ⟨by omega, by omega, fun b2 g2 g3 => ⟨by omega, by omega, by omega, by omega, fun b3 b4 b5 g4 g5 => ?_⟩⟩⟩
    rintro x rfl
    refine ⟨by dsimp only; omega, Nat.le_refl _, Nat.le_refl _, fun q => q, hfin _ hb _ _ (by dsimp only; rw [List.length_append, byI_len]) fun q hq => ?_⟩
    dsimp only
    rw [getD_app (byI sz 2) nm, byI_len]
    split
    · rfl
    · split <;> rfl
  · subst hk
    obtain ⟨⟨_, l1⟩, z0, z1⟩ := (hfit : inR da.length 1 160 ∧ inR of 0 (65535 - da.length))
    have l1 : (da.length : Int) ≤ 160 := l1
    have z0 : 0 ≤ of := z0
    have z1 : of ≤ 65535 - da.length := z1
    have hb : headU (uOf (2, nr, nm, sz, sm, of, da, wy, o, me, ⟨b, oo, n, c, z, f⟩, ())) = (byI 2 1 ++ byI nr 2) ++ (byI of 2 ++ da) := by rw [List.append_assoc]; rfl
    refine ⟨by decide, by decide, ?_⟩
    rintro x rfl
    simp only [t2, t3]
    refine ⟨⟨z0, by omega⟩, ⟨by omega, by omega⟩, fun y hy => ⟨by omega, by omega, fun b2 g2 g3 => ⟨by omega, by omega, by omega, by omega, fun b3 b4 b5 g4 g5 => ?_⟩⟩⟩
    rintro x rfl
    refine ⟨by dsimp only; omega, Nat.le_refl _, Nat.le_refl _, fun q => q, hfin _ hb _ _ (by dsimp only; rw [List.length_append, byI_len]) fun q hq => ?_⟩
    dsimp only
    rw [getD_app (byI of 2) da, byI_len]
    split
    · rfl
    · split <;> rfl
  · subst hk
    obtain ⟨⟨w0, w1⟩, z0, z1⟩ := (hfit : inR wy 0 1 ∧ inR sz 0 65535)
    have w0 : 0 ≤ wy := w0
    have w1 : wy ≤ 1 := w1
    have z0 : 0 ≤ sz := z0
    have z1 : sz ≤ 65535 := z1
    have hb : headU (uOf (3, nr, nm, sz, sm, of, da, wy, o, me, ⟨b, oo, n, c, z, f⟩, ())) = (byI 3 1 ++ byI nr 2) ++ (byI wy 1 ++ (byI sz 2 ++ byI sm 4)) := by rw [List.append_assoc]; rfl
    refine ⟨by decide, by decide, fun v2 e2 => ?_⟩
    have e2 : v2 = sm := e2.trans (w64_id (by omega) (by omega))
    subst e2
    rintro x rfl
    refine ⟨⟨w0, by dsimp only; omega⟩, ⟨by dsimp only; omega, by dsimp only; omega⟩, fun y1 hy1 => ?_⟩
    rintro x rfl
    refine ⟨⟨z0, by dsimp only; omega⟩, ⟨by dsimp only; omega, by dsimp only; omega⟩, fun y2 hy2 => ?_⟩
    rintro x rfl
    simp only [t1', t2, t3, t4]
    refine ⟨⟨sm0, sm1⟩, ⟨by omega, by omega⟩, fun y3 hy3 => ⟨by decide, by decide, fun v3 e3 v4 e4 => ?_⟩⟩
    have e4 : v4 = 1 := by rw [e4, e3]; rfl
    refine ⟨fun q => by have := of_decide_eq_true q; omega, fun _ => ⟨by decide, by decide, by decide, fun v5 e5 v6 e6 => ?_⟩⟩
    have e6 : v6 = 3 := by rw [e6, e5, e4]; rfl
    refine ⟨fun q => by have := of_decide_eq_true q; omega, fun _ => ⟨by decide, by decide, by decide, fun v7 e7 v8 e8 => ?_⟩⟩
    have e8 : v8 = 7 := by rw [e8, e7, e6]; rfl
    refine ⟨fun q => by have := of_decide_eq_true q; omega, fun _ => ⟨fun q => by have := of_decide_eq_true q; omega, fun _ v9 e9 v10 e10 v11 e11 v12 e12 => ?_⟩⟩
    have e12 : v12 = 7 := by rw [e12, e11, e10, e9, e8]; rfl
    refine ⟨fun _ v13 e13 => ?_, fun q => by have := of_decide_eq_false q; omega⟩
    have e13 : v13 = 0 := e13
    subst e12 e13
    refine ⟨by decide, by decide, by decide, by decide, by decide, by decide, fun b6 g1 g2 g3 v14 e14 => ?_⟩
    have e14 : v14 = 0 := e14
    subst e14
    simp only [t0, Nat.zero_add]
    refine ⟨by omega, by omega, by decide, by decide, fun q => q, by decide, by decide, by decide, fun b9 g4 g5 g6 => ⟨by decide, by decide, by decide, fun q => q, by decide, by decide, fun b12 g7 g8 g9 => ⟨by decide, by decide, by decide, fun q => q, by decide, by decide, fun b15 g10 g11 g12 => ⟨by decide, by omega, by decide, by decide, fun b17 b18 b19 g13 g14 => ?_⟩⟩⟩⟩
    rintro x rfl
    refine ⟨by dsimp only; omega, Nat.le_refl _, Nat.le_refl _, fun q => q, hfin _ hb _ _ (by simp only [List.length_append, byI_len]) fun q hq => ?_⟩
    dsimp only
    have hq : q < 10 := hq
    rw [getD_app (byI wy 1), getD_app (byI sz 2), byI_len, byI_len]
    by_cases q1 : q < 3
    · rw [if_pos q1, if_pos q1]
    · rw [if_neg q1, if_neg q1]
      by_cases q2 : q - 3 < 1
      · rw [if_pos (by omega), if_pos q2, if_neg (by omega), if_pos q2]; rfl
      · rw [if_neg q2]
        by_cases q3 : q - 3 - 1 < 2
        · rw [if_pos (by omega), if_neg q2, if_pos q3]
        · rw [if_neg (by omega), if_neg q3, Nat.sub_sub (q - 3) 1 2, if_neg q2]
  · subst hk
    obtain ⟨w0, w1⟩ := (hfit : inR wy 0 4)
    have w0 : 0 ≤ wy := w0
    have w1 : wy ≤ 4 := w1
    have hb : headU (uOf (4, nr, nm, sz, sm, of, da, wy, o, me, ⟨b, oo, n, c, z, f⟩, ())) = (byI 4 1 ++ byI nr 2) ++ byI wy 1 := by rw [List.append_assoc]; rfl
    refine ⟨by decide, by decide, ?_⟩
    rintro x rfl
    simp only [t1', t3]
    refine ⟨⟨w0, by omega⟩, ⟨by omega, by omega⟩, fun y hy => ⟨by omega, by omega, by decide, by decide, fun b3 b4 b5 g4 g5 => ?_⟩⟩
    rintro x rfl
    exact ⟨by dsimp only; omega, Nat.le_refl _, Nat.le_refl _, fun q => q, hfin _ hb _ _ (by rw [byI_len]) fun q hq => rfl⟩
  · subst hk
    obtain ⟨hg, hgl, _⟩ := (hfit : gapsOk (-1) (gapsOf ⟨b, oo, n, c, z, f⟩) ∧ (gapsOf ⟨b, oo, n, c, z, f⟩).length ≤ 20 ∧ (me = true ∨ 0 < (gapsOf ⟨b, oo, n, c, z, f⟩).length))
    have hgl : (gapsOf ⟨b, oo, n, c, z, f⟩).length ≤ 20 := hgl
    rw [gapsOf_len] at hgl
    have hgl : n ≤ 20 := hgl
    have hb : headU (uOf (5, nr, nm, sz, sm, of, da, wy, o, me, ⟨b, oo, n, c, z, f⟩, ())) = (byI 5 1 ++ byI nr 2) ++ pgL me (gapsOf ⟨b, oo, n, c, z, f⟩) := by rw [List.append_assoc]; rfl
    refine ⟨by decide, by decide, ?_⟩
    rintro x rfl
    simp only [t3]
    refine ⟨hgl, hg, fun y hy => ⟨by omega, by omega, by omega, by omega, fun b3 b4 b5 g4 g5 => ?_⟩⟩
    rintro x rfl
    have hl : (pgL me (gapsOf ⟨b, oo, n, c, z, f⟩)).length = 1 + 4 * n := by rw [pgL_len, gapsOf_len]
    exact ⟨by dsimp only; omega, Nat.le_refl _, Nat.le_refl _, fun q => q, hfin _ hb _ _ (by rw [hl]) fun q hq => rfl⟩
  · subst hk
    have hf : o = 3 ∨ o = 4 := hfit
    have hf0 : 3 ≤ o ∧ o ≤ 4 := by omega
    obtain ⟨hf0, hf1⟩ := hf0
    have hb : headU (uOf (6, nr, nm, sz, sm, of, da, wy, o, me, ⟨b, oo, n, c, z, f⟩, ())) = (byI 6 1 ++ byI nr 2) ++ byI o 1 := by rw [List.append_assoc]; rfl
    refine ⟨by decide, by decide, ?_⟩
    rintro x rfl
    simp only [t1', t3]
    refine ⟨⟨by omega, by omega⟩, ⟨by omega, by omega⟩, fun y hy => ⟨by omega, by omega, by decide, by decide, fun b3 b4 b5 g4 g5 => ?_⟩⟩
    rintro x rfl
    exact ⟨by dsimp only; omega, Nat.le_refl _, Nat.le_refl _, fun q => q, hfin _ hb _ _ (by rw [byI_len]) fun q hq => rfl⟩
end Rc
