/-
  OWN WORK. Receiver: check.
-/
import Derived.Test.YtjhcndahjhkahaaGreatLD
namespace Rc
open Go Go.Proofs Eng
set_option linter.unusedVariables false
set_option linter.unusedSimpArgs false
set_option maxRecDepth 100000
set_option maxHeartbeats 4000000
abbrev rcV (x : TS) : SV := .agg [.int .i64 10, .int .i64 3, .bool false, .slice 501 x.bO x.oO [] 1 0 1 x.cO false, nilSlice]
abbrev rcE (bR : Nat) (x : TS) : Ent := ⟨1, bR, 0, 5, 1, fun _ => rcV x, true, true, 1, 64, false, none⟩
abbrev outE (x : J27) : Ent := ⟨510, x.bl, x.ol, 4, x.nl, fun _ => .agg [.int .i64 3, .int .i64 0, .str x.enm, .str x.efl], true, false, x.cl, 43, decide (x.nl = 0), none⟩
abbrev outS (x : J27) : SV := .slice 510 x.bl x.ol [] 4 0 x.nl x.cl (decide (x.nl = 0))
def ocapOk (x : J27) : Prop := x.nl ≤ x.cl ∧ x.cl ≤ 9223372036854775807 ∧ (x.nl = 0 → x.cl = 0)
theorem ocap0 {ts : TS} {bl ol : Nat} {enm efl : List UInt8} : ocapOk ⟨ts, 0, bl, ol, 0, enm, efl⟩ := ⟨Nat.le_refl _, by show 0 ≤ 9223372036854775807; decide, fun _ => rfl⟩
theorem ocap1 {ts : TS} {bl ol : Nat} {enm efl : List UInt8} : ocapOk ⟨ts, 1, bl, ol, 1, enm, efl⟩ := ⟨Nat.le_refl _, by show 1 ≤ 9223372036854775807; decide, fun q => by cases q⟩
abbrev txt (x : TS) : List UInt8 := Byt.of x.tx.2.2.2.2 x.tx.2.2.1
/-- All that has come: the metadata, the bytes. -/
def finP (x : TS) : Prop := x.tme = true ∧ ∀ k : Nat, (k : Int) < x.la → Cov x.h x.ge k
def chkA : LA := ⟨0, Nat × TS, [0, 1], fun x => [.ptr 1 x.1 0 [.elt 0 5], .ptr 502 x.2.bT 0 [.elt 0 15]], [1, 502, 503, 504], fun x => [rcE x.1 x.2, trE x.2, txE x.2.tx, mpE x.2],
  fun x => x.2.ten = true ∧ Runs x.2.tx.2.2.1 x.2.h x.2.ge ∧ (x.2.tx.2.2.1 : Int) ≤ x.2.la ∧ x.2.la ≤ 65535 ∧ tcapOk x.2.tx ∧ (finP x.2 → x.2.sz = x.2.la ∧ crc32 (txt x.2) = x.2.sm), fun _ => 0⟩
def chkP (x : Nat × TS) (y : J27) : Prop := ocapOk y ∧ ((finP x.2 ∧ y.ts = { x.2 with ph := 3, tr := 1, wy := 0, cl := 10, du := y.ts.du } ∧ y.nl = 1 ∧ y.enm = x.2.nm ∧ y.efl = txt x.2) ∨ (¬ finP x.2 ∧ y.ts = x.2 ∧ y.nl = 0))
def chkB (x : Nat × TS) (y : J27) : SV × Hp := (outS y, [outE y, rcE x.1 y.ts, trE y.ts, txE y.ts.tx, mpE y.ts])
def chkC := bxC chkA (fun _ => J27) chkB chkP
def ECK : Env := (((E0.addP 96 sum32).addE 34 gapC2).inl 32 Tryz.f32 fun _ _ => []).inl 39 Tryz.f39 fun _ _ => [.raw 5, .det 6, .draw 6 (.take 0 (.take 1 (.take 2 (.take 3 (.take 4 (.take 5 (.take 6 (.take 7 (.take 8 (.take 9 (.br 10 (.take 11 (.br 12 .fin .stop)) .stop))))))))))) [7]]
theorem ECK_ok : EnvOk Tryz.prog ECK := (((E0_ok.addP sumP32_ok).addE gapT_ok).inl _ Tryz.func32 rfl (by kernel_rfl)).inl _ Tryz.func39 rfl (by kernel_rfl)
theorem check_ok : EcOk Tryz.prog 55 chkC := by
  refine bx_run (A := chkA) (fun _ => ECK_ok) Tryz.func55 rfl (by kernel_rfl) 2 rfl (fun _ => rfl) (Nat.le_of_ble_eq_true rfl) (fun _ => [.raw 5, .det 6]) 10 (fun ⟨bR, ⟨bT, bO, oO, cO, ph, tme, ten, nm, sz, la, sm, ⟨bx, ox, tl, cx, tx⟩, bm, h, ge, tr, wy, cl, du⟩⟩ hi hw => ?_)
  refine vc_of (q :=
      (bT=bT∧0=0)∧tl≤tl∧(∀ (k1:Nat), k1 < tl→true=true)∧(bx=bx∧ox=ox)∧bm=bm∧0 < 1∧(∀ (v1:Int), h v1=true→true=true)∧∀ (x'1:(Nat × Nat × Int × Int × Bool × Bool × List UInt8 × Int × Int × Int × Eng.RowD Int × (Nat × (Int→Bool) × (Int→Int)) × Int × Int × Int × Int × Int × Unit) × Unit), x'1=((bT, 0, (3:Int), ph, tme, ten, nm, sz, la, sm, Eng.RowD.mk bx ox tl cx (decide (tl=0)) tx, (bm, h, ge), tr, (0:Int),
      wy, cl, du, ()), ())→(∀ (v2:Int), ((((((((((((((Prod.fst x'1).2).2.2)).2).2).2).2).2).2).2).2).1).2).1 v2=true→0≤v2∧v2 < 65536)∧∀ (y1:List Int × Nat × Nat × Nat), Rising y1.1∧(∀ (z:Int), ((((((((((((((Prod.fst x'1).2).2.2)).2).2).2).2).2).2).2).2).1).2).1 z=true↔z ∈ y1.1)∧List.length (gapsR (trN (((Prod.fst x'1).2.2))) (((((((((((((((Prod.fst x'1).2).2.2)).2).2).2).2).2).2).2).2).1).2).2) (0:Int)
      y1.1)≤y1.2.2.2∧y1.2.2.2≤9223372036854775807∧(List.length (gapsR (trN (((Prod.fst x'1).2.2))) (((((((((((((((Prod.fst x'1).2).2.2)).2).2).2).2).2).2).2).2).1).2).2) (0:Int) y1.1)=0→y1.2.2.2=0)→(bT=bT∧0=0)∧((!tme)=true→∃ (x1:J27), SVeq (SV.slice 999999 0 0 [] 0 0 0 0 true) (SV.slice 510 x1.bl x1.ol [] 4 0 x1.nl x1.cl (decide (x1.nl=0)))∧(decide
      (x1.nl=0)=true∧x1.nl=0∧x1.cl=0)∧((bR=bR∧0=0∧false=false∧1≤1∧1≤1∧1≤1)∧(10:Int)=10∧(3:Int)=3∧false=false∧(bO=x1.ts.bO∧oO=x1.ts.oO∧0=0∧1=1∧cO=x1.ts.cO∧false=false)∧0=0∧0=0∧0=0∧0=0∧0=0∧true=true)∧((bT=x1.ts.bT∧0=0∧false=false∧1≤1∧1≤1∧1≤1)∧(3:Int)=3∧ph=x1.ts.ph∧tme=x1.ts.tme∧ten=x1.ts.ten∧nm=x1.ts.nm∧sz=x1.ts.sz∧la=x1.ts.la∧sm=x1.ts.sm∧(bx=x1.ts.tx.1∧ox=x1.ts.tx.2.1∧0=0∧tl=x1.ts.tx.2.2.1∧cx=x1.ts.tx.2.2.2.1∧decide
      (tl=0)=decide (x1.ts.tx.2.2.1=0))∧bm=x1.ts.bm∧tr=x1.ts.tr∧(0:Int)=0∧wy=x1.ts.wy∧cl=x1.ts.cl∧du=x1.ts.du)∧((bx=x1.ts.tx.1∧ox=x1.ts.tx.2.1∧decide (tl=0)=decide (x1.ts.tx.2.2.1=0)∧x1.ts.tx.2.2.1≤tl∧x1.ts.tx.2.2.1≤x1.ts.tx.2.2.2.1∧x1.ts.tx.2.2.2.1≤cx)∧∀ (i1:Nat), i1 < x1.ts.tx.2.2.1→tx i1=x1.ts.tx.2.2.2.2 i1)∧(∀ (i2:Nat), i2 < 1→∃ (x2:Nat), x2 < 1∧(bm, 0)=(x1.ts.bm, 0)∧(∀ (v3:Int), h v3=x1.ts.h v3)∧∀
      (v4:Int), h v4=true→ge v4=x1.ts.ge v4)∧ocapOk x1∧(finP (TS.mk bT bO oO cO ph tme ten nm sz la sm (bx, ox, tl, cx, tx) bm h ge tr wy cl du)∧x1.ts=TS.mk bT bO oO cO (3:Int) tme ten nm sz la sm (bx, ox, tl, cx, tx) bm h ge (1:Int) (0:Int) (10:Int) x1.ts.du∧x1.nl=1∧x1.enm=nm∧x1.efl=Byt.of tx tl∨¬finP (TS.mk bT bO oO cO ph tme ten nm sz la sm (bx, ox, tl, cx, tx) bm h ge tr wy cl du)∧x1.ts=TS.mk bT bO
      oO cO ph tme ten nm sz la sm (bx, ox, tl, cx, tx) bm h ge tr wy cl du∧x1.nl=0))∧((!tme)=false→∀ (v3:Int), v3=(↑(List.length (gapsR (trN (((Prod.fst x'1).2.2))) (((((((((((((((Prod.fst x'1).2).2.2)).2).2).2).2).2).2).2).2).1).2).2) (0:Int) y1.1)):Int)→(decide (v3 > (0:Int))=true→(bT=bT∧0=0)∧(decide ((0:Int) > 0)=true→(0:Int)≤0)∧(decide ((0:Int) > 0)=true→0 < (↑(List.length (gapsR (trN (((Prod.fst
      x'1).2.2))) (((((((((((((((Prod.fst x'1).2).2.2)).2).2).2).2).2).2).2).2).1).2).2) (0:Int) y1.1)):Int))∧(decide ((0:Int) > 0)=true→y1.2.1=y1.2.1∧y1.2.2.1=y1.2.2.1)∧(decide ((0:Int) > 0)=true→0 < List.length (gapsR (trN (((Prod.fst x'1).2.2))) (((((((((((((((Prod.fst x'1).2).2.2)).2).2).2).2).2).2).2).2).1).2).2) (0:Int) y1.1))∧(decide ((0:Int) > 0)=true→bT=bT∧0=0)∧∃ (x2:J27), SVeq (SV.slice 999999
      0 0 [] 0 0 0 0 true) (SV.slice 510 x2.bl x2.ol [] 4 0 x2.nl x2.cl (decide (x2.nl=0)))∧(decide
      (x2.nl=0)=true∧x2.nl=0∧x2.cl=0)∧((bR=bR∧0=0∧false=false∧1≤1∧1≤1∧1≤1)∧(10:Int)=10∧(3:Int)=3∧false=false∧(bO=x2.ts.bO∧oO=x2.ts.oO∧0=0∧1=1∧cO=x2.ts.cO∧false=false)∧0=0∧0=0∧0=0∧0=0∧0=0∧true=true)∧((bT=x2.ts.bT∧0=0∧false=false∧1≤1∧1≤1∧1≤1)∧(3:Int)=3∧ph=x2.ts.ph∧tme=x2.ts.tme∧ten=x2.ts.ten∧nm=x2.ts.nm∧sz=x2.ts.sz∧la=x2.ts.la∧sm=x2.ts.sm∧(bx=x2.ts.tx.1∧ox=x2.ts.tx.2.1∧0=0∧tl=x2.ts.tx.2.2.1∧cx=x2.ts.tx.2.2.2.1∧decide
      (tl=0)=decide (x2.ts.tx.2.2.1=0))∧bm=x2.ts.bm∧tr=x2.ts.tr∧(0:Int)=0∧wy=x2.ts.wy∧cl=x2.ts.cl∧du=x2.ts.du)∧((bx=x2.ts.tx.1∧ox=x2.ts.tx.2.1∧decide (tl=0)=decide (x2.ts.tx.2.2.1=0)∧x2.ts.tx.2.2.1≤tl∧x2.ts.tx.2.2.1≤x2.ts.tx.2.2.2.1∧x2.ts.tx.2.2.2.1≤cx)∧∀ (i3:Nat), i3 < x2.ts.tx.2.2.1→tx i3=x2.ts.tx.2.2.2.2 i3)∧(∀ (i4:Nat), i4 < 1→∃ (x3:Nat), x3 < 1∧(bm, 0)=(x2.ts.bm, 0)∧(∀ (v4:Int), h v4=x2.ts.h v4)∧∀
      (v5:Int), h v5=true→ge v5=x2.ts.ge v5)∧ocapOk x2∧(finP (TS.mk bT bO oO cO ph tme ten nm sz la sm (bx, ox, tl, cx, tx) bm h ge tr wy cl du)∧x2.ts=TS.mk bT bO oO cO (3:Int) tme ten nm sz la sm (bx, ox, tl, cx, tx) bm h ge (1:Int) (0:Int) (10:Int) x2.ts.du∧x2.nl=1∧x2.enm=nm∧x2.efl=Byt.of tx tl∨¬finP (TS.mk bT bO oO cO ph tme ten nm sz la sm (bx, ox, tl, cx, tx) bm h ge tr wy cl du)∧x2.ts=TS.mk bT bO
      oO cO ph tme ten nm sz la sm (bx, ox, tl, cx, tx) bm h ge tr wy cl du∧x2.nl=0))∧(decide (v3 > (0:Int))=false→(bT=bT∧0=0)∧(bT=bT∧0=0)∧((sz != la)=true→((sz != la)=true→(bT=bT∧0=0)∧(bT=bT∧0=0)∧(bT=bT∧0=0)∧∀ (v4:Int), v4=IntKind.i64.wrap (↑(BitVec.toNat (BitVec.ofInt IntKind.i64.bits du &&& ~~~BitVec.ofInt IntKind.i64.bits (2:Int))):Int)→∀ (v5:Int), v5=IntKind.i64.wrap (↑(BitVec.toNat (BitVec.ofInt
      IntKind.i64.bits v4 ||| BitVec.ofInt IntKind.i64.bits (4:Int))):Int)→(bT=bT∧0=0)∧(bR=bR∧0=0)∧(bT=bT∧0=0)∧(bT=bT∧0=0)∧(bT=bT∧0=0)∧∀ (b1:Nat), (b1=b1∧0=0)∧(b1=b1∧0=0)∧∀ (b2:Nat), ∃ (x3:J27), (b2=x3.bl∧0=x3.ol∧0=0∧1=x3.nl∧1=x3.cl∧false=decide (x3.nl=0))∧((b2=x3.bl∧0=x3.ol∧false=decide (x3.nl=0)∧x3.nl≤1∧x3.nl≤x3.cl∧x3.cl≤1)∧∀ (i5:Nat), i5 <
      x3.nl→(3:Int)=3∧(4:Int)=0∧[]=x3.enm∧[]=x3.efl)∧((bR=bR∧0=0∧false=false∧1≤1∧1≤1∧1≤1)∧(10:Int)=10∧(3:Int)=3∧false=false∧(bO=x3.ts.bO∧oO=x3.ts.oO∧0=0∧1=1∧cO=x3.ts.cO∧false=false)∧0=0∧0=0∧0=0∧0=0∧0=0∧true=true)∧((bT=x3.ts.bT∧0=0∧false=false∧1≤1∧1≤1∧1≤1)∧(3:Int)=3∧(3:Int)=x3.ts.ph∧tme=x3.ts.tme∧ten=x3.ts.ten∧nm=x3.ts.nm∧sz=x3.ts.sz∧la=x3.ts.la∧sm=x3.ts.sm∧(bx=x3.ts.tx.1∧ox=x3.ts.tx.2.1∧0=0∧tl=x3.ts.tx.2.2.1∧cx=x3.ts.tx.2.2.2.1∧decide
      (tl=0)=decide (x3.ts.tx.2.2.1=0))∧bm=x3.ts.bm∧(1:Int)=x3.ts.tr∧(0:Int)=0∧(4:Int)=x3.ts.wy∧(10:Int)=x3.ts.cl∧v5=x3.ts.du)∧((bx=x3.ts.tx.1∧ox=x3.ts.tx.2.1∧decide (tl=0)=decide (x3.ts.tx.2.2.1=0)∧x3.ts.tx.2.2.1≤tl∧x3.ts.tx.2.2.1≤x3.ts.tx.2.2.2.1∧x3.ts.tx.2.2.2.1≤cx)∧∀ (i6:Nat), i6 < x3.ts.tx.2.2.1→tx i6=x3.ts.tx.2.2.2.2 i6)∧(∀ (i7:Nat), i7 < 1→∃ (x4:Nat), x4 < 1∧(bm, 0)=(x3.ts.bm, 0)∧(∀ (v6:Int), h
      v6=x3.ts.h v6)∧∀ (v7:Int), h v7=true→ge v7=x3.ts.ge v7)∧ocapOk x3∧(finP (TS.mk bT bO oO cO ph tme ten nm sz la sm (bx, ox, tl, cx, tx) bm h ge tr wy cl du)∧x3.ts=TS.mk bT bO oO cO (3:Int) tme ten nm sz la sm (bx, ox, tl, cx, tx) bm h ge (1:Int) (0:Int) (10:Int) x3.ts.du∧x3.nl=1∧x3.enm=nm∧x3.efl=Byt.of tx tl∨¬finP (TS.mk bT bO oO cO ph tme ten nm sz la sm (bx, ox, tl, cx, tx) bm h ge tr wy cl
      du)∧x3.ts=TS.mk bT bO oO cO ph tme ten nm sz la sm (bx, ox, tl, cx, tx) bm h ge tr wy cl du∧x3.nl=0))∧((sz != la)=false→(bT=bT∧0=0)∧tl≤tl∧(∀ (k2:Nat), k2 < tl→true=true)∧(bx=bx∧ox=ox)∧∀ (s1:List UInt8), s1=Byt.of tx tl→∀ (v5:Int), v5=crc32 s1→(bT=bT∧0=0)∧((v5 != sm)=true→(bT=bT∧0=0)∧(bT=bT∧0=0)∧(bT=bT∧0=0)∧∀ (v6:Int), v6=IntKind.i64.wrap (↑(BitVec.toNat (BitVec.ofInt IntKind.i64.bits du &&&
      ~~~BitVec.ofInt IntKind.i64.bits (2:Int))):Int)→∀ (v7:Int), v7=IntKind.i64.wrap (↑(BitVec.toNat (BitVec.ofInt IntKind.i64.bits v6 ||| BitVec.ofInt IntKind.i64.bits (4:Int))):Int)→(bT=bT∧0=0)∧(bR=bR∧0=0)∧(bT=bT∧0=0)∧(bT=bT∧0=0)∧(bT=bT∧0=0)∧∀ (b1:Nat), (b1=b1∧0=0)∧(b1=b1∧0=0)∧∀ (b2:Nat), ∃ (x3:J27), (b2=x3.bl∧0=x3.ol∧0=0∧1=x3.nl∧1=x3.cl∧false=decide (x3.nl=0))∧((b2=x3.bl∧0=x3.ol∧false=decide
      (x3.nl=0)∧x3.nl≤1∧x3.nl≤x3.cl∧x3.cl≤1)∧∀ (i5:Nat), i5 <
      x3.nl→(3:Int)=3∧(3:Int)=0∧[]=x3.enm∧[]=x3.efl)∧((bR=bR∧0=0∧false=false∧1≤1∧1≤1∧1≤1)∧(10:Int)=10∧(3:Int)=3∧false=false∧(bO=x3.ts.bO∧oO=x3.ts.oO∧0=0∧1=1∧cO=x3.ts.cO∧false=false)∧0=0∧0=0∧0=0∧0=0∧0=0∧true=true)∧((bT=x3.ts.bT∧0=0∧false=false∧1≤1∧1≤1∧1≤1)∧(3:Int)=3∧(3:Int)=x3.ts.ph∧tme=x3.ts.tme∧ten=x3.ts.ten∧nm=x3.ts.nm∧sz=x3.ts.sz∧la=x3.ts.la∧sm=x3.ts.sm∧(bx=x3.ts.tx.1∧ox=x3.ts.tx.2.1∧0=0∧tl=x3.ts.tx.2.2.1∧cx=x3.ts.tx.2.2.2.1∧decide
      (tl=0)=decide (x3.ts.tx.2.2.1=0))∧bm=x3.ts.bm∧(1:Int)=x3.ts.tr∧(0:Int)=0∧(3:Int)=x3.ts.wy∧(10:Int)=x3.ts.cl∧v7=x3.ts.du)∧((bx=x3.ts.tx.1∧ox=x3.ts.tx.2.1∧decide (tl=0)=decide (x3.ts.tx.2.2.1=0)∧x3.ts.tx.2.2.1≤tl∧x3.ts.tx.2.2.1≤x3.ts.tx.2.2.2.1∧x3.ts.tx.2.2.2.1≤cx)∧∀ (i6:Nat), i6 < x3.ts.tx.2.2.1→tx i6=x3.ts.tx.2.2.2.2 i6)∧(∀ (i7:Nat), i7 < 1→∃ (x4:Nat), x4 < 1∧(bm, 0)=(x3.ts.bm, 0)∧(∀ (v8:Int), h
      v8=x3.ts.h v8)∧∀ (v9:Int), h v9=true→ge v9=x3.ts.ge v9)∧ocapOk x3∧(finP (TS.mk bT bO oO cO ph tme ten nm sz la sm (bx, ox, tl, cx, tx) bm h ge tr wy cl du)∧x3.ts=TS.mk bT bO oO cO (3:Int) tme ten nm sz la sm (bx, ox, tl, cx, tx) bm h ge (1:Int) (0:Int) (10:Int) x3.ts.du∧x3.nl=1∧x3.enm=nm∧x3.efl=Byt.of tx tl∨¬finP (TS.mk bT bO oO cO ph tme ten nm sz la sm (bx, ox, tl, cx, tx) bm h ge tr wy cl
      du)∧x3.ts=TS.mk bT bO oO cO ph tme ten nm sz la sm (bx, ox, tl, cx, tx) bm h ge tr wy cl du∧x3.nl=0))∧((v5 != sm)=false→(bT=bT∧0=0)∧(bT=bT∧0=0)∧(bT=bT∧0=0)∧∀ (v7:Int), v7=IntKind.i64.wrap (↑(BitVec.toNat (BitVec.ofInt IntKind.i64.bits du &&& ~~~BitVec.ofInt IntKind.i64.bits (2:Int))):Int)→∀ (v8:Int), v8=IntKind.i64.wrap (↑(BitVec.toNat (BitVec.ofInt IntKind.i64.bits v7 ||| BitVec.ofInt
      IntKind.i64.bits (4:Int))):Int)→(bT=bT∧0=0)∧(bR=bR∧0=0)∧(bT=bT∧0=0)∧(bT=bT∧0=0)∧(bT=bT∧0=0)∧∀ (b1:Nat), (b1=b1∧0=0)∧(bT=bT∧0=0)∧(bT=bT∧0=0)∧tl≤tl∧(∀ (k3:Nat), k3 < tl→true=true)∧(bx=bx∧ox=ox)∧∀ (s2:List UInt8), s2=Byt.of tx tl→((b1=b1∧0=0)∧((b1=b1∧0=0)∧(b1=b1∧0=0)∧∀ (b2:Nat), ∃ (x3:J27), (b2=x3.bl∧0=x3.ol∧0=0∧1=x3.nl∧1=x3.cl∧false=decide (x3.nl=0))∧((b2=x3.bl∧0=x3.ol∧false=decide
      (x3.nl=0)∧x3.nl≤1∧x3.nl≤x3.cl∧x3.cl≤1)∧∀ (i5:Nat), i5 <
      x3.nl→(3:Int)=3∧(0:Int)=0∧nm=x3.enm∧s2=x3.efl)∧((bR=bR∧0=0∧false=false∧1≤1∧1≤1∧1≤1)∧(10:Int)=10∧(3:Int)=3∧false=false∧(bO=x3.ts.bO∧oO=x3.ts.oO∧0=0∧1=1∧cO=x3.ts.cO∧false=false)∧0=0∧0=0∧0=0∧0=0∧0=0∧true=true)∧((bT=x3.ts.bT∧0=0∧false=false∧1≤1∧1≤1∧1≤1)∧(3:Int)=3∧(3:Int)=x3.ts.ph∧tme=x3.ts.tme∧ten=x3.ts.ten∧nm=x3.ts.nm∧sz=x3.ts.sz∧la=x3.ts.la∧sm=x3.ts.sm∧(bx=x3.ts.tx.1∧ox=x3.ts.tx.2.1∧0=0∧tl=x3.ts.tx.2.2.1∧cx=x3.ts.tx.2.2.2.1∧decide
      (tl=0)=decide (x3.ts.tx.2.2.1=0))∧bm=x3.ts.bm∧(1:Int)=x3.ts.tr∧(0:Int)=0∧(0:Int)=x3.ts.wy∧(10:Int)=x3.ts.cl∧v8=x3.ts.du)∧((bx=x3.ts.tx.1∧ox=x3.ts.tx.2.1∧decide (tl=0)=decide (x3.ts.tx.2.2.1=0)∧x3.ts.tx.2.2.1≤tl∧x3.ts.tx.2.2.1≤x3.ts.tx.2.2.2.1∧x3.ts.tx.2.2.2.1≤cx)∧∀ (i6:Nat), i6 < x3.ts.tx.2.2.1→tx i6=x3.ts.tx.2.2.2.2 i6)∧(∀ (i7:Nat), i7 < 1→∃ (x4:Nat), x4 < 1∧(bm, 0)=(x3.ts.bm, 0)∧(∀ (v9:Int), h
      v9=x3.ts.h v9)∧∀ (v10:Int), h v10=true→ge v10=x3.ts.ge v10)∧ocapOk x3∧(finP (TS.mk bT bO oO cO ph tme ten nm sz la sm (bx, ox, tl, cx, tx) bm h ge tr wy cl du)∧x3.ts=TS.mk bT bO oO cO (3:Int) tme ten nm sz la sm (bx, ox, tl, cx, tx) bm h ge (1:Int) (0:Int) (10:Int) x3.ts.du∧x3.nl=1∧x3.enm=nm∧x3.efl=Byt.of tx tl∨¬finP (TS.mk bT bO oO cO ph tme ten nm sz la sm (bx, ox, tl, cx, tx) bm h ge tr wy cl
      du)∧x3.ts=TS.mk bT bO oO cO ph tme ten nm sz la sm (bx, ox, tl, cx, tx) bm h ge tr wy cl du∧x3.nl=0))∧True)∧True)))∧((sz != la)=false→(bT=bT∧0=0)∧∀ (v5:Int), v5=(↑tl:Int)→(bT=bT∧0=0)∧(decide (v5 > la)=true→(bT=bT∧0=0)∧(bT=bT∧0=0)∧(bT=bT∧0=0)∧∀ (v6:Int), v6=IntKind.i64.wrap (↑(BitVec.toNat (BitVec.ofInt IntKind.i64.bits du &&& ~~~BitVec.ofInt IntKind.i64.bits (2:Int))):Int)→∀ (v7:Int),
      v7=IntKind.i64.wrap (↑(BitVec.toNat (BitVec.ofInt IntKind.i64.bits v6 ||| BitVec.ofInt IntKind.i64.bits (4:Int))):Int)→(bT=bT∧0=0)∧(bR=bR∧0=0)∧(bT=bT∧0=0)∧(bT=bT∧0=0)∧(bT=bT∧0=0)∧∀ (b1:Nat), (b1=b1∧0=0)∧(b1=b1∧0=0)∧∀ (b2:Nat), ∃ (x3:J27), (b2=x3.bl∧0=x3.ol∧0=0∧1=x3.nl∧1=x3.cl∧false=decide (x3.nl=0))∧((b2=x3.bl∧0=x3.ol∧false=decide (x3.nl=0)∧x3.nl≤1∧x3.nl≤x3.cl∧x3.cl≤1)∧∀ (i5:Nat), i5 <
      x3.nl→(3:Int)=3∧(4:Int)=0∧[]=x3.enm∧[]=x3.efl)∧((bR=bR∧0=0∧false=false∧1≤1∧1≤1∧1≤1)∧(10:Int)=10∧(3:Int)=3∧false=false∧(bO=x3.ts.bO∧oO=x3.ts.oO∧0=0∧1=1∧cO=x3.ts.cO∧false=false)∧0=0∧0=0∧0=0∧0=0∧0=0∧true=true)∧((bT=x3.ts.bT∧0=0∧false=false∧1≤1∧1≤1∧1≤1)∧(3:Int)=3∧(3:Int)=x3.ts.ph∧tme=x3.ts.tme∧ten=x3.ts.ten∧nm=x3.ts.nm∧sz=x3.ts.sz∧la=x3.ts.la∧sm=x3.ts.sm∧(bx=x3.ts.tx.1∧ox=x3.ts.tx.2.1∧0=0∧tl=x3.ts.tx.2.2.1∧cx=x3.ts.tx.2.2.2.1∧decide
      (tl=0)=decide (x3.ts.tx.2.2.1=0))∧bm=x3.ts.bm∧(1:Int)=x3.ts.tr∧(0:Int)=0∧(4:Int)=x3.ts.wy∧(10:Int)=x3.ts.cl∧v7=x3.ts.du)∧((bx=x3.ts.tx.1∧ox=x3.ts.tx.2.1∧decide (tl=0)=decide (x3.ts.tx.2.2.1=0)∧x3.ts.tx.2.2.1≤tl∧x3.ts.tx.2.2.1≤x3.ts.tx.2.2.2.1∧x3.ts.tx.2.2.2.1≤cx)∧∀ (i6:Nat), i6 < x3.ts.tx.2.2.1→tx i6=x3.ts.tx.2.2.2.2 i6)∧(∀ (i7:Nat), i7 < 1→∃ (x4:Nat), x4 < 1∧(bm, 0)=(x3.ts.bm, 0)∧(∀ (v8:Int), h
      v8=x3.ts.h v8)∧∀ (v9:Int), h v9=true→ge v9=x3.ts.ge v9)∧ocapOk x3∧(finP (TS.mk bT bO oO cO ph tme ten nm sz la sm (bx, ox, tl, cx, tx) bm h ge tr wy cl du)∧x3.ts=TS.mk bT bO oO cO (3:Int) tme ten nm sz la sm (bx, ox, tl, cx, tx) bm h ge (1:Int) (0:Int) (10:Int) x3.ts.du∧x3.nl=1∧x3.enm=nm∧x3.efl=Byt.of tx tl∨¬finP (TS.mk bT bO oO cO ph tme ten nm sz la sm (bx, ox, tl, cx, tx) bm h ge tr wy cl
      du)∧x3.ts=TS.mk bT bO oO cO ph tme ten nm sz la sm (bx, ox, tl, cx, tx) bm h ge tr wy cl du∧x3.nl=0))∧(decide (v5 > la)=false→(bT=bT∧0=0)∧tl≤tl∧(∀ (k3:Nat), k3 < tl→true=true)∧(bx=bx∧ox=ox)∧∀ (s2:List UInt8), s2=Byt.of tx tl→∀ (v7:Int), v7=crc32 s2→(bT=bT∧0=0)∧((v7 != sm)=true→(bT=bT∧0=0)∧(bT=bT∧0=0)∧(bT=bT∧0=0)∧∀ (v8:Int), v8=IntKind.i64.wrap (↑(BitVec.toNat (BitVec.ofInt IntKind.i64.bits du &&&
      ~~~BitVec.ofInt IntKind.i64.bits (2:Int))):Int)→∀ (v9:Int), v9=IntKind.i64.wrap (↑(BitVec.toNat (BitVec.ofInt IntKind.i64.bits v8 ||| BitVec.ofInt IntKind.i64.bits (4:Int))):Int)→(bT=bT∧0=0)∧(bR=bR∧0=0)∧(bT=bT∧0=0)∧(bT=bT∧0=0)∧(bT=bT∧0=0)∧∀ (b1:Nat), (b1=b1∧0=0)∧(b1=b1∧0=0)∧∀ (b2:Nat), ∃ (x3:J27), (b2=x3.bl∧0=x3.ol∧0=0∧1=x3.nl∧1=x3.cl∧false=decide (x3.nl=0))∧((b2=x3.bl∧0=x3.ol∧false=decide
      (x3.nl=0)∧x3.nl≤1∧x3.nl≤x3.cl∧x3.cl≤1)∧∀ (i5:Nat), i5 <
      x3.nl→(3:Int)=3∧(3:Int)=0∧[]=x3.enm∧[]=x3.efl)∧((bR=bR∧0=0∧false=false∧1≤1∧1≤1∧1≤1)∧(10:Int)=10∧(3:Int)=3∧false=false∧(bO=x3.ts.bO∧oO=x3.ts.oO∧0=0∧1=1∧cO=x3.ts.cO∧false=false)∧0=0∧0=0∧0=0∧0=0∧0=0∧true=true)∧((bT=x3.ts.bT∧0=0∧false=false∧1≤1∧1≤1∧1≤1)∧(3:Int)=3∧(3:Int)=x3.ts.ph∧tme=x3.ts.tme∧ten=x3.ts.ten∧nm=x3.ts.nm∧sz=x3.ts.sz∧la=x3.ts.la∧sm=x3.ts.sm∧(bx=x3.ts.tx.1∧ox=x3.ts.tx.2.1∧0=0∧tl=x3.ts.tx.2.2.1∧cx=x3.ts.tx.2.2.2.1∧decide
      (tl=0)=decide (x3.ts.tx.2.2.1=0))∧bm=x3.ts.bm∧(1:Int)=x3.ts.tr∧(0:Int)=0∧(3:Int)=x3.ts.wy∧(10:Int)=x3.ts.cl∧v9=x3.ts.du)∧((bx=x3.ts.tx.1∧ox=x3.ts.tx.2.1∧decide (tl=0)=decide (x3.ts.tx.2.2.1=0)∧x3.ts.tx.2.2.1≤tl∧x3.ts.tx.2.2.1≤x3.ts.tx.2.2.2.1∧x3.ts.tx.2.2.2.1≤cx)∧∀ (i6:Nat), i6 < x3.ts.tx.2.2.1→tx i6=x3.ts.tx.2.2.2.2 i6)∧(∀ (i7:Nat), i7 < 1→∃ (x4:Nat), x4 < 1∧(bm, 0)=(x3.ts.bm, 0)∧(∀ (v10:Int), h
      v10=x3.ts.h v10)∧∀ (v11:Int), h v11=true→ge v11=x3.ts.ge v11)∧ocapOk x3∧(finP (TS.mk bT bO oO cO ph tme ten nm sz la sm (bx, ox, tl, cx, tx) bm h ge tr wy cl du)∧x3.ts=TS.mk bT bO oO cO (3:Int) tme ten nm sz la sm (bx, ox, tl, cx, tx) bm h ge (1:Int) (0:Int) (10:Int) x3.ts.du∧x3.nl=1∧x3.enm=nm∧x3.efl=Byt.of tx tl∨¬finP (TS.mk bT bO oO cO ph tme ten nm sz la sm (bx, ox, tl, cx, tx) bm h ge tr wy cl
      du)∧x3.ts=TS.mk bT bO oO cO ph tme ten nm sz la sm (bx, ox, tl, cx, tx) bm h ge tr wy cl du∧x3.nl=0))∧((v7 != sm)=false→(bT=bT∧0=0)∧(bT=bT∧0=0)∧(bT=bT∧0=0)∧∀ (v9:Int), v9=IntKind.i64.wrap (↑(BitVec.toNat (BitVec.ofInt IntKind.i64.bits du &&& ~~~BitVec.ofInt IntKind.i64.bits (2:Int))):Int)→∀ (v10:Int), v10=IntKind.i64.wrap (↑(BitVec.toNat (BitVec.ofInt IntKind.i64.bits v9 ||| BitVec.ofInt
      IntKind.i64.bits (4:Int))):Int)→(bT=bT∧0=0)∧(bR=bR∧0=0)∧(bT=bT∧0=0)∧(bT=bT∧0=0)∧(bT=bT∧0=0)∧∀ (b1:Nat), (b1=b1∧0=0)∧(bT=bT∧0=0)∧(bT=bT∧0=0)∧tl≤tl∧(∀ (k4:Nat), k4 < tl→true=true)∧(bx=bx∧ox=ox)∧∀ (s3:List UInt8), s3=Byt.of tx tl→((b1=b1∧0=0)∧((b1=b1∧0=0)∧(b1=b1∧0=0)∧∀ (b2:Nat), ∃ (x3:J27), (b2=x3.bl∧0=x3.ol∧0=0∧1=x3.nl∧1=x3.cl∧false=decide (x3.nl=0))∧((b2=x3.bl∧0=x3.ol∧false=decide
      (x3.nl=0)∧x3.nl≤1∧x3.nl≤x3.cl∧x3.cl≤1)∧∀ (i5:Nat), i5 <
      x3.nl→(3:Int)=3∧(0:Int)=0∧nm=x3.enm∧s3=x3.efl)∧((bR=bR∧0=0∧false=false∧1≤1∧1≤1∧1≤1)∧(10:Int)=10∧(3:Int)=3∧false=false∧(bO=x3.ts.bO∧oO=x3.ts.oO∧0=0∧1=1∧cO=x3.ts.cO∧false=false)∧0=0∧0=0∧0=0∧0=0∧0=0∧true=true)∧((bT=x3.ts.bT∧0=0∧false=false∧1≤1∧1≤1∧1≤1)∧(3:Int)=3∧(3:Int)=x3.ts.ph∧tme=x3.ts.tme∧ten=x3.ts.ten∧nm=x3.ts.nm∧sz=x3.ts.sz∧la=x3.ts.la∧sm=x3.ts.sm∧(bx=x3.ts.tx.1∧ox=x3.ts.tx.2.1∧0=0∧tl=x3.ts.tx.2.2.1∧cx=x3.ts.tx.2.2.2.1∧decide
      (tl=0)=decide (x3.ts.tx.2.2.1=0))∧bm=x3.ts.bm∧(1:Int)=x3.ts.tr∧(0:Int)=0∧(0:Int)=x3.ts.wy∧(10:Int)=x3.ts.cl∧v10=x3.ts.du)∧((bx=x3.ts.tx.1∧ox=x3.ts.tx.2.1∧decide (tl=0)=decide (x3.ts.tx.2.2.1=0)∧x3.ts.tx.2.2.1≤tl∧x3.ts.tx.2.2.1≤x3.ts.tx.2.2.2.1∧x3.ts.tx.2.2.2.1≤cx)∧∀ (i6:Nat), i6 < x3.ts.tx.2.2.1→tx i6=x3.ts.tx.2.2.2.2 i6)∧(∀ (i7:Nat), i7 < 1→∃ (x4:Nat), x4 < 1∧(bm, 0)=(x3.ts.bm, 0)∧(∀ (v11:Int), h
      v11=x3.ts.h v11)∧∀ (v12:Int), h v12=true→ge v12=x3.ts.ge v12)∧ocapOk x3∧(finP (TS.mk bT bO oO cO ph tme ten nm sz la sm (bx, ox, tl, cx, tx) bm h ge tr wy cl du)∧x3.ts=TS.mk bT bO oO cO (3:Int) tme ten nm sz la sm (bx, ox, tl, cx, tx) bm h ge (1:Int) (0:Int) (10:Int) x3.ts.du∧x3.nl=1∧x3.enm=nm∧x3.efl=Byt.of tx tl∨¬finP (TS.mk bT bO oO cO ph tme ten nm sz la sm (bx, ox, tl, cx, tx) bm h ge tr wy cl
      du)∧x3.ts=TS.mk bT bO oO cO ph tme ten nm sz la sm (bx, ox, tl, cx, tx) bm h ge tr wy cl du∧x3.nl=0))∧True)∧True)))))) (by kernel_rfl) ?_
  obtain ⟨hten, hR, hla, hl6, ⟨tc1, tc2, tc3⟩, hfin⟩ := hi
  dsimp only at hten hR hla hl6 tc1 tc2 tc3 hfin
  refine ⟨⟨rfl, rfl⟩, Nat.le_refl _, fun _ _ => rfl, ⟨rfl, rfl⟩, rfl, by decide, fun _ _ => rfl, ?_⟩
  rintro x' rfl
  dsimp only
  refine ⟨fun z hz => by have := hR.1 z hz; omega, fun y1 ⟨r1, r2, c1, c2, c3⟩ => ?_⟩
  have hN : trN (3, ph, tme, ten, nm, sz, la, sm, ⟨bx, ox, tl, cx, decide (tl = 0), tx⟩, (bm, h, ge), tr, 0, wy, cl, du, ()) = la := if_pos hten
  rw [hN] at c1 c3 ⊢
  obtain ⟨n, rfl⟩ : ∃ n : Nat, la = n := ⟨la.toNat, by omega⟩
  have key : (gapsR n ge 0 y1.1).length = 0 ↔ ∀ k : Nat, (k : Int) < n → Cov h ge k := by
    classical
    have hR' : Runs n h ge := ⟨fun x hx => by have := hR.1 x hx; omega, hR.2⟩
    obtain ⟨m1, m2⟩ := gaps_main (f := fun k => decide (Cov h ge k)) hR' (fun k _ => by simp) y1.1 0 r1 (Nat.zero_le _) (fun x hx => (r2 x).2 hx) (fun x hx => (hR.1 x ((r2 x).2 hx)).1) (fun x hx hxl => absurd ((r2 x).1 hx) hxl)
    have hz : unc (fun k => decide (Cov h ge k)) 0 = 0 := rfl
    constructor
    · intro q k hk
      have q : gapsR n ge ((0 : Nat) : Int) y1.1 = [] := List.eq_nil_of_length_eq_zero q
      rw [q, hz] at m2
      have m2 : unc (fun k => decide (Cov h ge k)) n = 0 := by
        have : (unc (fun k => decide (Cov h ge k)) n : Int) = 0 := by rw [m2]; rfl
        omega
      exact of_decide_eq_true (unc_zero.1 m2 k (by omega))
    · intro q
      have hu : unc (fun k => decide (Cov h ge k)) n = 0 := unc_zero.2 fun k hk => decide_eq_true (q k (by omega))
      obtain ⟨_, g2⟩ := gapSum_pos (n := n) (l := gapsR n ge ((0 : Nat) : Int) y1.1) fun g hg => (m1 g hg).2.1
      have := g2 (by rw [hu, hz] at m2; omega)
      exact congrArg List.length this
  refine ⟨⟨rfl, rfl⟩, fun q => ?_, fun q v3 e3 => ⟨fun q3 => ?_, fun q3 => ?_⟩⟩
  · have hnf : ¬ finP ⟨bT, bO, oO, cO, ph, tme, ten, nm, sz, (n : Int), sm, (bx, ox, tl, cx, tx), bm, h, ge, tr, wy, cl, du⟩ := fun f => by
      have f1 : tme = true := f.1
      rw [f1] at q
      cases q
    refine ⟨⟨⟨bT, bO, oO, cO, ph, tme, ten, nm, sz, (n : Int), sm, (bx, ox, tl, cx, tx), bm, h, ge, tr, wy, cl, du⟩, 0, 0, 0, 0, [], []⟩, ?_⟩
    repeat' (first | with_reducible exact rfl | with_reducible exact ocap0 | exact Nat.le_refl _ | exact tc1 | exact nil_eqv rfl rfl rfl | exact ⟨0, by decide, rfl, fun _ => rfl, fun _ _ => rfl⟩ | refine And.intro ?_ ?_ | intro _)
    all_goals (first | exact ⟨Nat.le_refl _, by decide, fun _ => rfl⟩ | exact .inr ⟨hnf, rfl, rfl⟩ | rfl | decide | skip)
  · have hnf : ¬ finP ⟨bT, bO, oO, cO, ph, tme, ten, nm, sz, (n : Int), sm, (bx, ox, tl, cx, tx), bm, h, ge, tr, wy, cl, du⟩ := fun f => by
      have := key.2 f.2
      have q3 := of_decide_eq_true q3
      omega
    refine ⟨⟨rfl, rfl⟩, (fun q => by cases q), (fun q => by cases q), (fun q => by cases q), (fun q => by cases q), (fun q => by cases q), ?_⟩
    refine ⟨⟨⟨bT, bO, oO, cO, ph, tme, ten, nm, sz, (n : Int), sm, (bx, ox, tl, cx, tx), bm, h, ge, tr, wy, cl, du⟩, 0, 0, 0, 0, [], []⟩, ?_⟩
    repeat' (first | with_reducible exact rfl | with_reducible exact ocap0 | exact Nat.le_refl _ | exact tc1 | exact nil_eqv rfl rfl rfl | exact ⟨0, by decide, rfl, fun _ => rfl, fun _ _ => rfl⟩ | refine And.intro ?_ ?_ | intro _)
    all_goals (first | exact ⟨Nat.le_refl _, by decide, fun _ => rfl⟩ | exact .inr ⟨hnf, rfl, rfl⟩ | rfl | decide | skip)
  · have q3 := of_decide_eq_false q3
    have hcov := key.1 (by omega)
    have hme : tme = true := by simpa using q
    have hf : finP ⟨bT, bO, oO, cO, ph, tme, ten, nm, sz, (n : Int), sm, (bx, ox, tl, cx, tx), bm, h, ge, tr, wy, cl, du⟩ := ⟨hme, hcov⟩
    obtain ⟨f1, f2⟩ := hfin hf
    have f1 : sz = n := f1
    have f2 : crc32 (Byt.of tx tl) = sm := f2
    have hsz : (sz != (n : Int)) = false := by rw [f1]; simp
    refine ⟨⟨rfl, rfl⟩, ⟨rfl, rfl⟩, fun q => (by rw [hsz] at q; cases q), fun _ => ⟨⟨rfl, rfl⟩, fun v5 e5 => ⟨⟨rfl, rfl⟩, fun q => ?_, fun _ => ⟨⟨rfl, rfl⟩, Nat.le_refl _, fun _ _ => rfl, ⟨rfl, rfl⟩, fun s2 g2 v7 e7 => ⟨⟨rfl, rfl⟩, fun q => ?_, fun _ => ?_⟩⟩⟩⟩⟩
    · have q := of_decide_eq_true q
      omega
    · rw [e7, g2, f2] at q
      simp at q
    · refine ⟨⟨rfl, rfl⟩, ⟨rfl, rfl⟩, ⟨rfl, rfl⟩, fun v8 e8 v9 e9 => ⟨⟨rfl, rfl⟩, ⟨rfl, rfl⟩, ⟨rfl, rfl⟩, ⟨rfl, rfl⟩, ⟨rfl, rfl⟩, fun b1 => ⟨⟨rfl, rfl⟩, ⟨rfl, rfl⟩, ⟨rfl, rfl⟩, Nat.le_refl _, fun _ _ => rfl, ⟨rfl, rfl⟩, fun s3 g3 => ?_⟩⟩⟩
      refine ⟨⟨⟨rfl, rfl⟩, ⟨⟨rfl, rfl⟩, ⟨rfl, rfl⟩, fun b2 => ?_⟩, trivial⟩, trivial⟩
      refine ⟨⟨⟨bT, bO, oO, cO, 3, tme, ten, nm, sz, (n : Int), sm, (bx, ox, tl, cx, tx), bm, h, ge, 1, 0, 10, v9⟩, 1, b2, 0, 1, nm, s3⟩, ?_⟩
      repeat' (first | with_reducible exact rfl | with_reducible exact ocap1 | exact Nat.le_refl _ | exact tc1 | exact ⟨0, by decide, rfl, fun _ => rfl, fun _ _ => rfl⟩ | refine And.intro ?_ ?_ | intro _)
      all_goals (first | exact .inl ⟨hf, rfl, rfl, rfl, g3⟩ | rfl | decide | skip)
end Rc
