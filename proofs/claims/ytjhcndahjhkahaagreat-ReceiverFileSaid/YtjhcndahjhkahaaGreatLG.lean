/-
  OWN WORK. Receiver: Take of a unit of the file.
-/
import Derived.Test.YtjhcndahjhkahaaGreatLF
namespace Rc
open Go Go.Proofs Eng
set_option linter.unusedVariables false
set_option linter.unusedSimpArgs false
set_option maxRecDepth 100000
set_option maxHeartbeats 4000000
noncomputable def ETA : Env := (((((((((((E0.addQ 24 eqPt).addQ 76 eqPt).addE 29 getF).addE 54 arrC).addE 55 chkC)).inl 28 Tryz.f28 fun _ _ => [.raw 0, .raw 1, .det 0, .det 1, .sure 0, .sure 1]).inl 52 Tryz.f52 fun _ _ => [.raw 0, .raw 1, .det 0, .det 1, .sure 0, .sure 1]).inl 51 Tryz.f51 fun _ _ => [.unroll 2 3] ++ [.raw 0, .raw 1, .raw 2, .raw 3, .raw 4, .raw 5, .raw 6, .raw 7, .det 0, .det 1, .det 2, .det 3, .det 4, .det 5, .det 6, .det 7, .sure 0, .sure 1, .sure 2, .sure 3, .sure 4, .sure 5, .sure 6, .sure 7]).inl 30 Tryz.f30 fun _ _ => [.raw 0, .raw 1, .raw 2, .raw 3, .raw 4, .det 0, .det 1, .det 2, .det 3, .det 4, .sure 0, .sure 1, .sure 2, .sure 3, .sure 4]).inl 32 Tryz.f32 fun _ _ => []).inl 33 Tryz.f33 fun _ _ => [.raw 1, .raw 2, .raw 5, .raw 7, .raw 9, .det 3, .det 6, .det 8, .det 10, .draw 4 (.take 0 (.take 1 (.take 2 (.take 3 (.take 4 (.take 5 (.take 6 (.take 7 (.take 8 (.br 9 (.take 10 (.take 11 (.br 12 (.take 13 (.take 14 (.br 15 .fin .stop))) .stop))) .stop)))))))))) [1], .draw 12 (.take 0 (.take 1 (.take 2 (.take 3 (.take 4 (.take 5 (.take 6 (.take 7 (.take 8 (.take 9 (.br 10 (.take 11 (.take 12 (.br 13 (.take 14 (.take 15 (.br 16 (.take 17 (.take 18 (.br 19 .fin .stop))) .stop))) .stop))) .stop))))))))))) [1]]
theorem ETA_ok : EnvOk Tryz.prog ETA := (((((((((((E0_ok.addQ (eqPt_ok (by kernel_rfl))).addQ (eqPt_ok (by kernel_rfl))).addE getF_ok).addE arrive_ok).addE check_ok)).inl _ Tryz.func28 rfl (by kernel_rfl)).inl _ Tryz.func52 rfl (by kernel_rfl)).inl _ Tryz.func51 rfl (by kernel_rfl)).inl _ Tryz.func30 rfl (by kernel_rfl)).inl _ Tryz.func32 rfl (by kernel_rfl)).inl _ Tryz.func33 rfl (by kernel_rfl)
abbrev oE (x : TS) : Ent := ⟨501, x.bO, x.oO, 1, 1, fun _ => .ptr 502 x.bT 0 [.elt 0 15], true, false, x.cO, 76, false, none⟩
structure TX where
  bR : Nat
  ts : TS
  name : List UInt8
  file : List UInt8
  hf : Nat → Bool
  me : Bool
  en : Bool
  dn : Bool
  u : U
def fitN (name file : List UInt8) : Prop := 1 ≤ name.length ∧ name.length ≤ 32 ∧ file.length ≤ 3000
def tk2A : LA := ⟨0, TX, [0, 1], fun x => [.ptr 1 x.bR 0 [.elt 0 5], .str (putU x.u)], [1, 501, 502, 503, 504, 208017], fun x => [rcE x.bR x.ts, oE x.ts, trE x.ts, txE x.ts.tx, mpE x.ts],
  fun x => FOk x.name x.file x.hf x.me x.en x.dn x.ts ∧ FU x.name x.file x.u ∧ fitN x.name x.file, fun _ => 0⟩
def tk2P (x : TX) (y : J27) : Prop := tkP x.name x.file (fUpd x.u x.hf) (x.me || decide (x.u.kind = 1)) (x.en || decide (x.u.kind = 3)) x.dn y
def tk2B (x : TX) (y : J27) : SV × Hp := (.tup [outS y, .int .i64 0], [outE y, rcE x.bR y.ts, oE y.ts, trE y.ts, txE y.ts.tx, mpE y.ts])
noncomputable def tk2C := bxC tk2A (fun _ => J27) tk2B tk2P
theorem FU.k1 {name file : List UInt8} {u : U} (h : FU name file u) (hk : u.kind = 1) (me en : Bool) (hf : Nat → Bool) : u = ⟨1, 3, name, file.length, 0, 0, [], 0, 0, false, []⟩ ∧ (me || decide (u.kind = 1)) = true ∧ (en || decide (u.kind = 3)) = en ∧ fUpd u hf = hf := by
  rcases h with rfl | rfl | ⟨a, b, _, _, _, rfl⟩
  · exact ⟨rfl, Bool.or_true me, Bool.or_false en, funext fun k => by simp only [fUpd, List.length_nil]; rw [decide_eq_false (show ¬ ((k : Int) < 0 + ((0 : Nat) : Int)) by omega), Bool.and_false, Bool.or_false]⟩
  · cases hk
  · cases hk
theorem FU.k3 {name file : List UInt8} {u : U} (h : FU name file u) (hk : u.kind = 3) (me en : Bool) (hf : Nat → Bool) : u = ⟨3, 3, [], file.length, crc32 file, 0, [], 0, 0, false, []⟩ ∧ (me || decide (u.kind = 1)) = me ∧ (en || decide (u.kind = 3)) = true ∧ fUpd u hf = hf := by
  rcases h with rfl | rfl | ⟨a, b, _, _, _, rfl⟩
  · cases hk
  · exact ⟨rfl, Bool.or_false me, Bool.or_true en, funext fun k => by simp only [fUpd, List.length_nil]; rw [decide_eq_false (show ¬ ((k : Int) < 0 + ((0 : Nat) : Int)) by omega), Bool.and_false, Bool.or_false]⟩
  · cases hk
theorem FU.k2 {name file : List UInt8} {u : U} (h : FU name file u) (hk : u.kind = 2) (me en : Bool) : ∃ a b : Nat, a < b ∧ b ≤ file.length ∧ b ≤ a + 160 ∧ u = ⟨2, 3, [], 0, 0, a, (file.take b).drop a, 0, 0, false, []⟩ ∧ (me || decide (u.kind = 1)) = me ∧ (en || decide (u.kind = 3)) = en := by
  rcases h with rfl | rfl | ⟨a, b, p1, p2, p3, rfl⟩
  · cases hk
  · cases hk
  · exact ⟨a, b, p1, p2, p3, rfl, Bool.or_false me, Bool.or_false en⟩
theorem chkP.same {x : Nat × TS} {y : J27} (h : chkP x y) : y.ts.bT = x.2.bT ∧ y.ts.bO = x.2.bO ∧ y.ts.oO = x.2.oO ∧ y.ts.cO = x.2.cO := by
  rcases h.2 with ⟨_, h, _⟩ | ⟨_, h, _⟩ <;> rw [h] <;> exact ⟨rfl, rfl, rfl, rfl⟩
theorem take2_ok : EcOk Tryz.prog 10 tk2C := by
  refine bx_run (A := tk2A) (fun _ => ETA_ok) Tryz.func10 rfl (by kernel_rfl) 2 rfl (fun _ => rfl) (Nat.le_of_ble_eq_true rfl) (fun _ => [.draw 6 (.take 0 (.take 1 (.take 2 (.take 3 (.take 4 (.take 5 (.br 6 (.take 7 (.take 8 (.take 9 (.take 10 (.take 11 .fin))))) .stop))))))) [], .draw 19 (.take 0 (.take 1 (.take 2 (.take 3 (.take 4 (.take 5 (.br 6 (.take 7 (.take 8 (.take 9 (.take 10 (.take 11 .fin))))) .stop))))))) []] ++ [.raw 0, .raw 1, .raw 2, .raw 3, .raw 4, .raw 5, .raw 6, .raw 7, .raw 8, .raw 9, .raw 10, .raw 11, .raw 12, .raw 13, .raw 14, .raw 15, .raw 16, .raw 17, .raw 18, .raw 19, .raw 20, .raw 21, .raw 22, .raw 23, .raw 24, .raw 25, .raw 26, .raw 27, .raw 28, .raw 29, .raw 30, .raw 31, .raw 32, .det 0, .det 1, .det 2, .det 3, .det 4, .det 5, .det 6, .det 7, .det 8, .det 9, .det 10, .det 11, .det 12, .det 13, .det 14, .det 15, .det 16, .det 17, .det 18, .det 19, .det 20, .det 21, .det 22, .det 23, .det 24, .det 25, .det 26, .det 27, .det 29, .det 30, .det 31, .det 32, .sure 0, .sure 1, .sure 2, .sure 3, .sure 4, .sure 5, .sure 6, .sure 7, .sure 8, .sure 9, .sure 10, .sure 11, .sure 12, .sure 13, .sure 14, .sure 15, .sure 16, .sure 17, .sure 18, .sure 19, .sure 20, .sure 21, .sure 22, .sure 23, .sure 24, .sure 25, .sure 26, .sure 27, .sure 28, .sure 29, .sure 30, .sure 31, .sure 32]) 10 (fun ⟨bR, ⟨bT, bO, oO, cO, ph, tme, ten, nm, sz, la, sm, ⟨bx, ox, tl, cx, tx⟩, bm, h, ge, tr, wy, cl, du⟩, name, file, hf, me, en, dn, u⟩ hi hw => ?_)
  refine vc_of (q :=
      (false=false→bR=bR∧0=0)∧(goodB (putU u)∧fileU (unB (putU u)))∧((unB (putU u)).kind=(1:Int)→∀ (b1:Nat), (b1=b1∧0=0)∧(bR=bR∧0=0)∧(b1=b1∧0=0)∧(∀ (b2:Nat), (0:Int)≤0∧0 < (↑(1:Nat):Int)∧(bO=bO∧oO=oO)∧0 < 1∧(bT=bT∧0=0)∧(b2=b2∧0=0)∧(0:Int)≤0∧0 < (↑(1:Nat):Int)∧(bO=bO∧oO=oO)∧0 < 1∧(b1=b1∧0=0)∧(bT=bT∧0=0)∧((ph==(3:Int))=true→(b1=b1∧0=0)∧∃ (x1:J27), (SVeq (SV.slice 999999 0 0 [] 0 0 0 0 true) (SV.slice 510
      x1.bl x1.ol [] 4 0 x1.nl x1.cl (decide (x1.nl=0)))∧(0:Int)=0)∧(decide (x1.nl=0)=true∧x1.nl=0∧x1.cl=0)∧((bR=bR∧0=0∧false=false∧1≤1∧1≤1∧1≤1)∧(10:Int)=10∧(3:Int)=3∧false=false∧(bO=x1.ts.bO∧oO=x1.ts.oO∧0=0∧1=1∧cO=x1.ts.cO∧false=false)∧0=0∧0=0∧0=0∧0=0∧0=0∧true=true)∧((bO=x1.ts.bO∧oO=x1.ts.oO∧false=false∧1≤1∧1≤x1.ts.cO∧x1.ts.cO≤cO)∧∀ (i1:Nat), i1 <
      1→0=0∧bT=x1.ts.bT∧0=0)∧((bT=x1.ts.bT∧0=0∧false=false∧1≤1∧1≤1∧1≤1)∧(3:Int)=3∧ph=x1.ts.ph∧tme=x1.ts.tme∧ten=x1.ts.ten∧nm=x1.ts.nm∧sz=x1.ts.sz∧la=x1.ts.la∧sm=x1.ts.sm∧(bx=x1.ts.tx.1∧ox=x1.ts.tx.2.1∧0=0∧tl=x1.ts.tx.2.2.1∧cx=x1.ts.tx.2.2.2.1∧decide (tl=0)=decide (x1.ts.tx.2.2.1=0))∧bm=x1.ts.bm∧tr=x1.ts.tr∧(0:Int)=0∧wy=x1.ts.wy∧cl=x1.ts.cl∧du=x1.ts.du)∧((bx=x1.ts.tx.1∧ox=x1.ts.tx.2.1∧decide (tl=0)=decide
      (x1.ts.tx.2.2.1=0)∧x1.ts.tx.2.2.1≤tl∧x1.ts.tx.2.2.1≤x1.ts.tx.2.2.2.1∧x1.ts.tx.2.2.2.1≤cx)∧∀ (i2:Nat), i2 < x1.ts.tx.2.2.1→tx i2=x1.ts.tx.2.2.2.2 i2)∧(∀ (i3:Nat), i3 < 1→∃ (x2:Nat), x2 < 1∧(bm, 0)=(x1.ts.bm, 0)∧(∀ (v1:Int), h v1=x1.ts.h v1)∧∀ (v2:Int), h v2=true→ge v2=x1.ts.ge v2)∧ocapOk x1∧FOk name file (fUpd u hf) (me||decide (u.kind=(1:Int))) (en||decide (u.kind=(3:Int))) (dn||wholeB (fUpd u hf)
      (me||decide (u.kind=(1:Int))) (en||decide (u.kind=(3:Int))) (List.length file)) x1.ts∧(x1.nl=if wholeB (fUpd u hf) (me||decide (u.kind=(1:Int))) (en||decide (u.kind=(3:Int))) (List.length file)=true∧dn=false then 1 else 0)∧(x1.nl=1→x1.enm=name∧x1.efl=file))∧((ph==(3:Int))=false→(bR=bR∧0=0)∧(bT=bT∧0=0)∧(bT=bT∧0=0)∧(b1=b1∧0=0)∧∀ (b3:Nat),
      (b3=b3∧0=0)∧(bT=bT∧0=0)∧((!tme)=true→(b3=b3∧0=0)∧(b3=b3∧0=0)∧((bT=bT∧0=0)∧((bT=bT∧0=0)∧((bT=bT∧0=0)∧(bT=bT∧0=0)∧((ph==(2:Int))=true→∃ (x2:Nat × TS),
      (0=0∧bR=x2.1∧0=0)∧(0=0∧bT=x2.2.bT∧0=0)∧((bR=x2.1∧0=0∧false=false∧1≤1∧1≤1∧1≤1)∧(10:Int)=10∧(3:Int)=3∧false=false∧(bO=x2.2.bO∧oO=x2.2.oO∧0=0∧1=1∧cO=x2.2.cO∧false=false)∧0=0∧0=0∧0=0∧0=0∧0=0∧true=true)∧((bT=x2.2.bT∧0=0∧false=false∧1≤1∧1≤1∧1≤1)∧(3:Int)=3∧ph=x2.2.ph∧true=x2.2.tme∧ten=x2.2.ten∧(unB (putU u)).name=x2.2.nm∧(unB (putU
      u)).size=x2.2.sz∧la=x2.2.la∧sm=x2.2.sm∧(bx=x2.2.tx.1∧ox=x2.2.tx.2.1∧0=0∧tl=x2.2.tx.2.2.1∧cx=x2.2.tx.2.2.2.1∧decide (tl=0)=decide (x2.2.tx.2.2.1=0))∧bm=x2.2.bm∧(1:Int)=x2.2.tr∧(0:Int)=0∧wy=x2.2.wy∧(10:Int)=x2.2.cl∧du=x2.2.du)∧((bx=x2.2.tx.1∧ox=x2.2.tx.2.1∧decide (tl=0)=decide (x2.2.tx.2.2.1=0)∧x2.2.tx.2.2.1≤tl∧x2.2.tx.2.2.1≤x2.2.tx.2.2.2.1∧x2.2.tx.2.2.2.1≤cx)∧∀ (i4:Nat), i4 < x2.2.tx.2.2.1→tx
      i4=x2.2.tx.2.2.2.2 i4)∧(∀ (i5:Nat), i5 < 1→∃ (x3:Nat), x3 < 1∧(bm, 0)=(x2.2.bm, 0)∧(∀ (v1:Int), h v1=x2.2.h v1)∧∀ (v2:Int), h v2=true→ge v2=x2.2.ge v2)∧(x2.2.ten=true∧Runs (↑x2.2.tx.2.2.1:Int) x2.2.h x2.2.ge∧(↑x2.2.tx.2.2.1:Int)≤x2.2.la∧x2.2.la≤(65535:Int)∧tcapOk x2.2.tx∧(finP x2.2→x2.2.sz=x2.2.la∧crc32 (Byt.of x2.2.tx.2.2.2.2 x2.2.tx.2.2.1)=x2.2.sm))∧∀ (y1:J27), chkP x2 y1→∃ (x3:J27),
      ((y1.bl=x3.bl∧y1.ol=x3.ol∧0=0∧y1.nl=x3.nl∧y1.cl=x3.cl∧decide (y1.nl=0)=decide (x3.nl=0))∧(0:Int)=0)∧((y1.bl=x3.bl∧y1.ol=x3.ol∧decide (y1.nl=0)=decide (x3.nl=0)∧x3.nl≤y1.nl∧x3.nl≤x3.cl∧x3.cl≤y1.cl)∧∀ (i6:Nat), i6 <
      x3.nl→(3:Int)=3∧(0:Int)=0∧y1.enm=x3.enm∧y1.efl=x3.efl)∧((x2.1=bR∧0=0∧false=false∧1≤1∧1≤1∧1≤1)∧(10:Int)=10∧(3:Int)=3∧false=false∧(y1.ts.bO=x3.ts.bO∧y1.ts.oO=x3.ts.oO∧0=0∧1=1∧y1.ts.cO=x3.ts.cO∧false=false)∧0=0∧0=0∧0=0∧0=0∧0=0∧true=true)∧((bO=x3.ts.bO∧oO=x3.ts.oO∧false=false∧1≤1∧1≤x3.ts.cO∧x3.ts.cO≤cO)∧∀ (i7:Nat), i7 <
      1→0=0∧bT=x3.ts.bT∧0=0)∧((y1.ts.bT=x3.ts.bT∧0=0∧false=false∧1≤1∧1≤1∧1≤1)∧(3:Int)=3∧y1.ts.ph=x3.ts.ph∧y1.ts.tme=x3.ts.tme∧y1.ts.ten=x3.ts.ten∧y1.ts.nm=x3.ts.nm∧y1.ts.sz=x3.ts.sz∧y1.ts.la=x3.ts.la∧y1.ts.sm=x3.ts.sm∧(y1.ts.tx.1=x3.ts.tx.1∧y1.ts.tx.2.1=x3.ts.tx.2.1∧0=0∧y1.ts.tx.2.2.1=x3.ts.tx.2.2.1∧y1.ts.tx.2.2.2.1=x3.ts.tx.2.2.2.1∧decide (y1.ts.tx.2.2.1=0)=decide
      (x3.ts.tx.2.2.1=0))∧y1.ts.bm=x3.ts.bm∧y1.ts.tr=x3.ts.tr∧(0:Int)=0∧y1.ts.wy=x3.ts.wy∧y1.ts.cl=x3.ts.cl∧y1.ts.du=x3.ts.du)∧((y1.ts.tx.1=x3.ts.tx.1∧y1.ts.tx.2.1=x3.ts.tx.2.1∧decide (y1.ts.tx.2.2.1=0)=decide (x3.ts.tx.2.2.1=0)∧x3.ts.tx.2.2.1≤y1.ts.tx.2.2.1∧x3.ts.tx.2.2.1≤x3.ts.tx.2.2.2.1∧x3.ts.tx.2.2.2.1≤y1.ts.tx.2.2.2.1)∧∀ (i8:Nat), i8 < x3.ts.tx.2.2.1→y1.ts.tx.2.2.2.2 i8=x3.ts.tx.2.2.2.2 i8)∧(∀
      (i9:Nat), i9 < 1→∃ (x4:Nat), x4 < 1∧(y1.ts.bm, 0)=(x3.ts.bm, 0)∧(∀ (v1:Int), y1.ts.h v1=x3.ts.h v1)∧∀ (v2:Int), y1.ts.h v2=true→y1.ts.ge v2=x3.ts.ge v2)∧ocapOk x3∧FOk name file (fUpd u hf) (me||decide (u.kind=(1:Int))) (en||decide (u.kind=(3:Int))) (dn||wholeB (fUpd u hf) (me||decide (u.kind=(1:Int))) (en||decide (u.kind=(3:Int))) (List.length file)) x3.ts∧(x3.nl=if wholeB (fUpd u hf) (me||decide
      (u.kind=(1:Int))) (en||decide (u.kind=(3:Int))) (List.length file)=true∧dn=false then 1 else 0)∧(x3.nl=1→x3.enm=name∧x3.efl=file))∧((ph==(2:Int))=false→∃ (x3:J27), (SVeq (SV.slice 999999 0 0 [] 0 0 0 0 true) (SV.slice 510 x3.bl x3.ol [] 4 0 x3.nl x3.cl (decide (x3.nl=0)))∧(0:Int)=0)∧(decide
      (x3.nl=0)=true∧x3.nl=0∧x3.cl=0)∧((bR=bR∧0=0∧false=false∧1≤1∧1≤1∧1≤1)∧(10:Int)=10∧(3:Int)=3∧false=false∧(bO=x3.ts.bO∧oO=x3.ts.oO∧0=0∧1=1∧cO=x3.ts.cO∧false=false)∧0=0∧0=0∧0=0∧0=0∧0=0∧true=true)∧((bO=x3.ts.bO∧oO=x3.ts.oO∧false=false∧1≤1∧1≤x3.ts.cO∧x3.ts.cO≤cO)∧∀ (i6:Nat), i6 < 1→0=0∧bT=x3.ts.bT∧0=0)∧((bT=x3.ts.bT∧0=0∧false=false∧1≤1∧1≤1∧1≤1)∧(3:Int)=3∧ph=x3.ts.ph∧true=x3.ts.tme∧ten=x3.ts.ten∧(unB
      (putU u)).name=x3.ts.nm∧(unB (putU u)).size=x3.ts.sz∧la=x3.ts.la∧sm=x3.ts.sm∧(bx=x3.ts.tx.1∧ox=x3.ts.tx.2.1∧0=0∧tl=x3.ts.tx.2.2.1∧cx=x3.ts.tx.2.2.2.1∧decide (tl=0)=decide (x3.ts.tx.2.2.1=0))∧bm=x3.ts.bm∧(1:Int)=x3.ts.tr∧(0:Int)=0∧wy=x3.ts.wy∧(10:Int)=x3.ts.cl∧du=x3.ts.du)∧((bx=x3.ts.tx.1∧ox=x3.ts.tx.2.1∧decide (tl=0)=decide
      (x3.ts.tx.2.2.1=0)∧x3.ts.tx.2.2.1≤tl∧x3.ts.tx.2.2.1≤x3.ts.tx.2.2.2.1∧x3.ts.tx.2.2.2.1≤cx)∧∀ (i7:Nat), i7 < x3.ts.tx.2.2.1→tx i7=x3.ts.tx.2.2.2.2 i7)∧(∀ (i8:Nat), i8 < 1→∃ (x4:Nat), x4 < 1∧(bm, 0)=(x3.ts.bm, 0)∧(∀ (v1:Int), h v1=x3.ts.h v1)∧∀ (v2:Int), h v2=true→ge v2=x3.ts.ge v2)∧ocapOk x3∧FOk name file (fUpd u hf) (me||decide (u.kind=(1:Int))) (en||decide (u.kind=(3:Int))) (dn||wholeB (fUpd u hf)
      (me||decide (u.kind=(1:Int))) (en||decide (u.kind=(3:Int))) (List.length file)) x3.ts∧(x3.nl=if wholeB (fUpd u hf) (me||decide (u.kind=(1:Int))) (en||decide (u.kind=(3:Int))) (List.length file)=true∧dn=false then 1 else 0)∧(x3.nl=1→x3.enm=name∧x3.efl=file)))∧True)∧True)∧True)∧((!tme)=false→(bT=bT∧0=0)∧((ph==(2:Int))=true→∃ (x4:Nat × TS),
      (0=0∧bR=x4.1∧0=0)∧(0=0∧bT=x4.2.bT∧0=0)∧((bR=x4.1∧0=0∧false=false∧1≤1∧1≤1∧1≤1)∧(10:Int)=10∧(3:Int)=3∧false=false∧(bO=x4.2.bO∧oO=x4.2.oO∧0=0∧1=1∧cO=x4.2.cO∧false=false)∧0=0∧0=0∧0=0∧0=0∧0=0∧true=true)∧((bT=x4.2.bT∧0=0∧false=false∧1≤1∧1≤1∧1≤1)∧(3:Int)=3∧ph=x4.2.ph∧tme=x4.2.tme∧ten=x4.2.ten∧nm=x4.2.nm∧sz=x4.2.sz∧la=x4.2.la∧sm=x4.2.sm∧(bx=x4.2.tx.1∧ox=x4.2.tx.2.1∧0=0∧tl=x4.2.tx.2.2.1∧cx=x4.2.tx.2.2.2.1∧decide
      (tl=0)=decide (x4.2.tx.2.2.1=0))∧bm=x4.2.bm∧(1:Int)=x4.2.tr∧(0:Int)=0∧wy=x4.2.wy∧(10:Int)=x4.2.cl∧du=x4.2.du)∧((bx=x4.2.tx.1∧ox=x4.2.tx.2.1∧decide (tl=0)=decide (x4.2.tx.2.2.1=0)∧x4.2.tx.2.2.1≤tl∧x4.2.tx.2.2.1≤x4.2.tx.2.2.2.1∧x4.2.tx.2.2.2.1≤cx)∧∀ (i9:Nat), i9 < x4.2.tx.2.2.1→tx i9=x4.2.tx.2.2.2.2 i9)∧(∀ (i10:Nat), i10 < 1→∃ (x5:Nat), x5 < 1∧(bm, 0)=(x4.2.bm, 0)∧(∀ (v1:Int), h v1=x4.2.h v1)∧∀
      (v2:Int), h v2=true→ge v2=x4.2.ge v2)∧(x4.2.ten=true∧Runs (↑x4.2.tx.2.2.1:Int) x4.2.h x4.2.ge∧(↑x4.2.tx.2.2.1:Int)≤x4.2.la∧x4.2.la≤(65535:Int)∧tcapOk x4.2.tx∧(finP x4.2→x4.2.sz=x4.2.la∧crc32 (Byt.of x4.2.tx.2.2.2.2 x4.2.tx.2.2.1)=x4.2.sm))∧∀ (y2:J27), chkP x4 y2→∃ (x5:J27), ((y2.bl=x5.bl∧y2.ol=x5.ol∧0=0∧y2.nl=x5.nl∧y2.cl=x5.cl∧decide (y2.nl=0)=decide
      (x5.nl=0))∧(0:Int)=0)∧((y2.bl=x5.bl∧y2.ol=x5.ol∧decide (y2.nl=0)=decide (x5.nl=0)∧x5.nl≤y2.nl∧x5.nl≤x5.cl∧x5.cl≤y2.cl)∧∀ (i11:Nat), i11 <
      x5.nl→(3:Int)=3∧(0:Int)=0∧y2.enm=x5.enm∧y2.efl=x5.efl)∧((x4.1=bR∧0=0∧false=false∧1≤1∧1≤1∧1≤1)∧(10:Int)=10∧(3:Int)=3∧false=false∧(y2.ts.bO=x5.ts.bO∧y2.ts.oO=x5.ts.oO∧0=0∧1=1∧y2.ts.cO=x5.ts.cO∧false=false)∧0=0∧0=0∧0=0∧0=0∧0=0∧true=true)∧((bO=x5.ts.bO∧oO=x5.ts.oO∧false=false∧1≤1∧1≤x5.ts.cO∧x5.ts.cO≤cO)∧∀ (i12:Nat), i12 <
      1→0=0∧bT=x5.ts.bT∧0=0)∧((y2.ts.bT=x5.ts.bT∧0=0∧false=false∧1≤1∧1≤1∧1≤1)∧(3:Int)=3∧y2.ts.ph=x5.ts.ph∧y2.ts.tme=x5.ts.tme∧y2.ts.ten=x5.ts.ten∧y2.ts.nm=x5.ts.nm∧y2.ts.sz=x5.ts.sz∧y2.ts.la=x5.ts.la∧y2.ts.sm=x5.ts.sm∧(y2.ts.tx.1=x5.ts.tx.1∧y2.ts.tx.2.1=x5.ts.tx.2.1∧0=0∧y2.ts.tx.2.2.1=x5.ts.tx.2.2.1∧y2.ts.tx.2.2.2.1=x5.ts.tx.2.2.2.1∧decide (y2.ts.tx.2.2.1=0)=decide
      (x5.ts.tx.2.2.1=0))∧y2.ts.bm=x5.ts.bm∧y2.ts.tr=x5.ts.tr∧(0:Int)=0∧y2.ts.wy=x5.ts.wy∧y2.ts.cl=x5.ts.cl∧y2.ts.du=x5.ts.du)∧((y2.ts.tx.1=x5.ts.tx.1∧y2.ts.tx.2.1=x5.ts.tx.2.1∧decide (y2.ts.tx.2.2.1=0)=decide (x5.ts.tx.2.2.1=0)∧x5.ts.tx.2.2.1≤y2.ts.tx.2.2.1∧x5.ts.tx.2.2.1≤x5.ts.tx.2.2.2.1∧x5.ts.tx.2.2.2.1≤y2.ts.tx.2.2.2.1)∧∀ (i13:Nat), i13 < x5.ts.tx.2.2.1→y2.ts.tx.2.2.2.2 i13=x5.ts.tx.2.2.2.2 i13)∧(∀
      (i14:Nat), i14 < 1→∃ (x6:Nat), x6 < 1∧(y2.ts.bm, 0)=(x5.ts.bm, 0)∧(∀ (v1:Int), y2.ts.h v1=x5.ts.h v1)∧∀ (v2:Int), y2.ts.h v2=true→y2.ts.ge v2=x5.ts.ge v2)∧ocapOk x5∧FOk name file (fUpd u hf) (me||decide (u.kind=(1:Int))) (en||decide (u.kind=(3:Int))) (dn||wholeB (fUpd u hf) (me||decide (u.kind=(1:Int))) (en||decide (u.kind=(3:Int))) (List.length file)) x5.ts∧(x5.nl=if wholeB (fUpd u hf) (me||decide
      (u.kind=(1:Int))) (en||decide (u.kind=(3:Int))) (List.length file)=true∧dn=false then 1 else 0)∧(x5.nl=1→x5.enm=name∧x5.efl=file))∧((ph==(2:Int))=false→∃ (x5:J27), (SVeq (SV.slice 999999 0 0 [] 0 0 0 0 true) (SV.slice 510 x5.bl x5.ol [] 4 0 x5.nl x5.cl (decide (x5.nl=0)))∧(0:Int)=0)∧(decide
      (x5.nl=0)=true∧x5.nl=0∧x5.cl=0)∧((bR=bR∧0=0∧false=false∧1≤1∧1≤1∧1≤1)∧(10:Int)=10∧(3:Int)=3∧false=false∧(bO=x5.ts.bO∧oO=x5.ts.oO∧0=0∧1=1∧cO=x5.ts.cO∧false=false)∧0=0∧0=0∧0=0∧0=0∧0=0∧true=true)∧((bO=x5.ts.bO∧oO=x5.ts.oO∧false=false∧1≤1∧1≤x5.ts.cO∧x5.ts.cO≤cO)∧∀ (i11:Nat), i11 <
      1→0=0∧bT=x5.ts.bT∧0=0)∧((bT=x5.ts.bT∧0=0∧false=false∧1≤1∧1≤1∧1≤1)∧(3:Int)=3∧ph=x5.ts.ph∧tme=x5.ts.tme∧ten=x5.ts.ten∧nm=x5.ts.nm∧sz=x5.ts.sz∧la=x5.ts.la∧sm=x5.ts.sm∧(bx=x5.ts.tx.1∧ox=x5.ts.tx.2.1∧0=0∧tl=x5.ts.tx.2.2.1∧cx=x5.ts.tx.2.2.2.1∧decide (tl=0)=decide (x5.ts.tx.2.2.1=0))∧bm=x5.ts.bm∧(1:Int)=x5.ts.tr∧(0:Int)=0∧wy=x5.ts.wy∧(10:Int)=x5.ts.cl∧du=x5.ts.du)∧((bx=x5.ts.tx.1∧ox=x5.ts.tx.2.1∧decide
      (tl=0)=decide (x5.ts.tx.2.2.1=0)∧x5.ts.tx.2.2.1≤tl∧x5.ts.tx.2.2.1≤x5.ts.tx.2.2.2.1∧x5.ts.tx.2.2.2.1≤cx)∧∀ (i12:Nat), i12 < x5.ts.tx.2.2.1→tx i12=x5.ts.tx.2.2.2.2 i12)∧(∀ (i13:Nat), i13 < 1→∃ (x6:Nat), x6 < 1∧(bm, 0)=(x5.ts.bm, 0)∧(∀ (v1:Int), h v1=x5.ts.h v1)∧∀ (v2:Int), h v2=true→ge v2=x5.ts.ge v2)∧ocapOk x5∧FOk name file (fUpd u hf) (me||decide (u.kind=(1:Int))) (en||decide (u.kind=(3:Int)))
      (dn||wholeB (fUpd u hf) (me||decide (u.kind=(1:Int))) (en||decide (u.kind=(3:Int))) (List.length file)) x5.ts∧(x5.nl=if wholeB (fUpd u hf) (me||decide (u.kind=(1:Int))) (en||decide (u.kind=(3:Int))) (List.length file)=true∧dn=false then 1 else 0)∧(x5.nl=1→x5.enm=name∧x5.efl=file)))))∧True)∧((unB (putU u)).kind=(2:Int)→∀ (b2:Nat), (b2=b2∧0=0)∧(bR=bR∧0=0)∧(b2=b2∧0=0)∧(∀ (b3:Nat), (0:Int)≤0∧0 <
      (↑(1:Nat):Int)∧(bO=bO∧oO=oO)∧0 < 1∧(bT=bT∧0=0)∧(b3=b3∧0=0)∧(0:Int)≤0∧0 < (↑(1:Nat):Int)∧(bO=bO∧oO=oO)∧0 < 1∧(b2=b2∧0=0)∧(bT=bT∧0=0)∧((ph==(3:Int))=true→(b2=b2∧0=0)∧∃ (x1:J27), (SVeq (SV.slice 999999 0 0 [] 0 0 0 0 true) (SV.slice 510 x1.bl x1.ol [] 4 0 x1.nl x1.cl (decide (x1.nl=0)))∧(0:Int)=0)∧(decide
      (x1.nl=0)=true∧x1.nl=0∧x1.cl=0)∧((bR=bR∧0=0∧false=false∧1≤1∧1≤1∧1≤1)∧(10:Int)=10∧(3:Int)=3∧false=false∧(bO=x1.ts.bO∧oO=x1.ts.oO∧0=0∧1=1∧cO=x1.ts.cO∧false=false)∧0=0∧0=0∧0=0∧0=0∧0=0∧true=true)∧((bO=x1.ts.bO∧oO=x1.ts.oO∧false=false∧1≤1∧1≤x1.ts.cO∧x1.ts.cO≤cO)∧∀ (i1:Nat), i1 <
      1→0=0∧bT=x1.ts.bT∧0=0)∧((bT=x1.ts.bT∧0=0∧false=false∧1≤1∧1≤1∧1≤1)∧(3:Int)=3∧ph=x1.ts.ph∧tme=x1.ts.tme∧ten=x1.ts.ten∧nm=x1.ts.nm∧sz=x1.ts.sz∧la=x1.ts.la∧sm=x1.ts.sm∧(bx=x1.ts.tx.1∧ox=x1.ts.tx.2.1∧0=0∧tl=x1.ts.tx.2.2.1∧cx=x1.ts.tx.2.2.2.1∧decide (tl=0)=decide (x1.ts.tx.2.2.1=0))∧bm=x1.ts.bm∧tr=x1.ts.tr∧(0:Int)=0∧wy=x1.ts.wy∧cl=x1.ts.cl∧du=x1.ts.du)∧((bx=x1.ts.tx.1∧ox=x1.ts.tx.2.1∧decide (tl=0)=decide
      (x1.ts.tx.2.2.1=0)∧x1.ts.tx.2.2.1≤tl∧x1.ts.tx.2.2.1≤x1.ts.tx.2.2.2.1∧x1.ts.tx.2.2.2.1≤cx)∧∀ (i2:Nat), i2 < x1.ts.tx.2.2.1→tx i2=x1.ts.tx.2.2.2.2 i2)∧(∀ (i3:Nat), i3 < 1→∃ (x2:Nat), x2 < 1∧(bm, 0)=(x1.ts.bm, 0)∧(∀ (v1:Int), h v1=x1.ts.h v1)∧∀ (v2:Int), h v2=true→ge v2=x1.ts.ge v2)∧ocapOk x1∧FOk name file (fUpd u hf) (me||decide (u.kind=(1:Int))) (en||decide (u.kind=(3:Int))) (dn||wholeB (fUpd u hf)
      (me||decide (u.kind=(1:Int))) (en||decide (u.kind=(3:Int))) (List.length file)) x1.ts∧(x1.nl=if wholeB (fUpd u hf) (me||decide (u.kind=(1:Int))) (en||decide (u.kind=(3:Int))) (List.length file)=true∧dn=false then 1 else 0)∧(x1.nl=1→x1.enm=name∧x1.efl=file))∧((ph==(3:Int))=false→(bR=bR∧0=0)∧(bT=bT∧0=0)∧(bT=bT∧0=0)∧(b2=b2∧0=0)∧∀ (b4:Nat), (b4=b4∧0=0)∧(b4=b4∧0=0)∧(b4=b4∧0=0)∧∃ (x2:TS × Int × List
      UInt8), (0=0∧bT=x2.1.bT∧0=0)∧(unB (putU u)).offset=x2.2.1∧(unB (putU u)).data=x2.2.2∧((bT=x2.1.bT∧0=0∧false=false∧1≤1∧1≤1∧1≤1)∧(3:Int)=3∧ph=x2.1.ph∧tme=x2.1.tme∧ten=x2.1.ten∧nm=x2.1.nm∧sz=x2.1.sz∧la=x2.1.la∧sm=x2.1.sm∧(bx=x2.1.tx.1∧ox=x2.1.tx.2.1∧0=0∧tl=x2.1.tx.2.2.1∧cx=x2.1.tx.2.2.2.1∧decide (tl=0)=decide
      (x2.1.tx.2.2.1=0))∧bm=x2.1.bm∧(1:Int)=x2.1.tr∧(0:Int)=0∧wy=x2.1.wy∧(10:Int)=x2.1.cl∧du=x2.1.du)∧((bx=x2.1.tx.1∧ox=x2.1.tx.2.1∧decide (tl=0)=decide (x2.1.tx.2.2.1=0)∧x2.1.tx.2.2.1≤tl∧x2.1.tx.2.2.1≤x2.1.tx.2.2.2.1∧x2.1.tx.2.2.2.1≤cx)∧∀ (i4:Nat), i4 < x2.1.tx.2.2.1→tx i4=x2.1.tx.2.2.2.2 i4)∧(∀ (i5:Nat), i5 < 1→∃ (x3:Nat), x3 < 1∧(bm, 0)=(x2.1.bm, 0)∧(∀ (v1:Int), h v1=x2.1.h v1)∧∀ (v2:Int), h
      v2=true→ge v2=x2.1.ge v2)∧(Runs (↑x2.1.tx.2.2.1:Int) x2.1.h x2.1.ge∧(0:Int)≤x2.2.1∧1≤List.length x2.2.2∧x2.2.1+(↑(List.length x2.2.2):Int)≤(65535:Int)∧x2.1.tx.2.2.1≤65535∧tcapOk x2.1.tx)∧∀ (y1:(Nat × Nat × Nat × Nat × (Nat→Int)) × (Int→Bool) × (Int→Int)), arrP x2 y1→(x2.1.bT=bT∧0=0)∧((x2.1.ph==(2:Int))=true→∃ (x3:Nat × TS),
      (0=0∧bR=x3.1∧0=0)∧(0=0∧bT=x3.2.bT∧0=0)∧((bR=x3.1∧0=0∧false=false∧1≤1∧1≤1∧1≤1)∧(10:Int)=10∧(3:Int)=3∧false=false∧(bO=x3.2.bO∧oO=x3.2.oO∧0=0∧1=1∧cO=x3.2.cO∧false=false)∧0=0∧0=0∧0=0∧0=0∧0=0∧true=true)∧((x2.1.bT=x3.2.bT∧0=0∧false=false∧1≤1∧1≤1∧1≤1)∧(3:Int)=3∧x2.1.ph=x3.2.ph∧x2.1.tme=x3.2.tme∧x2.1.ten=x3.2.ten∧x2.1.nm=x3.2.nm∧x2.1.sz=x3.2.sz∧x2.1.la=x3.2.la∧x2.1.sm=x3.2.sm∧(y1.1.1=x3.2.tx.1∧y1.1.2.1=x3.2.tx.2.1∧0=0∧y1.1.2.2.1=x3.2.tx.2.2.1∧y1.1.2.2.2.1=x3.2.tx.2.2.2.1∧decide
      (y1.1.2.2.1=0)=decide (x3.2.tx.2.2.1=0))∧x2.1.bm=x3.2.bm∧x2.1.tr=x3.2.tr∧(0:Int)=0∧x2.1.wy=x3.2.wy∧x2.1.cl=x3.2.cl∧x2.1.du=x3.2.du)∧((y1.1.1=x3.2.tx.1∧y1.1.2.1=x3.2.tx.2.1∧decide (y1.1.2.2.1=0)=decide (x3.2.tx.2.2.1=0)∧x3.2.tx.2.2.1≤y1.1.2.2.1∧x3.2.tx.2.2.1≤x3.2.tx.2.2.2.1∧x3.2.tx.2.2.2.1≤y1.1.2.2.2.1)∧∀ (i6:Nat), i6 < x3.2.tx.2.2.1→y1.1.2.2.2.2 i6=x3.2.tx.2.2.2.2 i6)∧(∀ (i7:Nat), i7 < 1→∃
      (x4:Nat), x4 < 1∧(x2.1.bm, 0)=(x3.2.bm, 0)∧(∀ (v1:Int), y1.2.1 v1=x3.2.h v1)∧∀ (v2:Int), y1.2.1 v2=true→y1.2.2 v2=x3.2.ge v2)∧(x3.2.ten=true∧Runs (↑x3.2.tx.2.2.1:Int) x3.2.h x3.2.ge∧(↑x3.2.tx.2.2.1:Int)≤x3.2.la∧x3.2.la≤(65535:Int)∧tcapOk x3.2.tx∧(finP x3.2→x3.2.sz=x3.2.la∧crc32 (Byt.of x3.2.tx.2.2.2.2 x3.2.tx.2.2.1)=x3.2.sm))∧∀ (y2:J27), chkP x3 y2→∃ (x4:J27),
      ((y2.bl=x4.bl∧y2.ol=x4.ol∧0=0∧y2.nl=x4.nl∧y2.cl=x4.cl∧decide (y2.nl=0)=decide (x4.nl=0))∧(0:Int)=0)∧((y2.bl=x4.bl∧y2.ol=x4.ol∧decide (y2.nl=0)=decide (x4.nl=0)∧x4.nl≤y2.nl∧x4.nl≤x4.cl∧x4.cl≤y2.cl)∧∀ (i8:Nat), i8 <
      x4.nl→(3:Int)=3∧(0:Int)=0∧y2.enm=x4.enm∧y2.efl=x4.efl)∧((x3.1=bR∧0=0∧false=false∧1≤1∧1≤1∧1≤1)∧(10:Int)=10∧(3:Int)=3∧false=false∧(y2.ts.bO=x4.ts.bO∧y2.ts.oO=x4.ts.oO∧0=0∧1=1∧y2.ts.cO=x4.ts.cO∧false=false)∧0=0∧0=0∧0=0∧0=0∧0=0∧true=true)∧((bO=x4.ts.bO∧oO=x4.ts.oO∧false=false∧1≤1∧1≤x4.ts.cO∧x4.ts.cO≤cO)∧∀ (i9:Nat), i9 <
      1→0=0∧bT=x4.ts.bT∧0=0)∧((y2.ts.bT=x4.ts.bT∧0=0∧false=false∧1≤1∧1≤1∧1≤1)∧(3:Int)=3∧y2.ts.ph=x4.ts.ph∧y2.ts.tme=x4.ts.tme∧y2.ts.ten=x4.ts.ten∧y2.ts.nm=x4.ts.nm∧y2.ts.sz=x4.ts.sz∧y2.ts.la=x4.ts.la∧y2.ts.sm=x4.ts.sm∧(y2.ts.tx.1=x4.ts.tx.1∧y2.ts.tx.2.1=x4.ts.tx.2.1∧0=0∧y2.ts.tx.2.2.1=x4.ts.tx.2.2.1∧y2.ts.tx.2.2.2.1=x4.ts.tx.2.2.2.1∧decide (y2.ts.tx.2.2.1=0)=decide
      (x4.ts.tx.2.2.1=0))∧y2.ts.bm=x4.ts.bm∧y2.ts.tr=x4.ts.tr∧(0:Int)=0∧y2.ts.wy=x4.ts.wy∧y2.ts.cl=x4.ts.cl∧y2.ts.du=x4.ts.du)∧((y2.ts.tx.1=x4.ts.tx.1∧y2.ts.tx.2.1=x4.ts.tx.2.1∧decide (y2.ts.tx.2.2.1=0)=decide (x4.ts.tx.2.2.1=0)∧x4.ts.tx.2.2.1≤y2.ts.tx.2.2.1∧x4.ts.tx.2.2.1≤x4.ts.tx.2.2.2.1∧x4.ts.tx.2.2.2.1≤y2.ts.tx.2.2.2.1)∧∀ (i10:Nat), i10 < x4.ts.tx.2.2.1→y2.ts.tx.2.2.2.2 i10=x4.ts.tx.2.2.2.2 i10)∧(∀
      (i11:Nat), i11 < 1→∃ (x5:Nat), x5 < 1∧(y2.ts.bm, 0)=(x4.ts.bm, 0)∧(∀ (v1:Int), y2.ts.h v1=x4.ts.h v1)∧∀ (v2:Int), y2.ts.h v2=true→y2.ts.ge v2=x4.ts.ge v2)∧ocapOk x4∧FOk name file (fUpd u hf) (me||decide (u.kind=(1:Int))) (en||decide (u.kind=(3:Int))) (dn||wholeB (fUpd u hf) (me||decide (u.kind=(1:Int))) (en||decide (u.kind=(3:Int))) (List.length file)) x4.ts∧(x4.nl=if wholeB (fUpd u hf) (me||decide
      (u.kind=(1:Int))) (en||decide (u.kind=(3:Int))) (List.length file)=true∧dn=false then 1 else 0)∧(x4.nl=1→x4.enm=name∧x4.efl=file))∧((x2.1.ph==(2:Int))=false→∃ (x4:J27), (SVeq (SV.slice 999999 0 0 [] 0 0 0 0 true) (SV.slice 510 x4.bl x4.ol [] 4 0 x4.nl x4.cl (decide (x4.nl=0)))∧(0:Int)=0)∧(decide
      (x4.nl=0)=true∧x4.nl=0∧x4.cl=0)∧((bR=bR∧0=0∧false=false∧1≤1∧1≤1∧1≤1)∧(10:Int)=10∧(3:Int)=3∧false=false∧(bO=x4.ts.bO∧oO=x4.ts.oO∧0=0∧1=1∧cO=x4.ts.cO∧false=false)∧0=0∧0=0∧0=0∧0=0∧0=0∧true=true)∧((bO=x4.ts.bO∧oO=x4.ts.oO∧false=false∧1≤1∧1≤x4.ts.cO∧x4.ts.cO≤cO)∧∀ (i8:Nat), i8 <
      1→0=0∧bT=x4.ts.bT∧0=0)∧((x2.1.bT=x4.ts.bT∧0=0∧false=false∧1≤1∧1≤1∧1≤1)∧(3:Int)=3∧x2.1.ph=x4.ts.ph∧x2.1.tme=x4.ts.tme∧x2.1.ten=x4.ts.ten∧x2.1.nm=x4.ts.nm∧x2.1.sz=x4.ts.sz∧x2.1.la=x4.ts.la∧x2.1.sm=x4.ts.sm∧(y1.1.1=x4.ts.tx.1∧y1.1.2.1=x4.ts.tx.2.1∧0=0∧y1.1.2.2.1=x4.ts.tx.2.2.1∧y1.1.2.2.2.1=x4.ts.tx.2.2.2.1∧decide (y1.1.2.2.1=0)=decide
      (x4.ts.tx.2.2.1=0))∧x2.1.bm=x4.ts.bm∧x2.1.tr=x4.ts.tr∧(0:Int)=0∧x2.1.wy=x4.ts.wy∧x2.1.cl=x4.ts.cl∧x2.1.du=x4.ts.du)∧((y1.1.1=x4.ts.tx.1∧y1.1.2.1=x4.ts.tx.2.1∧decide (y1.1.2.2.1=0)=decide (x4.ts.tx.2.2.1=0)∧x4.ts.tx.2.2.1≤y1.1.2.2.1∧x4.ts.tx.2.2.1≤x4.ts.tx.2.2.2.1∧x4.ts.tx.2.2.2.1≤y1.1.2.2.2.1)∧∀ (i9:Nat), i9 < x4.ts.tx.2.2.1→y1.1.2.2.2.2 i9=x4.ts.tx.2.2.2.2 i9)∧(∀ (i10:Nat), i10 < 1→∃ (x5:Nat), x5
      < 1∧(x2.1.bm, 0)=(x4.ts.bm, 0)∧(∀ (v1:Int), y1.2.1 v1=x4.ts.h v1)∧∀ (v2:Int), y1.2.1 v2=true→y1.2.2 v2=x4.ts.ge v2)∧ocapOk x4∧FOk name file (fUpd u hf) (me||decide (u.kind=(1:Int))) (en||decide (u.kind=(3:Int))) (dn||wholeB (fUpd u hf) (me||decide (u.kind=(1:Int))) (en||decide (u.kind=(3:Int))) (List.length file)) x4.ts∧(x4.nl=if wholeB (fUpd u hf) (me||decide (u.kind=(1:Int))) (en||decide
      (u.kind=(3:Int))) (List.length file)=true∧dn=false then 1 else 0)∧(x4.nl=1→x4.enm=name∧x4.efl=file))))∧True)∧((unB (putU u)).kind=(3:Int)→∀ (b3:Nat), (b3=b3∧0=0)∧(bR=bR∧0=0)∧(b3=b3∧0=0)∧(∀ (b4:Nat), (0:Int)≤0∧0 < (↑(1:Nat):Int)∧(bO=bO∧oO=oO)∧0 < 1∧(bT=bT∧0=0)∧(b4=b4∧0=0)∧(0:Int)≤0∧0 < (↑(1:Nat):Int)∧(bO=bO∧oO=oO)∧0 <
      1∧(b3=b3∧0=0)∧(bT=bT∧0=0)∧((ph==(3:Int))=true→(b3=b3∧0=0)∧(bT=bT∧0=0)∧(bT=bT∧0=0)∧∃ (x1:J27), (SVeq (SV.slice 999999 0 0 [] 0 0 0 0 true) (SV.slice 510 x1.bl x1.ol [] 4 0 x1.nl x1.cl (decide (x1.nl=0)))∧(0:Int)=0)∧(decide
      (x1.nl=0)=true∧x1.nl=0∧x1.cl=0)∧((bR=bR∧0=0∧false=false∧1≤1∧1≤1∧1≤1)∧(10:Int)=10∧(3:Int)=3∧false=false∧(bO=x1.ts.bO∧oO=x1.ts.oO∧0=0∧1=1∧cO=x1.ts.cO∧false=false)∧0=0∧0=0∧0=0∧0=0∧0=0∧true=true)∧((bO=x1.ts.bO∧oO=x1.ts.oO∧false=false∧1≤1∧1≤x1.ts.cO∧x1.ts.cO≤cO)∧∀ (i1:Nat), i1 <
      1→0=0∧bT=x1.ts.bT∧0=0)∧((bT=x1.ts.bT∧0=0∧false=false∧1≤1∧1≤1∧1≤1)∧(3:Int)=3∧ph=x1.ts.ph∧tme=x1.ts.tme∧ten=x1.ts.ten∧nm=x1.ts.nm∧sz=x1.ts.sz∧la=x1.ts.la∧sm=x1.ts.sm∧(bx=x1.ts.tx.1∧ox=x1.ts.tx.2.1∧0=0∧tl=x1.ts.tx.2.2.1∧cx=x1.ts.tx.2.2.2.1∧decide (tl=0)=decide (x1.ts.tx.2.2.1=0))∧bm=x1.ts.bm∧tr=x1.ts.tr∧(0:Int)=0∧wy=x1.ts.wy∧cl=x1.ts.cl∧IntKind.i64.wrap (↑(BitVec.toNat (BitVec.ofInt IntKind.i64.bits
      du ||| BitVec.ofInt IntKind.i64.bits (5:Int))):Int)=x1.ts.du)∧((bx=x1.ts.tx.1∧ox=x1.ts.tx.2.1∧decide (tl=0)=decide (x1.ts.tx.2.2.1=0)∧x1.ts.tx.2.2.1≤tl∧x1.ts.tx.2.2.1≤x1.ts.tx.2.2.2.1∧x1.ts.tx.2.2.2.1≤cx)∧∀ (i2:Nat), i2 < x1.ts.tx.2.2.1→tx i2=x1.ts.tx.2.2.2.2 i2)∧(∀ (i3:Nat), i3 < 1→∃ (x2:Nat), x2 < 1∧(bm, 0)=(x1.ts.bm, 0)∧(∀ (v1:Int), h v1=x1.ts.h v1)∧∀ (v2:Int), h v2=true→ge v2=x1.ts.ge
      v2)∧ocapOk x1∧FOk name file (fUpd u hf) (me||decide (u.kind=(1:Int))) (en||decide (u.kind=(3:Int))) (dn||wholeB (fUpd u hf) (me||decide (u.kind=(1:Int))) (en||decide (u.kind=(3:Int))) (List.length file)) x1.ts∧(x1.nl=if wholeB (fUpd u hf) (me||decide (u.kind=(1:Int))) (en||decide (u.kind=(3:Int))) (List.length file)=true∧dn=false then 1 else
      0)∧(x1.nl=1→x1.enm=name∧x1.efl=file))∧((ph==(3:Int))=false→(bR=bR∧0=0)∧(bT=bT∧0=0)∧(bT=bT∧0=0)∧(b3=b3∧0=0)∧∀ (b5:Nat), (b5=b5∧0=0)∧(bT=bT∧0=0)∧∀ (v1:Int), v1=IntKind.i64.wrap (↑(BitVec.toNat (BitVec.ofInt IntKind.i64.bits du ||| BitVec.ofInt IntKind.i64.bits
      (1:Int))):Int)→(bT=bT∧0=0)∧(b5=b5∧0=0)∧(bT=bT∧0=0)∧((ph==(1:Int))=true→(b5=b5∧0=0)∧(b5=b5∧0=0)∧((bT=bT∧0=0)∧((bT=bT∧0=0)∧((bT=bT∧0=0)∧((bT=bT∧0=0)∧(bT=bT∧0=0)∧∀ (v2:Int), v2=IntKind.i64.wrap (↑(BitVec.toNat (BitVec.ofInt IntKind.i64.bits v1 ||| BitVec.ofInt IntKind.i64.bits (2:Int))):Int)→(bT=bT∧0=0)∧(bT=bT∧0=0)∧(((2:Int)==(2:Int))=true→∃ (x2:Nat × TS),
      (0=0∧bR=x2.1∧0=0)∧(0=0∧bT=x2.2.bT∧0=0)∧((bR=x2.1∧0=0∧false=false∧1≤1∧1≤1∧1≤1)∧(10:Int)=10∧(3:Int)=3∧false=false∧(bO=x2.2.bO∧oO=x2.2.oO∧0=0∧1=1∧cO=x2.2.cO∧false=false)∧0=0∧0=0∧0=0∧0=0∧0=0∧true=true)∧((bT=x2.2.bT∧0=0∧false=false∧1≤1∧1≤1∧1≤1)∧(3:Int)=3∧(2:Int)=x2.2.ph∧tme=x2.2.tme∧true=x2.2.ten∧nm=x2.2.nm∧sz=x2.2.sz∧(unB (putU u)).size=x2.2.la∧(unB (putU
      u)).sum=x2.2.sm∧(bx=x2.2.tx.1∧ox=x2.2.tx.2.1∧0=0∧tl=x2.2.tx.2.2.1∧cx=x2.2.tx.2.2.2.1∧decide (tl=0)=decide (x2.2.tx.2.2.1=0))∧bm=x2.2.bm∧(1:Int)=x2.2.tr∧(0:Int)=0∧wy=x2.2.wy∧(10:Int)=x2.2.cl∧v2=x2.2.du)∧((bx=x2.2.tx.1∧ox=x2.2.tx.2.1∧decide (tl=0)=decide (x2.2.tx.2.2.1=0)∧x2.2.tx.2.2.1≤tl∧x2.2.tx.2.2.1≤x2.2.tx.2.2.2.1∧x2.2.tx.2.2.2.1≤cx)∧∀ (i4:Nat), i4 < x2.2.tx.2.2.1→tx i4=x2.2.tx.2.2.2.2 i4)∧(∀
      (i5:Nat), i5 < 1→∃ (x3:Nat), x3 < 1∧(bm, 0)=(x2.2.bm, 0)∧(∀ (v3:Int), h v3=x2.2.h v3)∧∀ (v4:Int), h v4=true→ge v4=x2.2.ge v4)∧(x2.2.ten=true∧Runs (↑x2.2.tx.2.2.1:Int) x2.2.h x2.2.ge∧(↑x2.2.tx.2.2.1:Int)≤x2.2.la∧x2.2.la≤(65535:Int)∧tcapOk x2.2.tx∧(finP x2.2→x2.2.sz=x2.2.la∧crc32 (Byt.of x2.2.tx.2.2.2.2 x2.2.tx.2.2.1)=x2.2.sm))∧∀ (y1:J27), chkP x2 y1→∃ (x3:J27),
      ((y1.bl=x3.bl∧y1.ol=x3.ol∧0=0∧y1.nl=x3.nl∧y1.cl=x3.cl∧decide (y1.nl=0)=decide (x3.nl=0))∧(0:Int)=0)∧((y1.bl=x3.bl∧y1.ol=x3.ol∧decide (y1.nl=0)=decide (x3.nl=0)∧x3.nl≤y1.nl∧x3.nl≤x3.cl∧x3.cl≤y1.cl)∧∀ (i6:Nat), i6 <
      x3.nl→(3:Int)=3∧(0:Int)=0∧y1.enm=x3.enm∧y1.efl=x3.efl)∧((x2.1=bR∧0=0∧false=false∧1≤1∧1≤1∧1≤1)∧(10:Int)=10∧(3:Int)=3∧false=false∧(y1.ts.bO=x3.ts.bO∧y1.ts.oO=x3.ts.oO∧0=0∧1=1∧y1.ts.cO=x3.ts.cO∧false=false)∧0=0∧0=0∧0=0∧0=0∧0=0∧true=true)∧((bO=x3.ts.bO∧oO=x3.ts.oO∧false=false∧1≤1∧1≤x3.ts.cO∧x3.ts.cO≤cO)∧∀ (i7:Nat), i7 <
      1→0=0∧bT=x3.ts.bT∧0=0)∧((y1.ts.bT=x3.ts.bT∧0=0∧false=false∧1≤1∧1≤1∧1≤1)∧(3:Int)=3∧y1.ts.ph=x3.ts.ph∧y1.ts.tme=x3.ts.tme∧y1.ts.ten=x3.ts.ten∧y1.ts.nm=x3.ts.nm∧y1.ts.sz=x3.ts.sz∧y1.ts.la=x3.ts.la∧y1.ts.sm=x3.ts.sm∧(y1.ts.tx.1=x3.ts.tx.1∧y1.ts.tx.2.1=x3.ts.tx.2.1∧0=0∧y1.ts.tx.2.2.1=x3.ts.tx.2.2.1∧y1.ts.tx.2.2.2.1=x3.ts.tx.2.2.2.1∧decide (y1.ts.tx.2.2.1=0)=decide
      (x3.ts.tx.2.2.1=0))∧y1.ts.bm=x3.ts.bm∧y1.ts.tr=x3.ts.tr∧(0:Int)=0∧y1.ts.wy=x3.ts.wy∧y1.ts.cl=x3.ts.cl∧y1.ts.du=x3.ts.du)∧((y1.ts.tx.1=x3.ts.tx.1∧y1.ts.tx.2.1=x3.ts.tx.2.1∧decide (y1.ts.tx.2.2.1=0)=decide (x3.ts.tx.2.2.1=0)∧x3.ts.tx.2.2.1≤y1.ts.tx.2.2.1∧x3.ts.tx.2.2.1≤x3.ts.tx.2.2.2.1∧x3.ts.tx.2.2.2.1≤y1.ts.tx.2.2.2.1)∧∀ (i8:Nat), i8 < x3.ts.tx.2.2.1→y1.ts.tx.2.2.2.2 i8=x3.ts.tx.2.2.2.2 i8)∧(∀
      (i9:Nat), i9 < 1→∃ (x4:Nat), x4 < 1∧(y1.ts.bm, 0)=(x3.ts.bm, 0)∧(∀ (v3:Int), y1.ts.h v3=x3.ts.h v3)∧∀ (v4:Int), y1.ts.h v4=true→y1.ts.ge v4=x3.ts.ge v4)∧ocapOk x3∧FOk name file (fUpd u hf) (me||decide (u.kind=(1:Int))) (en||decide (u.kind=(3:Int))) (dn||wholeB (fUpd u hf) (me||decide (u.kind=(1:Int))) (en||decide (u.kind=(3:Int))) (List.length file)) x3.ts∧(x3.nl=if wholeB (fUpd u hf) (me||decide
      (u.kind=(1:Int))) (en||decide (u.kind=(3:Int))) (List.length file)=true∧dn=false then 1 else 0)∧(x3.nl=1→x3.enm=name∧x3.efl=file))∧(((2:Int)==(2:Int))=false→∃ (x3:J27), (SVeq (SV.slice 999999 0 0 [] 0 0 0 0 true) (SV.slice 510 x3.bl x3.ol [] 4 0 x3.nl x3.cl (decide (x3.nl=0)))∧(0:Int)=0)∧(decide
      (x3.nl=0)=true∧x3.nl=0∧x3.cl=0)∧((bR=bR∧0=0∧false=false∧1≤1∧1≤1∧1≤1)∧(10:Int)=10∧(3:Int)=3∧false=false∧(bO=x3.ts.bO∧oO=x3.ts.oO∧0=0∧1=1∧cO=x3.ts.cO∧false=false)∧0=0∧0=0∧0=0∧0=0∧0=0∧true=true)∧((bO=x3.ts.bO∧oO=x3.ts.oO∧false=false∧1≤1∧1≤x3.ts.cO∧x3.ts.cO≤cO)∧∀ (i6:Nat), i6 <
      1→0=0∧bT=x3.ts.bT∧0=0)∧((bT=x3.ts.bT∧0=0∧false=false∧1≤1∧1≤1∧1≤1)∧(3:Int)=3∧(2:Int)=x3.ts.ph∧tme=x3.ts.tme∧true=x3.ts.ten∧nm=x3.ts.nm∧sz=x3.ts.sz∧(unB (putU u)).size=x3.ts.la∧(unB (putU u)).sum=x3.ts.sm∧(bx=x3.ts.tx.1∧ox=x3.ts.tx.2.1∧0=0∧tl=x3.ts.tx.2.2.1∧cx=x3.ts.tx.2.2.2.1∧decide (tl=0)=decide
      (x3.ts.tx.2.2.1=0))∧bm=x3.ts.bm∧(1:Int)=x3.ts.tr∧(0:Int)=0∧wy=x3.ts.wy∧(10:Int)=x3.ts.cl∧v2=x3.ts.du)∧((bx=x3.ts.tx.1∧ox=x3.ts.tx.2.1∧decide (tl=0)=decide (x3.ts.tx.2.2.1=0)∧x3.ts.tx.2.2.1≤tl∧x3.ts.tx.2.2.1≤x3.ts.tx.2.2.2.1∧x3.ts.tx.2.2.2.1≤cx)∧∀ (i7:Nat), i7 < x3.ts.tx.2.2.1→tx i7=x3.ts.tx.2.2.2.2 i7)∧(∀ (i8:Nat), i8 < 1→∃ (x4:Nat), x4 < 1∧(bm, 0)=(x3.ts.bm, 0)∧(∀ (v3:Int), h v3=x3.ts.h v3)∧∀
      (v4:Int), h v4=true→ge v4=x3.ts.ge v4)∧ocapOk x3∧FOk name file (fUpd u hf) (me||decide (u.kind=(1:Int))) (en||decide (u.kind=(3:Int))) (dn||wholeB (fUpd u hf) (me||decide (u.kind=(1:Int))) (en||decide (u.kind=(3:Int))) (List.length file)) x3.ts∧(x3.nl=if wholeB (fUpd u hf) (me||decide (u.kind=(1:Int))) (en||decide (u.kind=(3:Int))) (List.length file)=true∧dn=false then 1 else
      0)∧(x3.nl=1→x3.enm=name∧x3.efl=file)))∧True)∧True)∧True)∧True)∧((ph==(1:Int))=false→(bT=bT∧0=0)∧((ph==(2:Int))=true→∃ (x2:Nat × TS),
      (0=0∧bR=x2.1∧0=0)∧(0=0∧bT=x2.2.bT∧0=0)∧((bR=x2.1∧0=0∧false=false∧1≤1∧1≤1∧1≤1)∧(10:Int)=10∧(3:Int)=3∧false=false∧(bO=x2.2.bO∧oO=x2.2.oO∧0=0∧1=1∧cO=x2.2.cO∧false=false)∧0=0∧0=0∧0=0∧0=0∧0=0∧true=true)∧((bT=x2.2.bT∧0=0∧false=false∧1≤1∧1≤1∧1≤1)∧(3:Int)=3∧ph=x2.2.ph∧tme=x2.2.tme∧ten=x2.2.ten∧nm=x2.2.nm∧sz=x2.2.sz∧la=x2.2.la∧sm=x2.2.sm∧(bx=x2.2.tx.1∧ox=x2.2.tx.2.1∧0=0∧tl=x2.2.tx.2.2.1∧cx=x2.2.tx.2.2.2.1∧decide
      (tl=0)=decide (x2.2.tx.2.2.1=0))∧bm=x2.2.bm∧(1:Int)=x2.2.tr∧(0:Int)=0∧wy=x2.2.wy∧(10:Int)=x2.2.cl∧v1=x2.2.du)∧((bx=x2.2.tx.1∧ox=x2.2.tx.2.1∧decide (tl=0)=decide (x2.2.tx.2.2.1=0)∧x2.2.tx.2.2.1≤tl∧x2.2.tx.2.2.1≤x2.2.tx.2.2.2.1∧x2.2.tx.2.2.2.1≤cx)∧∀ (i4:Nat), i4 < x2.2.tx.2.2.1→tx i4=x2.2.tx.2.2.2.2 i4)∧(∀ (i5:Nat), i5 < 1→∃ (x3:Nat), x3 < 1∧(bm, 0)=(x2.2.bm, 0)∧(∀ (v3:Int), h v3=x2.2.h v3)∧∀
      (v4:Int), h v4=true→ge v4=x2.2.ge v4)∧(x2.2.ten=true∧Runs (↑x2.2.tx.2.2.1:Int) x2.2.h x2.2.ge∧(↑x2.2.tx.2.2.1:Int)≤x2.2.la∧x2.2.la≤(65535:Int)∧tcapOk x2.2.tx∧(finP x2.2→x2.2.sz=x2.2.la∧crc32 (Byt.of x2.2.tx.2.2.2.2 x2.2.tx.2.2.1)=x2.2.sm))∧∀ (y1:J27), chkP x2 y1→∃ (x3:J27), ((y1.bl=x3.bl∧y1.ol=x3.ol∧0=0∧y1.nl=x3.nl∧y1.cl=x3.cl∧decide (y1.nl=0)=decide
      (x3.nl=0))∧(0:Int)=0)∧((y1.bl=x3.bl∧y1.ol=x3.ol∧decide (y1.nl=0)=decide (x3.nl=0)∧x3.nl≤y1.nl∧x3.nl≤x3.cl∧x3.cl≤y1.cl)∧∀ (i6:Nat), i6 <
      x3.nl→(3:Int)=3∧(0:Int)=0∧y1.enm=x3.enm∧y1.efl=x3.efl)∧((x2.1=bR∧0=0∧false=false∧1≤1∧1≤1∧1≤1)∧(10:Int)=10∧(3:Int)=3∧false=false∧(y1.ts.bO=x3.ts.bO∧y1.ts.oO=x3.ts.oO∧0=0∧1=1∧y1.ts.cO=x3.ts.cO∧false=false)∧0=0∧0=0∧0=0∧0=0∧0=0∧true=true)∧((bO=x3.ts.bO∧oO=x3.ts.oO∧false=false∧1≤1∧1≤x3.ts.cO∧x3.ts.cO≤cO)∧∀ (i7:Nat), i7 <
      1→0=0∧bT=x3.ts.bT∧0=0)∧((y1.ts.bT=x3.ts.bT∧0=0∧false=false∧1≤1∧1≤1∧1≤1)∧(3:Int)=3∧y1.ts.ph=x3.ts.ph∧y1.ts.tme=x3.ts.tme∧y1.ts.ten=x3.ts.ten∧y1.ts.nm=x3.ts.nm∧y1.ts.sz=x3.ts.sz∧y1.ts.la=x3.ts.la∧y1.ts.sm=x3.ts.sm∧(y1.ts.tx.1=x3.ts.tx.1∧y1.ts.tx.2.1=x3.ts.tx.2.1∧0=0∧y1.ts.tx.2.2.1=x3.ts.tx.2.2.1∧y1.ts.tx.2.2.2.1=x3.ts.tx.2.2.2.1∧decide (y1.ts.tx.2.2.1=0)=decide
      (x3.ts.tx.2.2.1=0))∧y1.ts.bm=x3.ts.bm∧y1.ts.tr=x3.ts.tr∧(0:Int)=0∧y1.ts.wy=x3.ts.wy∧y1.ts.cl=x3.ts.cl∧y1.ts.du=x3.ts.du)∧((y1.ts.tx.1=x3.ts.tx.1∧y1.ts.tx.2.1=x3.ts.tx.2.1∧decide (y1.ts.tx.2.2.1=0)=decide (x3.ts.tx.2.2.1=0)∧x3.ts.tx.2.2.1≤y1.ts.tx.2.2.1∧x3.ts.tx.2.2.1≤x3.ts.tx.2.2.2.1∧x3.ts.tx.2.2.2.1≤y1.ts.tx.2.2.2.1)∧∀ (i8:Nat), i8 < x3.ts.tx.2.2.1→y1.ts.tx.2.2.2.2 i8=x3.ts.tx.2.2.2.2 i8)∧(∀
      (i9:Nat), i9 < 1→∃ (x4:Nat), x4 < 1∧(y1.ts.bm, 0)=(x3.ts.bm, 0)∧(∀ (v3:Int), y1.ts.h v3=x3.ts.h v3)∧∀ (v4:Int), y1.ts.h v4=true→y1.ts.ge v4=x3.ts.ge v4)∧ocapOk x3∧FOk name file (fUpd u hf) (me||decide (u.kind=(1:Int))) (en||decide (u.kind=(3:Int))) (dn||wholeB (fUpd u hf) (me||decide (u.kind=(1:Int))) (en||decide (u.kind=(3:Int))) (List.length file)) x3.ts∧(x3.nl=if wholeB (fUpd u hf) (me||decide
      (u.kind=(1:Int))) (en||decide (u.kind=(3:Int))) (List.length file)=true∧dn=false then 1 else 0)∧(x3.nl=1→x3.enm=name∧x3.efl=file))∧((ph==(2:Int))=false→∃ (x3:J27), (SVeq (SV.slice 999999 0 0 [] 0 0 0 0 true) (SV.slice 510 x3.bl x3.ol [] 4 0 x3.nl x3.cl (decide (x3.nl=0)))∧(0:Int)=0)∧(decide
      (x3.nl=0)=true∧x3.nl=0∧x3.cl=0)∧((bR=bR∧0=0∧false=false∧1≤1∧1≤1∧1≤1)∧(10:Int)=10∧(3:Int)=3∧false=false∧(bO=x3.ts.bO∧oO=x3.ts.oO∧0=0∧1=1∧cO=x3.ts.cO∧false=false)∧0=0∧0=0∧0=0∧0=0∧0=0∧true=true)∧((bO=x3.ts.bO∧oO=x3.ts.oO∧false=false∧1≤1∧1≤x3.ts.cO∧x3.ts.cO≤cO)∧∀ (i6:Nat), i6 <
      1→0=0∧bT=x3.ts.bT∧0=0)∧((bT=x3.ts.bT∧0=0∧false=false∧1≤1∧1≤1∧1≤1)∧(3:Int)=3∧ph=x3.ts.ph∧tme=x3.ts.tme∧ten=x3.ts.ten∧nm=x3.ts.nm∧sz=x3.ts.sz∧la=x3.ts.la∧sm=x3.ts.sm∧(bx=x3.ts.tx.1∧ox=x3.ts.tx.2.1∧0=0∧tl=x3.ts.tx.2.2.1∧cx=x3.ts.tx.2.2.2.1∧decide (tl=0)=decide (x3.ts.tx.2.2.1=0))∧bm=x3.ts.bm∧(1:Int)=x3.ts.tr∧(0:Int)=0∧wy=x3.ts.wy∧(10:Int)=x3.ts.cl∧v1=x3.ts.du)∧((bx=x3.ts.tx.1∧ox=x3.ts.tx.2.1∧decide
      (tl=0)=decide (x3.ts.tx.2.2.1=0)∧x3.ts.tx.2.2.1≤tl∧x3.ts.tx.2.2.1≤x3.ts.tx.2.2.2.1∧x3.ts.tx.2.2.2.1≤cx)∧∀ (i7:Nat), i7 < x3.ts.tx.2.2.1→tx i7=x3.ts.tx.2.2.2.2 i7)∧(∀ (i8:Nat), i8 < 1→∃ (x4:Nat), x4 < 1∧(bm, 0)=(x3.ts.bm, 0)∧(∀ (v3:Int), h v3=x3.ts.h v3)∧∀ (v4:Int), h v4=true→ge v4=x3.ts.ge v4)∧ocapOk x3∧FOk name file (fUpd u hf) (me||decide (u.kind=(1:Int))) (en||decide (u.kind=(3:Int)))
      (dn||wholeB (fUpd u hf) (me||decide (u.kind=(1:Int))) (en||decide (u.kind=(3:Int))) (List.length file)) x3.ts∧(x3.nl=if wholeB (fUpd u hf) (me||decide (u.kind=(1:Int))) (en||decide (u.kind=(3:Int))) (List.length file)=true∧dn=false then 1 else 0)∧(x3.nl=1→x3.enm=name∧x3.efl=file)))))∧True)) (by kernel_rfl) ?_
  obtain ⟨hF, hU, g1, g2, g3⟩ := hi
  dsimp only at hF hU g1 g2 g3
  obtain ⟨ok, sm4⟩ := hU.ok g1 g2 g3
  rw [unB_putU ok sm4]
  have hc := hF.cap
  have hdn : (ph == 3) = true → dn = true := fun q => by
    cases dn with
    | true => rfl
    | false =>
      have h1 : ph = if en = true then 2 else 1 := (hF.ed rfl).2.2
      have h2 : ph = 3 := by simpa using q
      split at h1 <;> omega
  have hdn0 : (ph == 3) = false → dn = false := fun q => by
    cases dn with
    | false => rfl
    | true => rw [show ph = 3 from (hF.done rfl).1] at q; cases q
  have hen : dn = false → (ph == 2) = true → en = true := fun q p => by
    cases en with
    | true => rfl
    | false => rw [show ph = 1 from (hF.ed q).2.2] at p; cases p
  have hen0 : dn = false → (ph == 2) = false → en = false := fun q p => by
    cases en with
    | false => rfl
    | true => rw [show ph = 2 from (hF.ed q).2.2] at p; cases p
  refine ⟨fun _ => ⟨rfl, rfl⟩, ⟨goodB_putU ok sm4, hU.file⟩, fun hk => ?_, fun hk => ?_, fun hk => ?_⟩
  · obtain ⟨hu, em, ee, fu⟩ := hU.k1 hk me en hf
    rw [em, ee, fu]
    subst hu
    repeat' (first | with_reducible exact rfl | exact trivial | exact Nat.le_refl _ | exact Int.le_refl _ | exact Int.one_pos | exact Nat.one_pos | exact nil_eqv rfl rfl rfl | exact ⟨0, by decide, rfl, fun _ => rfl, fun _ _ => rfl⟩ | refine And.intro ?_ ?_ | intro _)
    · rename_i q
      obtain rfl := hdn q
      obtain ⟨d1, d2, d3, d4⟩ := hF.done rfl
      refine ⟨⟨⟨bT, bO, oO, cO, ph, tme, ten, nm, sz, la, sm, (bx, ox, tl, cx, tx), bm, h, ge, tr, wy, cl, du⟩, 0, 0, 0, 0, [], []⟩, ?_⟩
      repeat' (first | with_reducible exact rfl | exact (hF.tk2 (du := du) rfl d3 d4) | exact hc.1 | exact hF.tcap.1 | exact trivial | exact Nat.le_refl _ | exact Int.le_refl _ | exact Int.one_pos | exact Nat.one_pos | exact nil_eqv rfl rfl rfl | exact ⟨0, by decide, rfl, fun _ => rfl, fun _ _ => rfl⟩ | refine And.intro ?_ ?_ | intro _ | exact rfl)
    · rename_i q _ m p
      obtain rfl := hdn0 q
      obtain rfl := hen rfl p
      refine ⟨(bR, ⟨bT, bO, oO, cO, ph, true, ten, name, file.length, la, sm, (bx, ox, tl, cx, tx), bm, h, ge, 1, wy, 10, du⟩), ?_⟩
      have hh := ((hF.pre.meta1 (by simpa using m)).tick 1 wy 10 du)
      repeat' (first | with_reducible exact rfl | exact (hh.asks g3 bR) | exact hc.1 | exact hh.tcap.1 | exact trivial | exact Nat.le_refl _ | exact Int.le_refl _ | exact Int.one_pos | exact Nat.one_pos | exact nil_eqv rfl rfl rfl | exact ⟨0, by decide, rfl, fun _ => rfl, fun _ _ => rfl⟩ | refine And.intro ?_ ?_ | intro _ | exact rfl)
      rename_i y hy
      obtain ⟨s1, s2, s3, s4⟩ := hy.same
      refine ⟨y, ?_⟩
      have hz := hh.tk1 hc hy
      repeat' (first | with_reducible exact rfl | exact hz | exact hc.1 | exact hh.tcap.1 | exact trivial | exact Nat.le_refl _ | exact Int.le_refl _ | exact Int.one_pos | exact Nat.one_pos | exact nil_eqv rfl rfl rfl | exact ⟨0, by decide, rfl, fun _ => rfl, fun _ _ => rfl⟩ | refine And.intro ?_ ?_ | intro _ | exact rfl)
      all_goals (first | exact s1.symm | exact s2.symm | exact s3.symm | exact s4.symm | (show 1 ≤ _; rw [s4]; exact hc.1) | exact hy.1.1 | exact hz.2.1.tcap.1 | exact Nat.le_of_eq s4)
    · rename_i q _ m p
      obtain rfl := hdn0 q
      obtain rfl := hen0 rfl p
      refine ⟨⟨⟨bT, bO, oO, cO, ph, true, ten, name, file.length, la, sm, (bx, ox, tl, cx, tx), bm, h, ge, 1, wy, 10, du⟩, 0, 0, 0, 0, [], []⟩, ?_⟩
      repeat' (first | with_reducible exact rfl | exact (((hF.pre.meta1 (by simpa using m)).tick 1 wy 10 du).tk0 hc) | exact hc.1 | exact hF.tcap.1 | exact trivial | exact Nat.le_refl _ | exact Int.le_refl _ | exact Int.one_pos | exact Nat.one_pos | exact nil_eqv rfl rfl rfl | exact ⟨0, by decide, rfl, fun _ => rfl, fun _ _ => rfl⟩ | refine And.intro ?_ ?_ | intro _ | exact rfl)
    · rename_i q _ m p
      obtain rfl := hdn0 q
      obtain rfl := hen rfl p
      refine ⟨(bR, ⟨bT, bO, oO, cO, ph, tme, ten, nm, sz, la, sm, (bx, ox, tl, cx, tx), bm, h, ge, 1, wy, 10, du⟩), ?_⟩
      have hh := ((hF.pre.meta2 (by simpa using m)).tick 1 wy 10 du)
      repeat' (first | with_reducible exact rfl | exact (hh.asks g3 bR) | exact hc.1 | exact hh.tcap.1 | exact trivial | exact Nat.le_refl _ | exact Int.le_refl _ | exact Int.one_pos | exact Nat.one_pos | exact nil_eqv rfl rfl rfl | exact ⟨0, by decide, rfl, fun _ => rfl, fun _ _ => rfl⟩ | refine And.intro ?_ ?_ | intro _ | exact rfl)
      rename_i y hy
      obtain ⟨s1, s2, s3, s4⟩ := hy.same
      refine ⟨y, ?_⟩
      have hz := hh.tk1 hc hy
      repeat' (first | with_reducible exact rfl | exact hz | exact hc.1 | exact hh.tcap.1 | exact trivial | exact Nat.le_refl _ | exact Int.le_refl _ | exact Int.one_pos | exact Nat.one_pos | exact nil_eqv rfl rfl rfl | exact ⟨0, by decide, rfl, fun _ => rfl, fun _ _ => rfl⟩ | refine And.intro ?_ ?_ | intro _ | exact rfl)
      all_goals (first | exact s1.symm | exact s2.symm | exact s3.symm | exact s4.symm | (show 1 ≤ _; rw [s4]; exact hc.1) | exact hy.1.1 | exact hz.2.1.tcap.1 | exact Nat.le_of_eq s4)
    · rename_i q _ m p
      obtain rfl := hdn0 q
      obtain rfl := hen0 rfl p
      refine ⟨⟨⟨bT, bO, oO, cO, ph, tme, ten, nm, sz, la, sm, (bx, ox, tl, cx, tx), bm, h, ge, 1, wy, 10, du⟩, 0, 0, 0, 0, [], []⟩, ?_⟩
      repeat' (first | with_reducible exact rfl | exact (((hF.pre.meta2 (by simpa using m)).tick 1 wy 10 du).tk0 hc) | exact hc.1 | exact hF.tcap.1 | exact trivial | exact Nat.le_refl _ | exact Int.le_refl _ | exact Int.one_pos | exact Nat.one_pos | exact nil_eqv rfl rfl rfl | exact ⟨0, by decide, rfl, fun _ => rfl, fun _ _ => rfl⟩ | refine And.intro ?_ ?_ | intro _ | exact rfl)
  · obtain ⟨a, b, p1, p2, p3, hu, em, ee⟩ := hU.k2 hk me en
    rw [em, ee]
    subst hu
    repeat' (first | with_reducible exact rfl | exact trivial | exact Nat.le_refl _ | exact Int.le_refl _ | exact Int.one_pos | exact Nat.one_pos | exact nil_eqv rfl rfl rfl | exact ⟨0, by decide, rfl, fun _ => rfl, fun _ _ => rfl⟩ | refine And.intro ?_ ?_ | intro _)
    · rename_i q
      obtain rfl := hdn q
      obtain ⟨d1, d2, d3, d4⟩ := hF.done rfl
      refine ⟨⟨⟨bT, bO, oO, cO, ph, tme, ten, nm, sz, la, sm, (bx, ox, tl, cx, tx), bm, h, ge, tr, wy, cl, du⟩, 0, 0, 0, 0, [], []⟩, ?_⟩
      repeat' (first | with_reducible exact rfl | exact (hF.tk2 (du := du) d2 d3 fun k hk => by unfold fUpd; rw [d4 k hk]; rfl) | exact hc.1 | exact hF.tcap.1 | exact trivial | exact Nat.le_refl _ | exact Int.le_refl _ | exact Int.one_pos | exact Nat.one_pos | exact nil_eqv rfl rfl rfl | exact ⟨0, by decide, rfl, fun _ => rfl, fun _ _ => rfl⟩ | refine And.intro ?_ ?_ | intro _ | exact rfl)
    · rename_i q _
      obtain rfl := hdn0 q
      have hp := hF.pre.tick 1 wy 10 du
      have hl : ((file.take b).drop a).length = b - a := by rw [List.length_drop, List.length_take]; omega
      have hR := hp.runs
      have hA : arrA.inv (⟨bT, bO, oO, cO, ph, tme, ten, nm, sz, la, sm, (bx, ox, tl, cx, tx), bm, h, ge, 1, wy, 10, du⟩, (a : Int), (file.take b).drop a) := ⟨hR.1, (by show (0 : Int) ≤ a; omega), (by show 1 ≤ ((file.take b).drop a).length; omega), (by show (a : Int) + ((file.take b).drop a).length ≤ 65535; omega), (by have := hR.2; show tl ≤ 65535; have : tl ≤ file.length := this; omega), hp.tcap⟩
      refine ⟨(⟨bT, bO, oO, cO, ph, tme, ten, nm, sz, la, sm, (bx, ox, tl, cx, tx), bm, h, ge, 1, wy, 10, du⟩, (a : Int), (file.take b).drop a), ?_⟩
      repeat' (first | with_reducible exact rfl | exact hA | exact hc.1 | exact hF.tcap.1 | exact trivial | exact Nat.le_refl _ | exact Int.le_refl _ | exact Int.one_pos | exact Nat.one_pos | exact nil_eqv rfl rfl rfl | exact ⟨0, by decide, rfl, fun _ => rfl, fun _ _ => rfl⟩ | refine And.intro ?_ ?_ | intro _ | exact rfl)
      · rename_i y hy p
        obtain rfl := hen rfl p
        refine ⟨(bR, (arTs ⟨bT, bO, oO, cO, ph, tme, ten, nm, sz, la, sm, (bx, ox, tl, cx, tx), bm, h, ge, 1, wy, 10, du⟩ y)), ?_⟩
        have hh := (hp.data p1 p2 hy)
        repeat' (first | with_reducible exact rfl | exact (hh.asks g3 bR) | exact hc.1 | exact hh.tcap.1 | exact trivial | exact Nat.le_refl _ | exact Int.le_refl _ | exact Int.one_pos | exact Nat.one_pos | exact nil_eqv rfl rfl rfl | exact ⟨0, by decide, rfl, fun _ => rfl, fun _ _ => rfl⟩ | refine And.intro ?_ ?_ | intro _ | exact rfl)
        rename_i y hy
        obtain ⟨s1, s2, s3, s4⟩ := hy.same
        refine ⟨y, ?_⟩
        have hz := hh.tk1 hc hy
        repeat' (first | with_reducible exact rfl | exact hz | exact hc.1 | exact hh.tcap.1 | exact trivial | exact Nat.le_refl _ | exact Int.le_refl _ | exact Int.one_pos | exact Nat.one_pos | exact nil_eqv rfl rfl rfl | exact ⟨0, by decide, rfl, fun _ => rfl, fun _ _ => rfl⟩ | refine And.intro ?_ ?_ | intro _ | exact rfl)
        all_goals (first | exact s1.symm | exact s2.symm | exact s3.symm | exact s4.symm | (show 1 ≤ _; rw [s4]; exact hc.1) | exact hy.1.1 | exact hz.2.1.tcap.1 | exact Nat.le_of_eq s4)
      · rename_i y hy p
        obtain rfl := hen0 rfl p
        refine ⟨⟨arTs ⟨bT, bO, oO, cO, ph, tme, ten, nm, sz, la, sm, (bx, ox, tl, cx, tx), bm, h, ge, 1, wy, 10, du⟩ y, 0, 0, 0, 0, [], []⟩, ?_⟩
        repeat' (first | with_reducible exact rfl | exact ((hp.data p1 p2 hy).tk0 hc) | exact hc.1 | exact (hp.data p1 p2 hy).tcap.1 | exact trivial | exact Nat.le_refl _ | exact Int.le_refl _ | exact Int.one_pos | exact Nat.one_pos | exact nil_eqv rfl rfl rfl | exact ⟨0, by decide, rfl, fun _ => rfl, fun _ _ => rfl⟩ | refine And.intro ?_ ?_ | intro _ | exact rfl)
  · obtain ⟨hu, em, ee, fu⟩ := hU.k3 hk me en hf
    rw [em, ee, fu]
    subst hu
    repeat' (first | with_reducible exact rfl | exact trivial | exact Nat.le_refl _ | exact Int.le_refl _ | exact Int.one_pos | exact Nat.one_pos | exact nil_eqv rfl rfl rfl | exact ⟨0, by decide, rfl, fun _ => rfl, fun _ _ => rfl⟩ | refine And.intro ?_ ?_ | intro _)
    · rename_i q
      obtain rfl := hdn q
      obtain ⟨d1, d2, d3, d4⟩ := hF.done rfl
      refine ⟨⟨⟨bT, bO, oO, cO, ph, tme, ten, nm, sz, la, sm, (bx, ox, tl, cx, tx), bm, h, ge, tr, wy, cl, IntKind.i64.wrap (((BitVec.ofInt IntKind.i64.bits du ||| BitVec.ofInt IntKind.i64.bits 5).toNat : Nat) : Int)⟩, 0, 0, 0, 0, [], []⟩, ?_⟩
      repeat' (first | with_reducible exact rfl | exact (hF.tk2 (du := (IntKind.i64.wrap (((BitVec.ofInt IntKind.i64.bits du ||| BitVec.ofInt IntKind.i64.bits 5).toNat : Nat) : Int))) d2 rfl d4) | exact hc.1 | exact hF.tcap.1 | exact trivial | exact Nat.le_refl _ | exact Int.le_refl _ | exact Int.one_pos | exact Nat.one_pos | exact nil_eqv rfl rfl rfl | exact ⟨0, by decide, rfl, fun _ => rfl, fun _ _ => rfl⟩ | refine And.intro ?_ ?_ | intro _ | exact rfl)
    · rename_i q _ v1 _ p1 v2 _ p
      obtain rfl := hdn0 q
      refine ⟨(bR, ⟨bT, bO, oO, cO, 2, tme, true, nm, sz, file.length, crc32 file, (bx, ox, tl, cx, tx), bm, h, ge, 1, wy, 10, v2⟩), ?_⟩
      have hh := ((hF.pre.end1).tick 1 wy 10 v2)
      repeat' (first | with_reducible exact rfl | exact (hh.asks g3 bR) | exact hc.1 | exact hh.tcap.1 | exact trivial | exact Nat.le_refl _ | exact Int.le_refl _ | exact Int.one_pos | exact Nat.one_pos | exact nil_eqv rfl rfl rfl | exact ⟨0, by decide, rfl, fun _ => rfl, fun _ _ => rfl⟩ | refine And.intro ?_ ?_ | intro _ | exact rfl)
      rename_i y hy
      obtain ⟨s1, s2, s3, s4⟩ := hy.same
      refine ⟨y, ?_⟩
      have hz := hh.tk1 hc hy
      repeat' (first | with_reducible exact rfl | exact hz | exact hc.1 | exact hh.tcap.1 | exact trivial | exact Nat.le_refl _ | exact Int.le_refl _ | exact Int.one_pos | exact Nat.one_pos | exact nil_eqv rfl rfl rfl | exact ⟨0, by decide, rfl, fun _ => rfl, fun _ _ => rfl⟩ | refine And.intro ?_ ?_ | intro _ | exact rfl)
      all_goals (first | exact s1.symm | exact s2.symm | exact s3.symm | exact s4.symm | (show 1 ≤ _; rw [s4]; exact hc.1) | exact hy.1.1 | exact hz.2.1.tcap.1 | exact Nat.le_of_eq s4)
    · rename_i q
      cases q
    · rename_i q _ v1 _ p1 p
      obtain rfl := hdn0 q
      obtain rfl := hen rfl p
      refine ⟨(bR, ⟨bT, bO, oO, cO, ph, tme, ten, nm, sz, la, sm, (bx, ox, tl, cx, tx), bm, h, ge, 1, wy, 10, v1⟩), ?_⟩
      have hh := (hF.pre.tick 1 wy 10 v1)
      repeat' (first | with_reducible exact rfl | exact (hh.asks g3 bR) | exact hc.1 | exact hh.tcap.1 | exact trivial | exact Nat.le_refl _ | exact Int.le_refl _ | exact Int.one_pos | exact Nat.one_pos | exact nil_eqv rfl rfl rfl | exact ⟨0, by decide, rfl, fun _ => rfl, fun _ _ => rfl⟩ | refine And.intro ?_ ?_ | intro _ | exact rfl)
      rename_i y hy
      obtain ⟨s1, s2, s3, s4⟩ := hy.same
      refine ⟨y, ?_⟩
      have hz := hh.tk1 hc hy
      repeat' (first | with_reducible exact rfl | exact hz | exact hc.1 | exact hh.tcap.1 | exact trivial | exact Nat.le_refl _ | exact Int.le_refl _ | exact Int.one_pos | exact Nat.one_pos | exact nil_eqv rfl rfl rfl | exact ⟨0, by decide, rfl, fun _ => rfl, fun _ _ => rfl⟩ | refine And.intro ?_ ?_ | intro _ | exact rfl)
      all_goals (first | exact s1.symm | exact s2.symm | exact s3.symm | exact s4.symm | (show 1 ≤ _; rw [s4]; exact hc.1) | exact hy.1.1 | exact hz.2.1.tcap.1 | exact Nat.le_of_eq s4)
    · rename_i q _ v1 _ p1 p
      exfalso
      obtain rfl := hdn0 q
      have h1 : ph = if en = true then 2 else 1 := (hF.ed rfl).2.2
      split at h1 <;> rw [h1] at p p1 <;> first | exact absurd p (by decide) | exact absurd p1 (by decide)
end Rc
