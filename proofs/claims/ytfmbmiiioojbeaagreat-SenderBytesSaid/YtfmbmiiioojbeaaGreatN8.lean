/-
  OWN WORK. Sender: a transaction in memory; 'add'.
-/
import Derived.Test.YtfmbmiiioojbeaaGreatN7
import Derived.Test.YtfmbmiiioojbeaaGreatLB
namespace Rc
open Go Go.Proofs Eng
set_option linter.unusedVariables false
set_option linter.unusedSimpArgs false
set_option maxRecDepth 100000
set_option maxHeartbeats 4000000
/-- A transaction: where it lies, what it holds; the spans that are due: where they lie. -/
structure SX where
  bT : Nat
  name : List UInt8
  file : List UInt8
  ph : Int
  tr : Int
  cl : Int
  me : Bool
  en : Bool
  sb : Nat
  so : Nat
  sN : Nat
  si : Nat
  sn : Nat
  sc : Nat
  sz : Bool
  sf : Nat → P2
abbrev pairV (p : P2) : SV := .agg [.int .i64 p.1, .int .i64 p.2]
abbrev spS (x : SX) : SV := .slice 603 x.sb x.so [] 2 x.si x.sn x.sc x.sz
abbrev trV (x : SX) : SV := .agg [.int .i64 9, .int .i64 1, .str x.name, .str x.file, .int .i64 0, .int .i64 x.ph, .int .i64 x.tr, .int .i64 x.cl, .bool x.me, .bool x.en, .agg [spS x]]
abbrev trE (x : SX) : Ent := ⟨602, x.bT, 0, 11, 1, fun _ => trV x, true, true, 1, 81, false, none⟩
abbrev spE (x : SX) : Ent := ⟨603, x.sb, x.so, 2, x.sN, fun k => pairV (x.sf k), true, false, x.sN, 112, x.sz, none⟩
def spOk (x : SX) : Prop := x.si + x.sn ≤ x.sN ∧ x.sn ≤ x.sc ∧ x.sc ≤ 9223372036854775807 ∧ (x.sz = true → x.sn = 0 ∧ x.sc = 0 ∧ x.sN = 0) ∧ x.sn ≤ 1000
def spL (x : SX) : List P2 := (List.range x.sn).map fun k => x.sf (x.si + k)
/-- The place of an element (as the engine writes it). -/
def ixA (a b : Nat) : Nat := match a with | 0 => b | n + 1 => n + 1 + b
/-- All but the spans. -/
def sameT (x y : SX) : Prop := y.bT = x.bT ∧ y.name = x.name ∧ y.file = x.file ∧ y.ph = x.ph ∧ y.tr = x.tr ∧ y.cl = x.cl ∧ y.me = x.me ∧ y.en = x.en
/-! ### add -/
abbrev AdX := SX × Int × Int
def addL : LA := ⟨0, AdX, [0, 1, 2], fun x => [.ptr 602 x.1.bT 0 [.elt 0 11, .fld 10 10], .int .i64 x.2.1, .int .i64 x.2.2], [602, 603], fun x => [trE x.1, spE x.1], fun x => spOk x.1 ∧ x.1.sn ≤ 999 ∧ inKind .i64 x.2.1 ∧ inKind .i64 x.2.2, fun _ => 0⟩
def addP (x : AdX) (y : SX) : Prop := spOk y ∧ sameT x.1 y ∧ AddIs 0 (spL x.1) x.2.1 x.2.2 (spL y) ∧ y.sn ≤ x.1.sn + 1
def addC := bxC addL (fun _ => SX) (fun x y => (.tup [], [trE y, spE y])) addP
def slNi : SV → Nat × Nat
  | .slice _ _ _ _ _ i n _ _ => (i, n)
  | _ => (0, 0)
def fstV : SV → P2
  | .agg [.int _ a, .int _ b] => (a, b)
  | _ => (0, 0)
def lstP (e : Ent) (v : SV) : List P2 := (List.range (slNi v).2).map fun k => fstV (e.get ((slNi v).1 + k))
def intS : SV → Int
  | .int _ x => x
  | _ => 0
def ptrG : SV → Nat
  | .ptr g _ _ _ => g
  | _ => 0
abbrev ALX := Nat × List P2 × P2 × RowK
def addLoop (f t : Int) (L : List P2) : LA := ⟨3, ALX, [17, 6, 1, 2], fun x => [.int .i64 (x.1 : Nat), .slice 620 x.2.2.2.1 x.2.2.2.2.1 [] 2 0 x.2.1.length x.2.2.2.2.2 (decide (x.2.1.length = 0)), .int .i64 x.2.2.1.1, .int .i64 x.2.2.1.2], [],
  fun x => [⟨620, x.2.2.2.1, x.2.2.2.2.1, 2, x.2.1.length, fun k => pairV (x.2.1.getD k (0, 0)), true, false, x.2.2.2.2.2, 112, decide (x.2.1.length = 0), none⟩],
  fun x => x.1 ≤ L.length ∧ (L.take x.1).foldl stepA ([], (f, t)) = (x.2.1, x.2.2.1) ∧ x.2.1.length ≤ x.2.2.2.2.2 ∧ x.2.2.2.2.2 ≤ 9223372036854775807 ∧ (x.2.1.length = 0 → x.2.2.2.2.2 = 0), fun x => L.length - x.1⟩
def EAD : Env := E0.addE 52 sortSC
theorem EAD_ok : EnvOk Tryz.prog EAD := E0_ok.addE sortS_ok
theorem getD_snoc {α : Type} {d : α} (o : List α) (g : α) (i : Nat) (h : i ≤ o.length) : (o ++ [g]).getD i d = if i < o.length then o.getD i d else g := by
  by_cases q : i < o.length
  · rw [if_pos q]; simp [List.getD, List.getElem?_append_left q]
  · rw [if_neg q]
    have q : i = o.length := by omega
    subst q
    simp [List.getD]
theorem foldl_len : ∀ (L K : List P2) (q : P2), (L.foldl stepA (K, q)).1.length ≤ K.length + L.length
  | [], K, q => by simp
  | p :: L, K, q => by
    rw [List.foldl_cons]
    by_cases hc : p.2 < q.1 ∨ q.2 < p.1
    · rw [show stepA (K, q) p = (K ++ [p], q) from if_pos hc]
      have := foldl_len L (K ++ [p]) q
      simp at this ⊢
      omega
    · rw [show stepA (K, q) p = (K, (min q.1 p.1, max q.2 p.2)) from if_neg hc]
      have := foldl_len L K (min q.1 p.1, max q.2 p.2)
      simp at this ⊢
      omega
theorem add_ok : EcOk Tryz.prog 33 addC := by
  refine bx_run (A := addL) (fun _ => EAD_ok) Tryz.func33 rfl (by kernel_rfl) 3 rfl (fun _ => rfl) (Nat.le_of_ble_eq_true rfl) (fun x => [.loopD 3 (fun fr H => addLoop (intS (slotV fr 1)) (intS (slotV fr 2)) (lstP (entG H 603) (slotV fr 15))), .draw 7 (.take 0 (.take 1 (.take 2 (.take 3 (.take 4 (.take 5 (.take 6 (.take 7 (.take 8 (.take 9 .fin)))))))))) []]) 700 (fun ⟨⟨bT, nm, fl, ph, tr, cl, me, en, sb, so, sN, si, sn, sc, sz, sf⟩, f, t⟩ hi hw => ?_)
  refine vc_of (q :=
      (decide (f≥t)=true→∃ (x1:SX), True∧((bT=SX.bT x1∧0=0∧false=false∧1≤1∧1≤1∧1≤1)∧(9:Int)=9∧(1:Int)=1∧nm=SX.name x1∧fl=SX.file x1∧(0:Int)=0∧ph=SX.ph x1∧tr=SX.tr x1∧cl=SX.cl x1∧me=SX.me x1∧en=SX.en x1∧sb=SX.sb x1∧so=SX.so x1∧si=SX.si x1∧sn=SX.sn x1∧sc=SX.sc x1∧sz=SX.sz x1)∧((sb=SX.sb x1∧so=SX.so x1∧sz=SX.sz x1∧SX.sN x1≤sN∧SX.sN x1≤SX.sN x1∧SX.sN x1≤sN)∧∀ (i1:Nat), i1 < SX.sN x1→(sf i1).1=(SX.sf x1
      i1).1∧(sf i1).2=(SX.sf x1 i1).2)∧spOk x1∧sameT (SX.mk bT nm fl ph tr cl me en sb so sN si sn sc sz sf) x1∧AddIs (0:Int) (spL (SX.mk bT nm fl ph tr cl me en sb so sN si sn sc sz sf)) f t (spL x1)∧SX.sn x1≤sn+1)∧(decide (f≥t)=false→(bT=bT∧0=0)∧∀ (v1:Int), v1=(↑sn:Int)→(∃ (x2:Nat × List (Int × Int) × (Int × Int) × Nat × Nat × Nat), 0=(↑x2.1:Int)∧SVeq (SV.slice 999999 0 0 [] 0 0 0 0 true) (SV.slice 620
      x2.2.2.2.1 x2.2.2.2.2.1 [] 2 0 (List.length x2.2.1) x2.2.2.2.2.2 (decide (List.length x2.2.1=0)))∧f=x2.2.2.1.1∧t=x2.2.2.1.2∧(decide (List.length x2.2.1=0)=true∧List.length x2.2.1=0∧x2.2.2.2.2.2=0)∧x2.1≤List.length (lstP (Ent.mk 603 sb so 2 sN (fun (k:Nat) ↦ SV.agg [SV.int IntKind.i64 ((sf k).1), SV.int IntKind.i64 ((sf k).2)]) true false sN (112:Go.TypeId) sz Option.none) (SV.slice 603 sb so [] 2
      si sn sc sz))∧List.foldl stepA ([], intS (SV.int IntKind.i64 f), intS (SV.int IntKind.i64 t)) (List.take x2.1 (lstP (Ent.mk 603 sb so 2 sN (fun (k:Nat) ↦ SV.agg [SV.int IntKind.i64 ((sf k).1), SV.int IntKind.i64 ((sf k).2)]) true false sN (112:Go.TypeId) sz Option.none) (SV.slice 603 sb so [] 2 si sn sc sz)))=(x2.2.1, x2.2.2.1)∧List.length
      x2.2.1≤x2.2.2.2.2.2∧x2.2.2.2.2.2≤9223372036854775807∧(List.length x2.2.1=0→x2.2.2.2.2.2=0))∧∀ (x3:Nat × List (Int × Int) × (Int × Int) × Nat × Nat × Nat), x3.1≤List.length (lstP (Ent.mk 603 sb so 2 sN (fun (k:Nat) ↦ SV.agg [SV.int IntKind.i64 ((sf k).1), SV.int IntKind.i64 ((sf k).2)]) true false sN (112:Go.TypeId) sz Option.none) (SV.slice 603 sb so [] 2 si sn sc sz))∧List.foldl stepA ([], intS
      (SV.int IntKind.i64 f), intS (SV.int IntKind.i64 t)) (List.take x3.1 (lstP (Ent.mk 603 sb so 2 sN (fun (k:Nat) ↦ SV.agg [SV.int IntKind.i64 ((sf k).1), SV.int IntKind.i64 ((sf k).2)]) true false sN (112:Go.TypeId) sz Option.none) (SV.slice 603 sb so [] 2 si sn sc sz)))=(x3.2.1, x3.2.2.1)∧List.length x3.2.1≤x3.2.2.2.2.2∧x3.2.2.2.2.2≤9223372036854775807∧(List.length x3.2.1=0→x3.2.2.2.2.2=0)→(decide
      ((↑x3.1:Int) < v1)=true→0≤(↑x3.1:Int)∧(↑x3.1:Int) < (↑sn:Int)∧(sb=sb∧so=so)∧((ixA si (Int.toNat (↑x3.1:Int)))) < sN∧∀ (b1:Nat), (b1=b1∧0=0)∧(b1=b1∧0=0)∧(decide ((sf ((ixA si (Int.toNat (↑x3.1:Int))))).2 < x3.2.2.1.1)=false→b1=b1∧0=0)∧∀ (t1:Bool), (t1=if decide ((sf ((ixA si (Int.toNat (↑x3.1:Int))))).2 < x3.2.2.1.1)=true then true else decide ((sf ((ixA si (Int.toNat (↑x3.1:Int))))).1 >
      x3.2.2.1.2))→(t1=true→(b1=b1∧0=0)∧∀ (b2:Nat), (x3.2.2.2.1=x3.2.2.2.1∧x3.2.2.2.2.1=x3.2.2.2.2.1)∧(decide (List.length x3.2.1=0)=true→decide (List.length x3.2.1=0)=true)∧0=0∧List.length x3.2.1≤List.length x3.2.1∧x3.2.2.2.2.2≤x3.2.2.2.2.2∧(List.length x3.2.1+1)*16≤140737488355328∧List.length x3.2.1+1≤9223372036854775807∧1≤1∧(b2=b2∧0=0)∧∀ (b3 b4 b5:Nat), List.length
      x3.2.1+1≤b5→b5≤9223372036854775807→(decide (List.length x3.2.1=0)=true→1=0→b5=0)→∀ (v2:Int), v2=IntKind.i64.wrap ((↑x3.1:Int)+(1:Int))→∃ (x4:Nat × List (Int × Int) × (Int × Int) × Nat × Nat × Nat), v2=(↑x4.1:Int)∧(b3=x4.2.2.2.1∧b4=x4.2.2.2.2.1∧0=0∧List.length x3.2.1+1=List.length x4.2.1∧b5=x4.2.2.2.2.2∧(decide (List.length x3.2.1=0)&&decide (1=0))=decide (List.length
      x4.2.1=0))∧x3.2.2.1.1=x4.2.2.1.1∧x3.2.2.1.2=x4.2.2.1.2∧((b3=x4.2.2.2.1∧b4=x4.2.2.2.2.1∧(decide (List.length x3.2.1=0)&&decide (1=0))=decide (List.length x4.2.1=0)∧List.length x4.2.1≤List.length x3.2.1+1∧List.length x4.2.1≤x4.2.2.2.2.2∧x4.2.2.2.2.2≤b5)∧∀ (i2:Nat), i2 < List.length x4.2.1→(if i2 < List.length x3.2.1 then (List.getD x3.2.1 i2 ((0:Int), (0:Int))).1 else (sf ((ixA si (Int.toNat
      (↑x3.1:Int))))).1)=(List.getD x4.2.1 i2 ((0:Int), (0:Int))).1∧(if i2 < List.length x3.2.1 then (List.getD x3.2.1 i2 ((0:Int), (0:Int))).2 else (sf ((ixA si (Int.toNat (↑x3.1:Int))))).2)=(List.getD x4.2.1 i2 ((0:Int), (0:Int))).2)∧(x4.1≤List.length (lstP (Ent.mk 603 sb so 2 sN (fun (k:Nat) ↦ SV.agg [SV.int IntKind.i64 ((sf k).1), SV.int IntKind.i64 ((sf k).2)]) true false sN (112:Go.TypeId) sz
      Option.none) (SV.slice 603 sb so [] 2 si sn sc sz))∧List.foldl stepA ([], intS (SV.int IntKind.i64 f), intS (SV.int IntKind.i64 t)) (List.take x4.1 (lstP (Ent.mk 603 sb so 2 sN (fun (k:Nat) ↦ SV.agg [SV.int IntKind.i64 ((sf k).1), SV.int IntKind.i64 ((sf k).2)]) true false sN (112:Go.TypeId) sz Option.none) (SV.slice 603 sb so [] 2 si sn sc sz)))=(x4.2.1, x4.2.2.1)∧List.length
      x4.2.1≤x4.2.2.2.2.2∧x4.2.2.2.2.2≤9223372036854775807∧(List.length x4.2.1=0→x4.2.2.2.2.2=0))∧List.length (lstP (Ent.mk 603 sb so 2 sN (fun (k:Nat) ↦ SV.agg [SV.int IntKind.i64 ((sf k).1), SV.int IntKind.i64 ((sf k).2)]) true false sN (112:Go.TypeId) sz Option.none) (SV.slice 603 sb so [] 2 si sn sc sz)) - x4.1 < List.length (lstP (Ent.mk 603 sb so 2 sN (fun (k:Nat) ↦ SV.agg [SV.int IntKind.i64 ((sf
      k).1), SV.int IntKind.i64 ((sf k).2)]) true false sN (112:Go.TypeId) sz Option.none) (SV.slice 603 sb so [] 2 si sn sc sz)) - x3.1)∧(t1=false→(b1=b1∧0=0)∧∀ (v2:Int), (v2=if (sf ((ixA si (Int.toNat (↑x3.1:Int))))).1 < x3.2.2.1.1 then (sf ((ixA si (Int.toNat (↑x3.1:Int))))).1 else x3.2.2.1.1)→(b1=b1∧0=0)∧∀ (v3:Int), (v3=if (sf ((ixA si (Int.toNat (↑x3.1:Int))))).2 > x3.2.2.1.2 then (sf ((ixA si
      (Int.toNat (↑x3.1:Int))))).2 else x3.2.2.1.2)→∀ (v4:Int), v4=IntKind.i64.wrap ((↑x3.1:Int)+(1:Int))→∃ (x4:Nat × List (Int × Int) × (Int × Int) × Nat × Nat × Nat), v4=(↑x4.1:Int)∧(x3.2.2.2.1=x4.2.2.2.1∧x3.2.2.2.2.1=x4.2.2.2.2.1∧0=0∧List.length x3.2.1=List.length x4.2.1∧x3.2.2.2.2.2=x4.2.2.2.2.2∧decide (List.length x3.2.1=0)=decide (List.length
      x4.2.1=0))∧v2=x4.2.2.1.1∧v3=x4.2.2.1.2∧((x3.2.2.2.1=x4.2.2.2.1∧x3.2.2.2.2.1=x4.2.2.2.2.1∧decide (List.length x3.2.1=0)=decide (List.length x4.2.1=0)∧List.length x4.2.1≤List.length x3.2.1∧List.length x4.2.1≤x4.2.2.2.2.2∧x4.2.2.2.2.2≤x3.2.2.2.2.2)∧∀ (i2:Nat), i2 < List.length x4.2.1→(List.getD x3.2.1 i2 ((0:Int), (0:Int))).1=(List.getD x4.2.1 i2 ((0:Int), (0:Int))).1∧(List.getD x3.2.1 i2 ((0:Int),
      (0:Int))).2=(List.getD x4.2.1 i2 ((0:Int), (0:Int))).2)∧(x4.1≤List.length (lstP (Ent.mk 603 sb so 2 sN (fun (k:Nat) ↦ SV.agg [SV.int IntKind.i64 ((sf k).1), SV.int IntKind.i64 ((sf k).2)]) true false sN (112:Go.TypeId) sz Option.none) (SV.slice 603 sb so [] 2 si sn sc sz))∧List.foldl stepA ([], intS (SV.int IntKind.i64 f), intS (SV.int IntKind.i64 t)) (List.take x4.1 (lstP (Ent.mk 603 sb so 2 sN
      (fun (k:Nat) ↦ SV.agg [SV.int IntKind.i64 ((sf k).1), SV.int IntKind.i64 ((sf k).2)]) true false sN (112:Go.TypeId) sz Option.none) (SV.slice 603 sb so [] 2 si sn sc sz)))=(x4.2.1, x4.2.2.1)∧List.length x4.2.1≤x4.2.2.2.2.2∧x4.2.2.2.2.2≤9223372036854775807∧(List.length x4.2.1=0→x4.2.2.2.2.2=0))∧List.length (lstP (Ent.mk 603 sb so 2 sN (fun (k:Nat) ↦ SV.agg [SV.int IntKind.i64 ((sf k).1), SV.int
      IntKind.i64 ((sf k).2)]) true false sN (112:Go.TypeId) sz Option.none) (SV.slice 603 sb so [] 2 si sn sc sz)) - x4.1 < List.length (lstP (Ent.mk 603 sb so 2 sN (fun (k:Nat) ↦ SV.agg [SV.int IntKind.i64 ((sf k).1), SV.int IntKind.i64 ((sf k).2)]) true false sN (112:Go.TypeId) sz Option.none) (SV.slice 603 sb so [] 2 si sn sc sz)) - x3.1))∧(decide ((↑x3.1:Int) < v1)=false→∀ (b2:Nat),
      (x3.2.2.2.1=x3.2.2.2.1∧x3.2.2.2.2.1=x3.2.2.2.2.1)∧(decide (List.length x3.2.1=0)=true→decide (List.length x3.2.1=0)=true)∧0=0∧List.length x3.2.1≤List.length x3.2.1∧x3.2.2.2.2.2≤x3.2.2.2.2.2∧(List.length x3.2.1+1)*16≤140737488355328∧List.length x3.2.1+1≤9223372036854775807∧1≤1∧(b2=b2∧0=0)∧∀ (b3 b4 b5:Nat), List.length x3.2.1+1≤b5→b5≤9223372036854775807→(decide (List.length
      x3.2.1=0)=true→1=0→b5=0)→(b3=b3∧b4=b4)∧(0=0∧∀ (k1:Nat), k1 < List.length x3.2.1+1→true=true)∧∀ (x'1:Eng.OwnD (Int × Int × Unit) × Unit × Unit), x'1=(Eng.OwnD.mk b3 b4 (List.length x3.2.1+1) b5 (decide (List.length x3.2.1=0)&&decide (1=0)) (List.length x3.2.1+1) b5 (decide (List.length x3.2.1=0)&&decide (1=0)) fun (k:Nat) ↦ (if k < List.length x3.2.1 then (List.getD x3.2.1 k ((0:Int), (0:Int))).1
      else x3.2.2.1.1, if k < List.length x3.2.1 then (List.getD x3.2.1 k ((0:Int), (0:Int))).2 else x3.2.2.1.2, ()), (), ())→Eng.OwnD.n (Prod.fst x'1)≤Eng.OwnD.m (Prod.fst x'1)∧Eng.OwnD.n (Prod.fst x'1)≤1000000∧Eng.OwnD.z (Prod.fst x'1)=false∧Eng.OwnD.ez (Prod.fst x'1)=false∧∀ (y1:Nat→Int × Int × Unit), sortP (Eng.OwnD.n (Prod.fst x'1)) (Eng.OwnD.f (Prod.fst x'1)) y1→(bT=bT∧0=0)∧∃ (x4:SX),
      True∧((bT=SX.bT x4∧0=0∧false=false∧1≤1∧1≤1∧1≤1)∧(9:Int)=9∧(1:Int)=1∧nm=SX.name x4∧fl=SX.file x4∧(0:Int)=0∧ph=SX.ph x4∧tr=SX.tr x4∧cl=SX.cl x4∧me=SX.me x4∧en=SX.en x4∧b3=SX.sb x4∧b4=SX.so x4∧0=SX.si x4∧List.length x3.2.1+1=SX.sn x4∧b5=SX.sc x4∧(decide (List.length x3.2.1=0)&&decide (1=0))=SX.sz x4)∧((Eng.OwnD.b (Prod.fst x'1)=SX.sb x4∧Eng.OwnD.off (Prod.fst x'1)=SX.so x4∧Eng.OwnD.ez (Prod.fst
      x'1)=SX.sz x4∧SX.sN x4≤Eng.OwnD.m (Prod.fst x'1)∧SX.sN x4≤SX.sN x4∧SX.sN x4≤Eng.OwnD.cap (Prod.fst x'1))∧∀ (i2:Nat), i2 < SX.sN x4→(if i2 < Eng.OwnD.n (Prod.fst x'1) then y1 i2 else Eng.OwnD.f (Prod.fst x'1) i2).1=(SX.sf x4 i2).1∧((if i2 < Eng.OwnD.n (Prod.fst x'1) then y1 i2 else Eng.OwnD.f (Prod.fst x'1) i2).2.1)=(SX.sf x4 i2).2)∧spOk x4∧sameT (SX.mk bT nm fl ph tr cl me en sb so sN si sn sc sz
      sf) x4∧AddIs (0:Int) (spL (SX.mk bT nm fl ph tr cl me en sb so sN si sn sc sz sf)) f t (spL x4)∧SX.sn x4≤sn+1))) (by kernel_rfl) ?_
  obtain ⟨⟨o1, o2, o3, o4, o5⟩, o6, o7, o8⟩ := hi
  dsimp only at o1 o2 o3 o4 o5 o6 o7 o8
  have hL : lstP (Ent.mk 603 sb so 2 sN (fun k => SV.agg [SV.int .i64 (sf k).1, SV.int .i64 (sf k).2]) true false sN 112 sz none) (SV.slice 603 sb so [] 2 si sn sc sz) = spL ⟨bT, nm, fl, ph, tr, cl, me, en, sb, so, sN, si, sn, sc, sz, sf⟩ := rfl
  rw [hL]
  clear hL
  have hX : sameT ⟨bT, nm, fl, ph, tr, cl, me, en, sb, so, sN, si, sn, sc, sz, sf⟩ ⟨bT, nm, fl, ph, tr, cl, me, en, sb, so, sN, si, sn, sc, sz, sf⟩ := ⟨rfl, rfl, rfl, rfl, rfl, rfl, rfl, rfl⟩
  have hLn : (spL ⟨bT, nm, fl, ph, tr, cl, me, en, sb, so, sN, si, sn, sc, sz, sf⟩).length = sn := by simp [spL]
  have hLi : ∀ i, i < sn → (spL ⟨bT, nm, fl, ph, tr, cl, me, en, sb, so, sN, si, sn, sc, sz, sf⟩)[i]? = some (sf (si + i)) := fun i hi => by simp [spL, hi]
  refine ⟨fun hc => ⟨⟨bT, nm, fl, ph, tr, cl, me, en, sb, so, sN, si, sn, sc, sz, sf⟩, trivial, ?_⟩, fun hc => ?_⟩
  · refine ⟨⟨⟨rfl, rfl, rfl, Nat.le_refl _, Nat.le_refl _, Nat.le_refl _⟩, rfl, rfl, rfl, rfl, rfl, rfl, rfl, rfl, rfl, rfl, rfl, rfl, rfl, rfl, rfl, rfl⟩, ⟨⟨rfl, rfl, rfl, Nat.le_refl _, Nat.le_refl _, Nat.le_refl _⟩, fun _ _ => ⟨rfl, rfl⟩⟩, ⟨o1, o2, o3, o4, o5⟩, hX, ?_, Nat.le_succ _⟩
    unfold AddIs
    rw [if_pos (of_decide_eq_true hc)]
  have hft : ¬ f ≥ t := of_decide_eq_false hc
  generalize hLd : spL ⟨bT, nm, fl, ph, tr, cl, me, en, sb, so, sN, si, sn, sc, sz, sf⟩ = L at *
  refine ⟨⟨rfl, rfl⟩, fun v1 e1 => ⟨⟨(0, [], (f, t), 0, 0, 0), rfl, nil_eqv rfl rfl rfl, rfl, rfl, ⟨rfl, rfl, rfl⟩, Nat.zero_le _, rfl, Nat.zero_le _, Nat.zero_le _, fun _ => rfl⟩, ?_⟩⟩
  rintro ⟨i, o, ⟨g, u⟩, b, of, c⟩ ⟨i1, i2, i3, i4, i5⟩
  dsimp only at i1 i2 i3 i4 i5 ⊢
  have i2 : (L.take i).foldl stepA ([], (f, t)) = (o, (g, u)) := i2
  have hol : o.length ≤ sn := by
    have := foldl_len (L.take i) [] (f, t)
    rw [i2] at this
    simp at this
    omega
  have hdz : ∀ d : Bool, (d && decide (1 = 0)) = false := fun d => by simp
  refine ⟨fun hlt => ?_, fun hge => ?_⟩
  · have hlt : (i : Int) < v1 := of_decide_eq_true hlt
    have hi : i < sn := by omega
    have hp := hLi i hi
    obtain ⟨p, hpd⟩ : ∃ p, sf (si + i) = p := ⟨_, rfl⟩
    rw [hpd] at hp
    have hwp : IntKind.i64.wrap ((i : Int) + 1) = ((i + 1 : Nat) : Int) := l_succ (by omega)
    have hstep : (L.take (i + 1)).foldl stepA ([], (f, t)) = stepA (o, (g, u)) p := by
      rw [List.take_add_one, hp, List.foldl_append, i2]; rfl
    cases si
    all_goals
      dsimp only [ixA] at hpd o1 ⊢
      try simp only [Int.toNat_natCast, Nat.zero_add] at hpd
      simp only [Int.toNat_natCast, hpd, hwp]
      repeat' (first | with_reducible exact rfl | exact trivial | exact Nat.le_refl _ | refine And.intro ?_ ?_ | intro _)
      all_goals (first | omega | contradiction | assumption | skip)
      · rename_i b1 t1 e1 ht b2 b3 b4 b5 c1 c2 c3 v2 ev2
        have hd2 : decide ((o ++ [p]).length = 0) = false := by simp
        have hcnd : p.2 < g ∨ u < p.1 := by
          rw [ht] at e1
          by_cases q : p.2 < g
          · exact .inl q
          · rw [if_neg (by simp [q])] at e1
            exact .inr (of_decide_eq_true e1.symm)
        refine ⟨(i + 1, o ++ [p], (g, u), b3, b4, b5), ev2, ⟨rfl, rfl, trivial, by simp, rfl, by rw [hdz, hd2]⟩, rfl, rfl, ⟨⟨rfl, rfl, by rw [hdz, hd2], by simp, by simpa using c1, Nat.le_refl _⟩, fun i2 hi2 => ?_⟩, ⟨by omega, ?_, by simpa using c1, c2, fun q => by simp at q⟩, by omega⟩
        · have hi2 : i2 ≤ o.length := by simp at hi2; omega
          rw [getD_snoc o p i2 hi2]
          split <;> exact ⟨rfl, rfl⟩
        · show (L.take (i + 1)).foldl stepA ([], (f, t)) = _
          rw [hstep]
          exact if_pos hcnd
      · rename_i b1 t1 e1 ht v2 e2 v3 e3 v4 e4
        have hcnd : ¬ (p.2 < g ∨ u < p.1) := by
          rw [ht] at e1
          rintro (q | q)
          · rw [if_pos (by simp [q])] at e1; cases e1
          · by_cases q2 : p.2 < g
            · rw [if_pos (by simp [q2])] at e1; cases e1
            · rw [if_neg (by simp [q2])] at e1
              have := of_decide_eq_false e1.symm
              omega
        refine ⟨(i + 1, o, (v2, v3), b, of, c), e4, ⟨rfl, rfl, trivial, rfl, rfl, rfl⟩, rfl, rfl, ⟨⟨rfl, rfl, rfl, Nat.le_refl _, i3, Nat.le_refl _⟩, fun _ _ => ⟨rfl, rfl⟩⟩, ⟨by omega, ?_, i3, i4, i5⟩, by omega⟩
        show (L.take (i + 1)).foldl stepA ([], (f, t)) = _
        rw [hstep, e2, e3]
        have e5 : stepA (o, (g, u)) p = (o, (min g p.1, max u p.2)) := if_neg hcnd
        rw [e5]
        congr 2
        · omega
        · omega
  · have hge : ¬ (i : Int) < v1 := of_decide_eq_false hge
    have hi : i = L.length := by omega
    subst hi
    rw [List.take_length] at i2
    refine fun b2 => ⟨⟨rfl, rfl⟩, id, rfl, Nat.le_refl _, Nat.le_refl _, by omega, by omega, Nat.le_refl _, ⟨rfl, rfl⟩, fun b3 b4 b5 c1 c2 c3 => ⟨⟨rfl, rfl⟩, ⟨rfl, fun _ _ => rfl⟩, ?_⟩⟩
    rintro x' rfl
    dsimp only
    refine ⟨Nat.le_refl _, by omega, hdz _, hdz _, fun y1 hy => ⟨⟨rfl, rfl⟩, ⟨bT, nm, fl, ph, tr, cl, me, en, b3, b4, o.length + 1, 0, o.length + 1, b5, false, fun k => ((y1 k).1, (y1 k).2.1)⟩, trivial, ?_⟩⟩
    refine ⟨⟨⟨rfl, rfl, rfl, Nat.le_refl _, Nat.le_refl _, Nat.le_refl _⟩, rfl, rfl, rfl, rfl, rfl, rfl, rfl, rfl, rfl, rfl, rfl, rfl, rfl, rfl, rfl, hdz _⟩, ⟨⟨rfl, rfl, hdz _, Nat.le_refl _, Nat.le_refl _, c1⟩, fun i2 hi2 => ?_⟩, ⟨by dsimp only; omega, c1, c2, (fun q => by cases q), by dsimp only; omega⟩, ⟨rfl, rfl, rfl, rfl, rfl, rfl, rfl, rfl⟩, ?_, by dsimp only; omega⟩
    · have hi2 : i2 < o.length + 1 := hi2
      rw [if_pos hi2]
      exact ⟨rfl, rfl⟩
    · unfold AddIs
      rw [if_neg hft]
      have ea : addA L f t = (o, (g, u)) := i2
      rw [ea]
      have e1 : spL ⟨bT, nm, fl, ph, tr, cl, me, en, b3, b4, o.length + 1, 0, o.length + 1, b5, false, fun k => ((y1 k).1, (y1 k).2.1)⟩ = listS (o.length + 1) y1 := by simp [spL, listS, cvS]
      rw [e1]
      refine ⟨hy.1.trans (List.Perm.of_eq ?_), hy.2⟩
      apply List.ext_getElem?
      intro k
      by_cases hk : k < o.length + 1
      · rw [listS, List.getElem?_map, List.getElem?_range hk]
        simp only [Option.map_some, cvS]
        by_cases q : k < o.length
        · rw [if_pos q, if_pos q, List.getElem?_append_left q]
          simp [List.getD, List.getElem?_eq_getElem q]
        · have q : k = o.length := by omega
          subst q
          simp
      · rw [List.getElem?_eq_none (by simp [listS]; omega), List.getElem?_eq_none (by simp; omega)]
end Rc
