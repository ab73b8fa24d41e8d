/-
  OWN WORK. Units of the program: gaps are read, where there is enough to read.
-/
import Derived.Test.YtfmbmiiioojbeaaGreatEngP
import Derived.Test.YtfmbmiiioojbeaaGreatL7
namespace Rc
open Go Go.Proofs Eng
set_option linter.unusedVariables false
set_option linter.unusedSimpArgs false
set_option maxRecDepth 100000
set_option maxHeartbeats 4000000
/-- Groups of four bytes. -/
def decG : List UInt8 → List (Int × Int)
  | a :: b :: c :: d :: r => ((numL [a, b] : Nat), (numL [c, d] : Nat)) :: decG r
  | _ => []
theorem decG_get : ∀ (i : Nat) (l : List UInt8), 4 * i + 4 ≤ l.length → (decG l).getD i (0, 0) = (((numL ((l.drop (4 * i)).take 2) : Nat) : Int), ((numL ((l.drop (4 * i + 2)).take 2) : Nat) : Int))
  | i, a :: b :: c :: d :: r, h => by
    cases i with
    | zero => simp [decG]
    | succ i =>
      have := decG_get i r (by simp at h; omega)
      rw [decG, List.getD_cons_succ, this, show 4 * (i + 1) = 4 * i + 4 from by omega, show 4 * i + 4 + 2 = (4 * i + 2) + 4 from by omega]
      rfl
  | i, [], h => by simp at h
  | i, [_], h => by simp at h
  | i, [_, _], h => by simp at h
  | i, [_, _, _], h => by simp at h
theorem getD_take {α : Type} {l : List α} {i k : Nat} {d : α} (h : k < i) : (l.take i).getD k d = l.getD k d := by
  simp [List.getD_eq_getElem?_getD, List.getElem?_take, h]
/-- A unit without gaps, as it is being read. -/
abbrev UR := Int × Int × List UInt8 × Int × Int × Int × List UInt8 × Int × Int × Bool × Unit × Unit
abbrev pUr : Arg (Nat × Nat × UR) := .optr 35 11 (.agg (.cons (.elt (.int .i64)) (.cons (.elt (.int .i64)) (.cons (.elt .str) (.cons (.elt (.int .i64)) (.cons (.elt (.int .u32)) (.cons (.elt (.int .i64)) (.cons (.elt .str) (.cons (.elt (.int .i64)) (.cons (.elt (.int .i64)) (.cons (.elt .bool) (.cons .nilS .nil))))))))))))
abbrev aGG : ArgL ((Nat × Nat × List UInt8 × Unit) × (Nat × Nat × UR) × Unit) := .cons pRd (.cons pUr .nil)
/-- The unit's cells, with gaps in a row of tag g. -/
def unS (u : UR) (me : Bool) (g n : Nat) (y : RowY) : SV := .agg [.int .i64 u.1, .int .i64 u.2.1, .str u.2.2.1, .int .i64 u.2.2.2.1, .int .u32 u.2.2.2.2.1, .int .i64 u.2.2.2.2.2.1, .str u.2.2.2.2.2.2.1, .int .i64 u.2.2.2.2.2.2.2.1, .int .i64 u.2.2.2.2.2.2.2.2.1, .bool me, .slice g y.1 y.2.1 [] 2 0 n y.2.2 (decide (n = 0))]
def gapG (l : List (Int × Int)) : Nat → SV := fun k => .agg [.int .i64 (l.getD k (0, 0)).1, .int .i64 (l.getD k (0, 0)).2]
abbrev lR (x : (Nat × Nat × List UInt8 × Unit) × (Nat × Nat × UR) × Unit) : List UInt8 := x.1.2.2.1
def gN (l : List UInt8) : Nat := (l.length - 1) / 4
def ggEnts (x : (Nat × Nat × List UInt8 × Unit) × (Nat × Nat × UR) × Unit) (g i : Nat) (y : RowY) : Hp :=
  [⟨0, x.1.1, x.1.2.1, 1, 1, fun _ => .agg [.str ((lR x).drop (1 + 4 * i))], true, true, 1, 142, false, none⟩,
   ⟨1, x.2.1.1, x.2.1.2.1, 11, 1, fun _ => unS x.2.1.2.2 ((lR x).getD 0 0 == 1) g i y, true, true, 1, 35, false, none⟩,
   ⟨g, y.1, y.2.1, 2, i, gapG ((decG ((lR x).drop 1)).take i), true, false, y.2.2, 45, decide (i = 0), none⟩]
def getGapsC := ecC aGG (fun x => [(lR x).length % 4 = 1, (lR x).length ≤ 200, ((lR x).getD 0 0).toNat ≤ 1]) (fun x (y : RowY) => gN (lR x) ≤ y.2.2 ∧ y.2.2 ≤ 9223372036854775807 ∧ (gN (lR x) = 0 → y.2.2 = 0))
  (fun x y => .tup []) (fun x y => ggEnts x 2 (gN (lR x)) y) 1
def EGG : Env := E0.addE 71 numberC
theorem EGG_ok : EnvOk Tryz.prog EGG := E0_ok.addE number_ok
theorem getGaps_ok : EcOk Tryz.prog 106 getGapsC := by
  refine ecC_run (fun _ => EGG_ok) Tryz.func106 rfl (by kernel_rfl) [(2, 100)]
    (fun x => [.loop ⟨4, Nat × RowY, [0, 1], fun y => [.ptr 0 x.1.1 x.1.2.1 [.elt 0 1], .ptr 1 x.2.1.1 x.2.1.2.1 [.elt 0 11]], [0, 1, 100], fun y => ggEnts x 100 y.1 y.2, fun y => y.1 ≤ gN (lR x) ∧ y.1 ≤ y.2.2.2 ∧ y.2.2.2 ≤ 9223372036854775807 ∧ (y.1 = 0 → y.2.2.2 = 0), fun y => gN (lR x) - y.1⟩,
      .draw 6 (.take 0 (.take 1 (.take 2 (.take 3 (.take 5 (.take 6 (.br 4 (.br 7 (.take 8 (.br 9 (.br 10 (.take 11 (.take 12 (.br 13 .fin .stop))) .stop) .stop)) .stop) (.br 7 (.take 8 (.br 4 (.br 9 (.br 10 (.take 11 (.take 12 (.br 13 .fin .stop))) .stop) .stop) (.br 9 (.br 4 (.br 10 (.take 11 (.take 12 (.br 13 .fin .stop))) .stop) .stop) .stop))) .stop)))))))) [100000, 100001, 100100]])
    (fun _ => Nat.le_of_ble_eq_true rfl) (fun ⟨⟨b, off, l, ()⟩, ⟨ub, uo, k, nr, nm, sz, sm, of, da, wy, o, me, (), ()⟩, ()⟩ hp hw => ?_)
  refine vc_of (q :=
      (b=b∧off=off)∧∀ (x'1:(Nat × Nat × List UInt8 × Unit) × Int × Unit), x'1=((b, off, l, ()), (1:Int), ())→((0:Int)≤(Prod.snd x'1).1∧(Prod.snd x'1).1≤(7:Int))∧(Prod.snd x'1).1≤(↑(List.length ((((Prod.fst x'1).2.2)).1)):Int)∧∀ (y1:Unit), True→∀ (v1:Int), v1=(↑(numL (List.take (Int.toNat ((Prod.snd x'1).1)) ((((Prod.fst x'1).2.2)).1))):Int)→(decide (v1 > (1:Int))=true→False)∧(decide (v1 >
      (1:Int))=false→(ub=ub∧uo=uo)∧(∃ (x1:Nat × Nat × Nat × Nat), (0=0∧b=b∧off=off)∧(0=0∧ub=ub∧uo=uo)∧(((Prod.fst x'1).1=b∧((Prod.fst x'1).2.1)=off∧false=false∧1≤1∧1≤1∧1≤1)∧List.drop (Int.toNat ((Prod.snd x'1).1)) ((((Prod.fst x'1).2.2)).1)=List.drop (1+4*x1.1) l)∧((ub=ub∧uo=uo∧false=false∧1≤1∧1≤1∧1≤1)∧k=k∧nr=nr∧nm=nm∧sz=sz∧sm=sm∧of=of∧da=da∧wy=wy∧o=o∧(v1==(1:Int))=(List.getD l 0 0==(1:UInt8))∧SVeq
      (SV.slice 999999 0 0 [] 0 0 0 0 true) (SV.slice 100 x1.2.1 x1.2.2.1 [] 2 0 x1.1 x1.2.2.2 (decide (x1.1=0))))∧(decide (x1.1=0)=true∧x1.1=0∧x1.2.2.2=0)∧x1.1≤gN l∧x1.1≤x1.2.2.2∧x1.2.2.2≤9223372036854775807∧(x1.1=0→x1.2.2.2=0))∧∀ (x2:Nat × Nat × Nat × Nat), x2.1≤gN l∧x2.1≤x2.2.2.2∧x2.2.2.2≤9223372036854775807∧(x2.1=0→x2.2.2.2=0)→(b=b∧off=off)∧((!List.drop (1+4*x2.1) l==[])=true→(b=b∧off=off)∧∀
      (x'2:(Nat × Nat × List UInt8 × Unit) × Int × Unit), x'2=((b, off, List.drop (1+4*x2.1) l, ()), (2:Int), ())→((0:Int)≤(Prod.snd x'2).1∧(Prod.snd x'2).1≤(7:Int))∧(Prod.snd x'2).1≤(↑(List.length ((((Prod.fst x'2).2.2)).1)):Int)∧∀ (y2:Unit), True→∀ (v2:Int), v2=(↑(numL (List.take (Int.toNat ((Prod.snd x'2).1)) ((((Prod.fst x'2).2.2)).1))):Int)→((ub=ub∧uo=uo)∧(((Prod.fst x'2).1=b∧((Prod.fst
      x'2).2.1)=off)∧∀ (x'3:(Nat × Nat × List UInt8 × Unit) × Int × Unit), x'3=((b, off, List.drop (Int.toNat ((Prod.snd x'2).1)) ((((Prod.fst x'2).2.2)).1), ()), (2:Int), ())→((0:Int)≤(Prod.snd x'3).1∧(Prod.snd x'3).1≤(7:Int))∧(Prod.snd x'3).1≤(↑(List.length ((((Prod.fst x'3).2.2)).1)):Int)∧∀ (y3:Unit), True→∀ (v3:Int), v3=(↑(numL (List.take (Int.toNat ((Prod.snd x'3).1)) ((((Prod.fst
      x'3).2.2)).1))):Int)→(∀ (b1:Nat), ((x2.2.1=x2.2.1∧x2.2.2.1=x2.2.2.1)∧(decide (x2.1=0)=true→decide (x2.1=0)=true)∧0=0∧x2.1≤x2.1∧x2.2.2.2≤x2.2.2.2∧(x2.1+1)*16≤140737488355328∧x2.1+1≤9223372036854775807∧1≤1∧(b1=b1∧0=0)∧∀ (b2 b3 b4:Nat), x2.1+1≤b4→b4≤9223372036854775807→(decide (x2.1=0)=true→1=0→b4=0)→((ub=ub∧uo=uo)∧∃ (x3:Nat × Nat × Nat × Nat), (0=0∧b=b∧off=off)∧(0=0∧ub=ub∧uo=uo)∧(((Prod.fst
      x'3).1=b∧((Prod.fst x'3).2.1)=off∧false=false∧1≤1∧1≤1∧1≤1)∧List.drop (Int.toNat ((Prod.snd x'3).1)) ((((Prod.fst x'3).2.2)).1)=List.drop (1+4*x3.1) l)∧((ub=ub∧uo=uo∧false=false∧1≤1∧1≤1∧1≤1)∧k=k∧nr=nr∧nm=nm∧sz=sz∧sm=sm∧of=of∧da=da∧wy=wy∧o=o∧(List.getD l 0 0==(1:UInt8))=(List.getD l 0 0==(1:UInt8))∧b2=x3.2.1∧b3=x3.2.2.1∧0=0∧x2.1+1=x3.1∧b4=x3.2.2.2∧(decide (x2.1=0)&&decide (1=0))=decide
      (x3.1=0))∧((b2=x3.2.1∧b3=x3.2.2.1∧(decide (x2.1=0)&&decide (1=0))=decide (x3.1=0)∧x3.1≤x2.1+1∧x3.1≤x3.2.2.2∧x3.2.2.2≤b4)∧∀ (i1:Nat), i1 < x3.1→(if i1 < x2.1 then (List.getD (List.take x2.1 (decG (List.drop 1 l))) i1 ((0:Int), (0:Int))).1 else v2)=(List.getD (List.take x3.1 (decG (List.drop 1 l))) i1 ((0:Int), (0:Int))).1∧(if i1 < x2.1 then (List.getD (List.take x2.1 (decG (List.drop 1 l))) i1
      ((0:Int), (0:Int))).2 else v3)=(List.getD (List.take x3.1 (decG (List.drop 1 l))) i1 ((0:Int), (0:Int))).2)∧(x3.1≤gN l∧x3.1≤x3.2.2.2∧x3.2.2.2≤9223372036854775807∧(x3.1=0→x3.2.2.2=0))∧gN l - x3.1 < gN l - x2.1)∧True)∧True)∧True)∧True)∧(((Prod.fst x'2).1=b∧((Prod.fst x'2).2.1)=off)∧∀ (x'4:(Nat × Nat × List UInt8 × Unit) × Int × Unit), x'4=((b, off, List.drop (Int.toNat ((Prod.snd x'2).1))
      ((((Prod.fst x'2).2.2)).1), ()), (2:Int), ())→((0:Int)≤(Prod.snd x'4).1∧(Prod.snd x'4).1≤(7:Int))∧(Prod.snd x'4).1≤(↑(List.length ((((Prod.fst x'4).2.2)).1)):Int)∧∀ (y3:Unit), True→∀ (v3:Int), v3=(↑(numL (List.take (Int.toNat ((Prod.snd x'4).1)) ((((Prod.fst x'4).2.2)).1))):Int)→((ub=ub∧uo=uo)∧(∀ (b1:Nat), ((x2.2.1=x2.2.1∧x2.2.2.1=x2.2.2.1)∧(decide (x2.1=0)=true→decide
      (x2.1=0)=true)∧0=0∧x2.1≤x2.1∧x2.2.2.2≤x2.2.2.2∧(x2.1+1)*16≤140737488355328∧x2.1+1≤9223372036854775807∧1≤1∧(b1=b1∧0=0)∧∀ (b2 b3 b4:Nat), x2.1+1≤b4→b4≤9223372036854775807→(decide (x2.1=0)=true→1=0→b4=0)→((ub=ub∧uo=uo)∧∃ (x3:Nat × Nat × Nat × Nat), (0=0∧b=b∧off=off)∧(0=0∧ub=ub∧uo=uo)∧(((Prod.fst x'4).1=b∧((Prod.fst x'4).2.1)=off∧false=false∧1≤1∧1≤1∧1≤1)∧List.drop (Int.toNat ((Prod.snd x'4).1))
      ((((Prod.fst x'4).2.2)).1)=List.drop (1+4*x3.1) l)∧((ub=ub∧uo=uo∧false=false∧1≤1∧1≤1∧1≤1)∧k=k∧nr=nr∧nm=nm∧sz=sz∧sm=sm∧of=of∧da=da∧wy=wy∧o=o∧(List.getD l 0 0==(1:UInt8))=(List.getD l 0 0==(1:UInt8))∧b2=x3.2.1∧b3=x3.2.2.1∧0=0∧x2.1+1=x3.1∧b4=x3.2.2.2∧(decide (x2.1=0)&&decide (1=0))=decide (x3.1=0))∧((b2=x3.2.1∧b3=x3.2.2.1∧(decide (x2.1=0)&&decide (1=0))=decide
      (x3.1=0)∧x3.1≤x2.1+1∧x3.1≤x3.2.2.2∧x3.2.2.2≤b4)∧∀ (i1:Nat), i1 < x3.1→(if i1 < x2.1 then (List.getD (List.take x2.1 (decG (List.drop 1 l))) i1 ((0:Int), (0:Int))).1 else v2)=(List.getD (List.take x3.1 (decG (List.drop 1 l))) i1 ((0:Int), (0:Int))).1∧(if i1 < x2.1 then (List.getD (List.take x2.1 (decG (List.drop 1 l))) i1 ((0:Int), (0:Int))).2 else v3)=(List.getD (List.take x3.1 (decG (List.drop 1
      l))) i1 ((0:Int), (0:Int))).2)∧(x3.1≤gN l∧x3.1≤x3.2.2.2∧x3.2.2.2≤9223372036854775807∧(x3.1=0→x3.2.2.2=0))∧gN l - x3.1 < gN l - x2.1)∧True)∧True)∧True)∧(∀ (b2:Nat), ((ub=ub∧uo=uo)∧((x2.2.1=x2.2.1∧x2.2.2.1=x2.2.2.1)∧(decide (x2.1=0)=true→decide (x2.1=0)=true)∧0=0∧x2.1≤x2.1∧x2.2.2.2≤x2.2.2.2∧(x2.1+1)*16≤140737488355328∧x2.1+1≤9223372036854775807∧1≤1∧(b2=b2∧0=0)∧∀ (b3 b4 b5:Nat),
      x2.1+1≤b5→b5≤9223372036854775807→(decide (x2.1=0)=true→1=0→b5=0)→((ub=ub∧uo=uo)∧∃ (x3:Nat × Nat × Nat × Nat), (0=0∧b=b∧off=off)∧(0=0∧ub=ub∧uo=uo)∧(((Prod.fst x'4).1=b∧((Prod.fst x'4).2.1)=off∧false=false∧1≤1∧1≤1∧1≤1)∧List.drop (Int.toNat ((Prod.snd x'4).1)) ((((Prod.fst x'4).2.2)).1)=List.drop (1+4*x3.1)
      l)∧((ub=ub∧uo=uo∧false=false∧1≤1∧1≤1∧1≤1)∧k=k∧nr=nr∧nm=nm∧sz=sz∧sm=sm∧of=of∧da=da∧wy=wy∧o=o∧(List.getD l 0 0==(1:UInt8))=(List.getD l 0 0==(1:UInt8))∧b3=x3.2.1∧b4=x3.2.2.1∧0=0∧x2.1+1=x3.1∧b5=x3.2.2.2∧(decide (x2.1=0)&&decide (1=0))=decide (x3.1=0))∧((b3=x3.2.1∧b4=x3.2.2.1∧(decide (x2.1=0)&&decide (1=0))=decide (x3.1=0)∧x3.1≤x2.1+1∧x3.1≤x3.2.2.2∧x3.2.2.2≤b5)∧∀ (i1:Nat), i1 < x3.1→(if i1 < x2.1 then
      (List.getD (List.take x2.1 (decG (List.drop 1 l))) i1 ((0:Int), (0:Int))).1 else v2)=(List.getD (List.take x3.1 (decG (List.drop 1 l))) i1 ((0:Int), (0:Int))).1∧(if i1 < x2.1 then (List.getD (List.take x2.1 (decG (List.drop 1 l))) i1 ((0:Int), (0:Int))).2 else v3)=(List.getD (List.take x3.1 (decG (List.drop 1 l))) i1 ((0:Int), (0:Int))).2)∧(x3.1≤gN
      l∧x3.1≤x3.2.2.2∧x3.2.2.2≤9223372036854775807∧(x3.1=0→x3.2.2.2=0))∧gN l - x3.1 < gN l - x2.1)∧True)∧True)∧True)∧True)∧True)∧((!List.drop (1+4*x2.1) l==[])=false→∃ (x3:Nat × Nat × Nat), True∧((b=b∧off=off∧false=false∧1≤1∧1≤1∧1≤1)∧List.drop (1+4*x2.1) l=List.drop (1+4*gN l) l)∧((ub=ub∧uo=uo∧false=false∧1≤1∧1≤1∧1≤1)∧k=k∧nr=nr∧nm=nm∧sz=sz∧sm=sm∧of=of∧da=da∧wy=wy∧o=o∧(List.getD l 0
      0==(1:UInt8))=(List.getD l 0 0==(1:UInt8))∧x2.2.1=x3.1∧x2.2.2.1=x3.2.1∧0=0∧x2.1=gN l∧x2.2.2.2=x3.2.2∧decide (x2.1=0)=decide (gN l=0))∧((x2.2.1=x3.1∧x2.2.2.1=x3.2.1∧decide (x2.1=0)=decide (gN l=0)∧gN l≤x2.1∧gN l≤x3.2.2∧x3.2.2≤x2.2.2.2)∧∀ (i1:Nat), i1 < gN l→(List.getD (List.take x2.1 (decG (List.drop 1 l))) i1 ((0:Int), (0:Int))).1=(List.getD (List.take (gN l) (decG (List.drop 1 l))) i1 ((0:Int),
      (0:Int))).1∧(List.getD (List.take x2.1 (decG (List.drop 1 l))) i1 ((0:Int), (0:Int))).2=(List.getD (List.take (gN l) (decG (List.drop 1 l))) i1 ((0:Int), (0:Int))).2)∧gN l≤x3.2.2∧x3.2.2≤9223372036854775807∧(gN l=0→x3.2.2=0)))) (by kernel_rfl) ?_
  try simp only [eq_self, true_and, and_true, Nat.le_refl, implies_true, forall_const, Bool.false_eq_true, Bool.true_eq_false, reduceCtorEq, false_imp_iff, true_imp_iff, Int.toNat_zero, Int.toNat_natCast, Nat.zero_lt_one, Int.le_refl, allGet]
  obtain ⟨p1, p2, p3, _⟩ := hp
  have p1 : l.length % 4 = 1 := p1
  have p2 : l.length ≤ 200 := p2
  have p3 : (l.getD 0 0).toNat ≤ 1 := p3
  have hN : l.length = 1 + 4 * gN l := by unfold gN; omega
  rintro x rfl
  refine ⟨⟨by dsimp only; omega, by dsimp only; omega⟩, by dsimp only; omega, fun v1 e1 => ?_⟩
  have e1 : v1 = ((l.getD 0 0).toNat : Int) := by
    rw [e1]
    show ((numL (l.take 1) : Nat) : Int) = _
    cases l with
    | nil => simp at p1
    | cons a r => simp [numL]
  refine ⟨fun q => by have := of_decide_eq_true q; omega, fun _ => ⟨⟨(0, 0, 0, 0), ⟨⟨rfl, rfl⟩, rfl⟩, ⟨?_, nil_eqv rfl rfl rfl⟩, ⟨rfl, rfl, rfl⟩, Nat.zero_le _, Nat.zero_le _, by dsimp only; omega, fun _ => rfl⟩, ?_⟩⟩
  · rw [e1, Bool.eq_iff_iff, beq_iff_eq, beq_iff_eq, ← UInt8.toNat_inj]
    show _ ↔ (l.getD 0 0).toNat = 1
    omega
  rintro ⟨i, b1, o1, c1⟩ ⟨i1, i2, i3, i4⟩
  dsimp only at i1 i2 i3 i4 ⊢
  have hdl : (List.drop (1 + 4 * i) l).length = 4 * (gN l - i) := by rw [List.length_drop]; omega
  refine ⟨fun hne => ?_, fun he => ?_⟩
  · have hlt : i < gN l := by
      rcases Nat.lt_or_ge i (gN l) with h | h
      · exact h
      · have : List.drop (1 + 4 * i) l = [] := List.eq_nil_of_length_eq_zero (by rw [hdl]; omega)
        rw [this] at hne
        simp at hne
    have hA : ∀ v2 v3 : Int, v2 = (numL (List.take (Int.toNat 2) (List.drop (1 + 4 * i) l)) : Nat) → v3 = (numL (List.take (Int.toNat 2) (List.drop (Int.toNat 2) (List.drop (1 + 4 * i) l))) : Nat) →
        (decide (i = 0) = true → decide (i = 0) = true) ∧ (i + 1) * 16 ≤ 140737488355328 ∧ i + 1 ≤ 9223372036854775807 ∧ ∀ b2 b3 b4 : Nat, i + 1 ≤ b4 → b4 ≤ 9223372036854775807 → ∃ x3 : Nat × Nat × Nat × Nat,
          ((b = b ∧ off = off) ∧ List.drop (Int.toNat 2) (List.drop (Int.toNat 2) (List.drop (1 + 4 * i) l)) = List.drop (1 + 4 * x3.fst) l) ∧ (b2 = x3.snd.fst ∧ b3 = x3.snd.snd.fst ∧ i + 1 = x3.fst ∧ b4 = x3.snd.snd.snd ∧ (decide (i = 0) && decide (1 = 0)) = decide (x3.fst = 0)) ∧
          ((b2 = x3.snd.fst ∧ b3 = x3.snd.snd.fst ∧ (decide (i = 0) && decide (1 = 0)) = decide (x3.fst = 0) ∧ x3.fst ≤ i + 1 ∧ x3.fst ≤ x3.snd.snd.snd ∧ x3.snd.snd.snd ≤ b4) ∧
            ∀ i1 : Nat, i1 < x3.fst → (if i1 < i then ((List.take i (decG (List.drop 1 l))).getD i1 (0, 0)).fst else v2) = ((List.take x3.fst (decG (List.drop 1 l))).getD i1 (0, 0)).fst ∧
              (if i1 < i then ((List.take i (decG (List.drop 1 l))).getD i1 (0, 0)).snd else v3) = ((List.take x3.fst (decG (List.drop 1 l))).getD i1 (0, 0)).snd) ∧
          (x3.fst ≤ gN l ∧ x3.fst ≤ x3.snd.snd.snd ∧ x3.snd.snd.snd ≤ 9223372036854775807 ∧ (x3.fst = 0 → x3.snd.snd.snd = 0)) ∧ gN l - x3.fst < gN l - i := by
      intro v2 v3 h2 h3
      refine ⟨fun q => q, by omega, by omega, fun b2 b3 b4 g1 g2 => ⟨(i + 1, b2, b3, b4), ⟨⟨rfl, rfl⟩, ?_⟩, ⟨rfl, rfl, rfl, rfl, by simp⟩, ⟨⟨rfl, rfl, by simp, Nat.le_refl _, g1, Nat.le_refl _⟩, fun k hk => ?_⟩, ⟨hlt, g1, g2, fun q => by cases q⟩, by dsimp only; omega⟩⟩
      · rw [List.drop_drop, List.drop_drop]; congr 1
      · have hk : k < i + 1 := hk
        have hdG := decG_get i (List.drop 1 l) (by rw [List.length_drop]; omega)
        rw [List.drop_drop, List.drop_drop] at hdG
        by_cases q : k < i
        · rw [if_pos q, if_pos q, getD_take q, getD_take (by dsimp only; omega)]
          exact ⟨rfl, rfl⟩
        · obtain rfl : k = i := by omega
          rw [if_neg q, if_neg q, getD_take (by dsimp only; omega), hdG, h2, h3, List.drop_drop]
          exact ⟨rfl, by rw [Nat.add_assoc]; rfl⟩
    rintro x rfl
    refine ⟨⟨by dsimp only; omega, by dsimp only; omega⟩, by dsimp only; omega, fun v2 e2 => ?_⟩
    have hdl2 : (List.drop (Int.toNat 2) (List.drop (1 + 4 * i) l)).length = 4 * (gN l - i) - 2 := by rw [List.length_drop, hdl]; rfl
    refine ⟨⟨⟨rfl, rfl⟩, ?_⟩, ⟨rfl, rfl⟩, ?_⟩
    · rintro x rfl
      refine ⟨⟨by dsimp only; omega, by dsimp only; omega⟩, by dsimp only; omega, fun v3 e3 => ?_⟩
      have := hA v2 v3 e2 e3
      simpa using this
    · rintro x rfl
      refine ⟨⟨by dsimp only; omega, by dsimp only; omega⟩, by dsimp only; omega, fun v3 e3 => ⟨?_, ?_⟩⟩
      · have := hA v2 v3 e2 e3
        simpa using this
      · have := hA v2 v3 e2 e3
        simpa using this
  · have hge : i = gN l := by
      have : List.drop (1 + 4 * i) l = [] := by simpa using he
      rw [this] at hdl
      simp at hdl
      omega
    subst hge
    refine ⟨(b1, o1, c1), rfl, ⟨rfl, rfl, rfl, rfl, rfl⟩, ⟨⟨rfl, rfl, rfl, Nat.le_refl _, i2, Nat.le_refl _⟩, fun k hk => ⟨rfl, rfl⟩⟩, i2, i3, i4⟩
end Rc
