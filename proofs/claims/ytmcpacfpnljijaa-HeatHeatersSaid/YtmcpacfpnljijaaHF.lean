/-
  OWN WORK. Heat: the law HeatHeaters: the walk.
-/
import Derived.Test.YtmcpacfpnljijaaHB
import Derived.Test.YtmcpacfpnljijaaHM
namespace Heat
open Go Go.Proofs Eng
set_option linter.unusedVariables false
set_option linter.unusedSimpArgs false
set_option maxHeartbeats 4000000
set_option maxRecDepth 100000

abbrev aHeat : ArgL (Node × Int × Int × Unit) := .cons (.elt eNode) (.cons (.elt (.int .i64)) (.cons (.elt (.int .i64)) .nil))
abbrev HeatIn (x : Node × Int × Int × Unit) : Prop := NodeIn x.1 ∧ inKind .i64 x.2.1 ∧ inKind .i64 x.2.2.1 ∧ True
abbrev HX := Nat × Nat × Int × Bool × A4
abbrev hxT (ca power low : Int) (x : HX) : SV := .agg [nwS 2 2 1 false x.2.2.2.2.1, nwS 500 3 0 true x.2.2.2.2.2.1, nwS 4 5 1 false x.2.2.2.2.2.2.1, nwS 3 1 1 false x.2.2.2.2.2.2.2]
abbrev hxE (ca power low : Int) (x : HX) : Hp := [⟨5, x.2.1, 0, 4, 1, fun _ => hxT ca power low x, true, true, 1, 27, false, none⟩,
  nwE 2 2 29 1 false (fun _ => eNode.mkv (x.2.2.1, ca, ())) x.2.2.2.2.1, nwE 500 3 44 0 true (fun _ => ePath.mkv (0, 0, 0, ())) x.2.2.2.2.2.1,
  nwE 4 5 47 1 false (fun _ => eHeater.mkv (0, power, low, low, x.2.2.2.1, ())) x.2.2.2.2.2.2.1, nwE 3 1 2 1 false (fun _ => .int .i64 0) x.2.2.2.2.2.2.2]
/-- The model of HeatHeaters. -/
abbrev hT (ha ca power low : Int) (on : Bool) (y : A4) : Thermal := (⟨y.1.1, y.1.2.1, 1, y.1.2.2, false, fun _ => (ha, ca, ())⟩, ⟨y.2.1.1, y.2.1.2.1, 0, y.2.1.2.2, true, fun _ => (0, 0, 0, ())⟩,
  ⟨y.2.2.1.1, y.2.2.1.2.1, 1, y.2.2.1.2.2, false, fun _ => (0, power, low, low, on, ())⟩, ⟨y.2.2.2.1, y.2.2.2.2.1, 1, y.2.2.2.2.2, false, fun _ => 0⟩, ())
theorem heaters_walk : ∀ (x : Node × Int × Int × Unit) (hR : HeatIn x) (hw : ∀ v ∈ aHeat.svs 0 x, v.wf), exCode EZ Try.f6.ntmps [.loop ⟨8, HX, [8, 9], fun y => [.ptr 5 y.2.1 0 [.elt 0 4], .int .i64 y.1], [2, 3, 4, 5], hxE x.1.2.1 x.2.1 x.2.2.1, fun y => y.1 ≤ 20 ∧ nodeB y.2.2.1 x.1.2.1 = true ∧ 1 ≤ y.2.2.2.2.1.2.2 ∧ 1 ≤ y.2.2.2.2.2.2.1.2.2 ∧ 1 ≤ y.2.2.2.2.2.2.2.2.2, fun y => 20 - y.1⟩] (match Try.f6.body with | some c => c | none => .skip) (argFr 0 (aHeat.svs 0 x)) (aHeat.hp 0 x) aHeat.tags (atEnd EZ Try.f6.results.toList fun r _ _ => eqv r (.bool true)) := by
  refine fun ⟨⟨ha, ca, ()⟩, power, low, ()⟩ hR hw => ?_
  refine vc_of (q :=
      ∀ (b1 : Nat) (x'1 : Unit), x'1 = () → ∀ (y1 : Unit), True → ∀ (t1 : Bool), t1 = Bool.true → ((!t1) = Bool.true → Bool.false = Bool.true) ∧ ((!t1) = Bool.false → ∀ (b2 : Nat), (b2 = b2 ∧ (0 : Nat) = (0 : Nat)) ∧ (b1 = b1 ∧ (0 : Nat) = (0 : Nat)) ∧ ∀ (b3 b4 : Nat), (b2 = b2 ∧ (0 : Nat) = (0 : Nat)) ∧ ∀ (b5 b6 : Nat), (b6 = b6 ∧ (0 : Nat) = (0 : Nat)) ∧ (b6 = b6 ∧ (0 : Nat) = (0 : Nat)) ∧ (1 : Nat) ≤
      (1 : Nat) ∧ (∀ (k1 : Nat), k1 < (1 : Nat) → Bool.true = Bool.true) ∧ (b3 = b3 ∧ (0 : Nat) = (0 : Nat)) ∧ Bool.true = Bool.true ∧ (1 : Nat) ≤ (1 : Nat) ∧ (∀ (k2 : Nat), k2 < (1 : Nat) → Bool.true = Bool.true) ∧ (b5 = b5 ∧ (0 : Nat) = (0 : Nat)) ∧ (1 : Nat) ≤ (1 : Nat) ∧ (∀ (k3 : Nat), k3 < (1 : Nat) → Bool.true = Bool.true) ∧ (b4 = b4 ∧ (0 : Nat) = (0 : Nat)) ∧ ∀ (v1 : Int), v1 = Heat.checkI
      (Eng.RowD.mk b3 (0 : Nat) (1 : Nat) (1 : Nat) Bool.false fun (k : Nat) ↦ (ha, ca, ()), Eng.RowD.mk (0 : Nat) (0 : Nat) (0 : Nat) (0 : Nat) Bool.true fun (x : Nat) ↦ ((0 : Int), (0 : Int), (0 : Int), ()), Eng.RowD.mk b5 (0 : Nat) (1 : Nat) (1 : Nat) Bool.false fun (k : Nat) ↦ ((0 : Int), power, low, low, Bool.false, ()), Eng.RowD.mk b4 (0 : Nat) (1 : Nat) (1 : Nat) Bool.false fun (k : Nat) ↦ (0 :
      Int), ()) → ∀ (t2 : Bool), (t2 = if (v1 != (0 : Int)) = Bool.true then Bool.true else power == (0 : Int)) → (t2 = Bool.true → Bool.true = Bool.true) ∧ (t2 = Bool.false → (∃ (x1 : Nat × Nat × Int × Bool × (Nat × Nat × Nat) × (Nat × Nat × Nat) × (Nat × Nat × Nat) × Nat × Nat × Nat), ((0 : Nat) = (0 : Nat) ∧ b6 = Prod.fst (Prod.snd x1) ∧ (0 : Nat) = (0 : Nat)) ∧ (0 : Int) = (↑(Prod.fst x1) : Int) ∧
      ((b6 = Prod.fst (Prod.snd x1) ∧ (0 : Nat) = (0 : Nat) ∧ Bool.false = Bool.false ∧ (1 : Nat) ≤ (1 : Nat) ∧ (1 : Nat) ≤ (1 : Nat) ∧ (1 : Nat) ≤ (1 : Nat)) ∧ (b3 = Prod.fst (Prod.fst (Prod.snd (Prod.snd (Prod.snd (Prod.snd x1))))) ∧ (0 : Nat) = Prod.fst (Prod.snd (Prod.fst (Prod.snd (Prod.snd (Prod.snd (Prod.snd x1)))))) ∧ (0 : Nat) = (0 : Nat) ∧ (1 : Nat) = (1 : Nat) ∧ (1 : Nat) = Prod.snd (Prod.snd
      (Prod.fst (Prod.snd (Prod.snd (Prod.snd (Prod.snd x1)))))) ∧ Bool.false = Bool.false) ∧ Eng.SVeq (Eng.SV.slice (999999 : Nat) (0 : Nat) (0 : Nat) [] (0 : Nat) (0 : Nat) (0 : Nat) (0 : Nat) Bool.true) (Eng.SV.slice (500 : Nat) (Prod.fst (Prod.fst (Prod.snd (Prod.snd (Prod.snd (Prod.snd (Prod.snd x1))))))) (Prod.fst (Prod.snd (Prod.fst (Prod.snd (Prod.snd (Prod.snd (Prod.snd (Prod.snd x1)))))))) []
      (3 : Nat) (0 : Nat) (0 : Nat) (Prod.snd (Prod.snd (Prod.fst (Prod.snd (Prod.snd (Prod.snd (Prod.snd (Prod.snd x1)))))))) Bool.true) ∧ (b5 = Prod.fst (Prod.fst (Prod.snd (Prod.snd (Prod.snd (Prod.snd (Prod.snd (Prod.snd x1))))))) ∧ (0 : Nat) = Prod.fst (Prod.snd (Prod.fst (Prod.snd (Prod.snd (Prod.snd (Prod.snd (Prod.snd (Prod.snd x1)))))))) ∧ (0 : Nat) = (0 : Nat) ∧ (1 : Nat) = (1 : Nat) ∧ (1 :
      Nat) = Prod.snd (Prod.snd (Prod.fst (Prod.snd (Prod.snd (Prod.snd (Prod.snd (Prod.snd (Prod.snd x1)))))))) ∧ Bool.false = Bool.false) ∧ b4 = Prod.fst (Prod.snd (Prod.snd (Prod.snd (Prod.snd (Prod.snd (Prod.snd (Prod.snd x1))))))) ∧ (0 : Nat) = Prod.fst (Prod.snd (Prod.snd (Prod.snd (Prod.snd (Prod.snd (Prod.snd (Prod.snd (Prod.snd x1)))))))) ∧ (0 : Nat) = (0 : Nat) ∧ (1 : Nat) = (1 : Nat) ∧ (1 :
      Nat) = Prod.snd (Prod.snd (Prod.snd (Prod.snd (Prod.snd (Prod.snd (Prod.snd (Prod.snd (Prod.snd x1)))))))) ∧ Bool.false = Bool.false) ∧ ((b3 = Prod.fst (Prod.fst (Prod.snd (Prod.snd (Prod.snd (Prod.snd x1))))) ∧ (0 : Nat) = Prod.fst (Prod.snd (Prod.fst (Prod.snd (Prod.snd (Prod.snd (Prod.snd x1)))))) ∧ Bool.false = Bool.false ∧ (1 : Nat) ≤ (1 : Nat) ∧ (1 : Nat) ≤ Prod.snd (Prod.snd (Prod.fst
      (Prod.snd (Prod.snd (Prod.snd (Prod.snd x1)))))) ∧ Prod.snd (Prod.snd (Prod.fst (Prod.snd (Prod.snd (Prod.snd (Prod.snd x1)))))) ≤ (1 : Nat)) ∧ ∀ (i1 : Nat), i1 < (1 : Nat) → ha = Prod.fst (Prod.snd (Prod.snd x1)) ∧ ca = ca) ∧ (Bool.true = Bool.true ∧ (0 : Nat) = (0 : Nat) ∧ Prod.snd (Prod.snd (Prod.fst (Prod.snd (Prod.snd (Prod.snd (Prod.snd (Prod.snd x1))))))) = (0 : Nat)) ∧ ((b5 = Prod.fst
      (Prod.fst (Prod.snd (Prod.snd (Prod.snd (Prod.snd (Prod.snd (Prod.snd x1))))))) ∧ (0 : Nat) = Prod.fst (Prod.snd (Prod.fst (Prod.snd (Prod.snd (Prod.snd (Prod.snd (Prod.snd (Prod.snd x1)))))))) ∧ Bool.false = Bool.false ∧ (1 : Nat) ≤ (1 : Nat) ∧ (1 : Nat) ≤ Prod.snd (Prod.snd (Prod.fst (Prod.snd (Prod.snd (Prod.snd (Prod.snd (Prod.snd (Prod.snd x1)))))))) ∧ Prod.snd (Prod.snd (Prod.fst (Prod.snd
      (Prod.snd (Prod.snd (Prod.snd (Prod.snd (Prod.snd x1)))))))) ≤ (1 : Nat)) ∧ ∀ (i2 : Nat), i2 < (1 : Nat) → (0 : Int) = (0 : Int) ∧ power = power ∧ low = low ∧ low = low ∧ Bool.false = Prod.fst (Prod.snd (Prod.snd (Prod.snd x1)))) ∧ ((b4 = Prod.fst (Prod.snd (Prod.snd (Prod.snd (Prod.snd (Prod.snd (Prod.snd (Prod.snd x1))))))) ∧ (0 : Nat) = Prod.fst (Prod.snd (Prod.snd (Prod.snd (Prod.snd (Prod.snd
      (Prod.snd (Prod.snd (Prod.snd x1)))))))) ∧ Bool.false = Bool.false ∧ (1 : Nat) ≤ (1 : Nat) ∧ (1 : Nat) ≤ Prod.snd (Prod.snd (Prod.snd (Prod.snd (Prod.snd (Prod.snd (Prod.snd (Prod.snd (Prod.snd x1)))))))) ∧ Prod.snd (Prod.snd (Prod.snd (Prod.snd (Prod.snd (Prod.snd (Prod.snd (Prod.snd (Prod.snd x1)))))))) ≤ (1 : Nat)) ∧ ∀ (i3 : Nat), i3 < (1 : Nat) → (0 : Int) = (0 : Int)) ∧ Prod.fst x1 ≤ (20 :
      Nat) ∧ Heat.nodeB (Prod.fst (Prod.snd (Prod.snd x1))) ca = Bool.true ∧ (1 : Nat) ≤ Prod.snd (Prod.snd (Prod.fst (Prod.snd (Prod.snd (Prod.snd (Prod.snd x1)))))) ∧ (1 : Nat) ≤ Prod.snd (Prod.snd (Prod.fst (Prod.snd (Prod.snd (Prod.snd (Prod.snd (Prod.snd (Prod.snd x1)))))))) ∧ (1 : Nat) ≤ Prod.snd (Prod.snd (Prod.snd (Prod.snd (Prod.snd (Prod.snd (Prod.snd (Prod.snd (Prod.snd x1))))))))) ∧ ∀ (x2 :
      Nat × Nat × Int × Bool × (Nat × Nat × Nat) × (Nat × Nat × Nat) × (Nat × Nat × Nat) × Nat × Nat × Nat), Prod.fst x2 ≤ (20 : Nat) ∧ Heat.nodeB (Prod.fst (Prod.snd (Prod.snd x2))) ca = Bool.true ∧ (1 : Nat) ≤ Prod.snd (Prod.snd (Prod.fst (Prod.snd (Prod.snd (Prod.snd (Prod.snd x2)))))) ∧ (1 : Nat) ≤ Prod.snd (Prod.snd (Prod.fst (Prod.snd (Prod.snd (Prod.snd (Prod.snd (Prod.snd (Prod.snd x2)))))))) ∧
      (1 : Nat) ≤ Prod.snd (Prod.snd (Prod.snd (Prod.snd (Prod.snd (Prod.snd (Prod.snd (Prod.snd (Prod.snd x2)))))))) → (Decidable.decide ((↑(Prod.fst x2) : Int) < (20 : Int)) = Bool.true → (Prod.fst (Prod.snd x2) = Prod.fst (Prod.snd x2) ∧ (0 : Nat) = (0 : Nat)) ∧ (0 : Int) ≤ (0 : Int) ∧ (0 : Int) < (↑(1 : Nat) : Int) ∧ (Prod.fst (Prod.fst (Prod.snd (Prod.snd (Prod.snd (Prod.snd x2))))) = Prod.fst
      (Prod.fst (Prod.snd (Prod.snd (Prod.snd (Prod.snd x2))))) ∧ Prod.fst (Prod.snd (Prod.fst (Prod.snd (Prod.snd (Prod.snd (Prod.snd x2)))))) = Prod.fst (Prod.snd (Prod.fst (Prod.snd (Prod.snd (Prod.snd (Prod.snd x2))))))) ∧ Int.toNat (0 : Int) < (1 : Nat) ∧ ∀ (v2 : Int), v2 = Heat.tempF (Prod.fst (Prod.snd (Prod.snd x2))) ca → (Prod.fst (Prod.snd x2) = Prod.fst (Prod.snd x2) ∧ (0 : Nat) = (0 : Nat)) ∧
      ∀ (b7 : Nat), (1 : Nat) ≤ (1 : Nat) ∧ (∀ (k4 : Nat), k4 < (1 : Nat) → Bool.true = Bool.true) ∧ (Prod.fst (Prod.fst (Prod.snd (Prod.snd (Prod.snd (Prod.snd x2))))) = Prod.fst (Prod.fst (Prod.snd (Prod.snd (Prod.snd (Prod.snd x2))))) ∧ Prod.fst (Prod.snd (Prod.fst (Prod.snd (Prod.snd (Prod.snd (Prod.snd x2)))))) = Prod.fst (Prod.snd (Prod.fst (Prod.snd (Prod.snd (Prod.snd (Prod.snd x2))))))) ∧ (0 :
      Nat) ≤ (0 : Nat) ∧ (∀ (k5 : Nat), k5 < (0 : Nat) → Bool.true = Bool.true) ∧ (Prod.fst (Prod.fst (Prod.snd (Prod.snd (Prod.snd (Prod.snd (Prod.snd x2)))))) = Prod.fst (Prod.fst (Prod.snd (Prod.snd (Prod.snd (Prod.snd (Prod.snd x2)))))) ∧ Prod.fst (Prod.snd (Prod.fst (Prod.snd (Prod.snd (Prod.snd (Prod.snd (Prod.snd x2))))))) = Prod.fst (Prod.snd (Prod.fst (Prod.snd (Prod.snd (Prod.snd (Prod.snd
      (Prod.snd x2)))))))) ∧ (1 : Nat) ≤ (1 : Nat) ∧ (∀ (k6 : Nat), k6 < (1 : Nat) → Bool.true = Bool.true) ∧ (Prod.fst (Prod.fst (Prod.snd (Prod.snd (Prod.snd (Prod.snd (Prod.snd (Prod.snd x2))))))) = Prod.fst (Prod.fst (Prod.snd (Prod.snd (Prod.snd (Prod.snd (Prod.snd (Prod.snd x2))))))) ∧ Prod.fst (Prod.snd (Prod.fst (Prod.snd (Prod.snd (Prod.snd (Prod.snd (Prod.snd (Prod.snd x2)))))))) = Prod.fst
      (Prod.snd (Prod.fst (Prod.snd (Prod.snd (Prod.snd (Prod.snd (Prod.snd (Prod.snd x2))))))))) ∧ (1 : Nat) ≤ (1 : Nat) ∧ (∀ (k7 : Nat), k7 < (1 : Nat) → Bool.true = Bool.true) ∧ (Prod.fst (Prod.snd (Prod.snd (Prod.snd (Prod.snd (Prod.snd (Prod.snd (Prod.snd x2))))))) = Prod.fst (Prod.snd (Prod.snd (Prod.snd (Prod.snd (Prod.snd (Prod.snd (Prod.snd x2))))))) ∧ Prod.fst (Prod.snd (Prod.snd (Prod.snd
      (Prod.snd (Prod.snd (Prod.snd (Prod.snd (Prod.snd x2)))))))) = Prod.fst (Prod.snd (Prod.snd (Prod.snd (Prod.snd (Prod.snd (Prod.snd (Prod.snd (Prod.snd x2))))))))) ∧ (1 : Nat) ≤ (1 : Nat) ∧ (∀ (k8 : Nat), k8 < (1 : Nat) → Bool.true = Bool.true) ∧ (b7 = b7 ∧ (0 : Nat) = (0 : Nat)) ∧ ∀ (x'2 : (Eng.RowD (Int × Int × Unit) × Eng.RowD (Int × Int × Int × Unit) × Eng.RowD (Int × Int × Int × Int × Bool ×
      Unit) × Eng.RowD Int × Unit) × Eng.RowD Int × Bool × Unit), x'2 = ((Eng.RowD.mk (Prod.fst (Prod.fst (Prod.snd (Prod.snd (Prod.snd (Prod.snd x2)))))) (Prod.fst (Prod.snd (Prod.fst (Prod.snd (Prod.snd (Prod.snd (Prod.snd x2))))))) (1 : Nat) (Prod.snd (Prod.snd (Prod.fst (Prod.snd (Prod.snd (Prod.snd (Prod.snd x2))))))) Bool.false fun (k : Nat) ↦ (Prod.fst (Prod.snd (Prod.snd x2)), ca, ()),
      Eng.RowD.mk (Prod.fst (Prod.fst (Prod.snd (Prod.snd (Prod.snd (Prod.snd (Prod.snd x2))))))) (Prod.fst (Prod.snd (Prod.fst (Prod.snd (Prod.snd (Prod.snd (Prod.snd (Prod.snd x2)))))))) (0 : Nat) (Prod.snd (Prod.snd (Prod.fst (Prod.snd (Prod.snd (Prod.snd (Prod.snd (Prod.snd x2)))))))) Bool.true fun (k : Nat) ↦ ((0 : Int), (0 : Int), (0 : Int), ()), Eng.RowD.mk (Prod.fst (Prod.fst (Prod.snd (Prod.snd
      (Prod.snd (Prod.snd (Prod.snd (Prod.snd x2)))))))) (Prod.fst (Prod.snd (Prod.fst (Prod.snd (Prod.snd (Prod.snd (Prod.snd (Prod.snd (Prod.snd x2))))))))) (1 : Nat) (Prod.snd (Prod.snd (Prod.fst (Prod.snd (Prod.snd (Prod.snd (Prod.snd (Prod.snd (Prod.snd x2))))))))) Bool.false fun (k : Nat) ↦ ((0 : Int), power, low, low, Prod.fst (Prod.snd (Prod.snd (Prod.snd x2))), ()), Eng.RowD.mk (Prod.fst
      (Prod.snd (Prod.snd (Prod.snd (Prod.snd (Prod.snd (Prod.snd (Prod.snd x2)))))))) (Prod.fst (Prod.snd (Prod.snd (Prod.snd (Prod.snd (Prod.snd (Prod.snd (Prod.snd (Prod.snd x2))))))))) (1 : Nat) (Prod.snd (Prod.snd (Prod.snd (Prod.snd (Prod.snd (Prod.snd (Prod.snd (Prod.snd (Prod.snd x2))))))))) Bool.false fun (k : Nat) ↦ (0 : Int), ()), Eng.RowD.mk b7 (0 : Nat) (1 : Nat) (1 : Nat) Bool.false fun (k
      : Nat) ↦ (0 : Int), Bool.true, ()) → ∀ (y2 : (Nat × Nat × Nat) × (Nat × Nat × Nat) × (Nat × Nat × Nat) × Nat × Nat × Nat), (Heat.okN (Heat.stepB (Prod.fst x'2) (Prod.fst (Prod.snd x'2))) (Eng.RowD.n (Prod.fst (Prod.fst x'2))) ≤ Prod.snd (Prod.snd (Prod.fst y2)) ∧ Heat.okN (Heat.stepB (Prod.fst x'2) (Prod.fst (Prod.snd x'2))) (Eng.RowD.n (Prod.fst (Prod.snd (Prod.fst x'2)))) ≤ Prod.snd (Prod.snd
      (Prod.fst (Prod.snd y2))) ∧ Heat.okN (Heat.stepB (Prod.fst x'2) (Prod.fst (Prod.snd x'2))) (Eng.RowD.n (Prod.fst (Prod.snd (Prod.snd (Prod.fst x'2))))) ≤ Prod.snd (Prod.snd (Prod.fst (Prod.snd (Prod.snd y2))))) ∧ Heat.okN (Heat.stepB (Prod.fst x'2) (Prod.fst (Prod.snd x'2))) (Eng.RowD.n (Prod.fst (Prod.snd (Prod.snd (Prod.snd (Prod.fst x'2)))))) ≤ Prod.snd (Prod.snd (Prod.snd (Prod.snd (Prod.snd
      y2)))) → ∀ (v3 : Int), (v3 = if Heat.stepB (Prod.fst x'2) (Prod.fst (Prod.snd x'2)) = Bool.true then (0 : Int) else (2 : Int)) → ∀ (b8 b9 : Nat), (b8 = b8 ∧ (0 : Nat) = (0 : Nat)) ∧ (b9 = b9 ∧ (0 : Nat) = (0 : Nat)) ∧ ((v3 != (0 : Int)) = Bool.false → b8 = b8 ∧ (0 : Nat) = (0 : Nat)) ∧ ∀ (v4 : Int), v4 = (↑(Heat.okN (Heat.stepB (Prod.fst x'2) (Prod.fst (Prod.snd x'2))) (Eng.RowD.n (Prod.fst
      (Prod.fst x'2)))) : Int) → ∀ (t3 : Bool), (t3 = if (v3 != (0 : Int)) = Bool.true then Bool.true else v4 != (1 : Int)) → (t3 = Bool.true → Bool.false = Bool.true) ∧ (t3 = Bool.false → (b8 = b8 ∧ (0 : Nat) = (0 : Nat)) ∧ (0 : Int) ≤ (0 : Int) ∧ (0 : Int) < (↑(Heat.okN (Heat.stepB (Prod.fst x'2) (Prod.fst (Prod.snd x'2))) (Eng.RowD.n (Prod.fst (Prod.fst x'2)))) : Int) ∧ (Prod.fst (Prod.fst y2) =
      Prod.fst (Prod.fst y2) ∧ Prod.fst (Prod.snd (Prod.fst y2)) = Prod.fst (Prod.snd (Prod.fst y2))) ∧ Int.toNat (0 : Int) < Heat.okN (Heat.stepB (Prod.fst x'2) (Prod.fst (Prod.snd x'2))) (Eng.RowD.n (Prod.fst (Prod.fst x'2))) ∧ (Prod.fst (Prod.snd x2) = Prod.fst (Prod.snd x2) ∧ (0 : Nat) = (0 : Nat)) ∧ (0 : Int) ≤ (0 : Int) ∧ (0 : Int) < (↑(1 : Nat) : Int) ∧ (Prod.fst (Prod.fst (Prod.snd (Prod.snd
      (Prod.snd (Prod.snd x2))))) = Prod.fst (Prod.fst (Prod.snd (Prod.snd (Prod.snd (Prod.snd x2))))) ∧ Prod.fst (Prod.snd (Prod.fst (Prod.snd (Prod.snd (Prod.snd (Prod.snd x2)))))) = Prod.fst (Prod.snd (Prod.fst (Prod.snd (Prod.snd (Prod.snd (Prod.snd x2))))))) ∧ Int.toNat (0 : Int) < (1 : Nat) ∧ ∀ (v5 : Int), v5 = Go.IntKind.wrap Go.IntKind.i64 (Prod.fst (Prod.fst (Heat.st5 (Prod.fst x'2) (Prod.fst
      (Prod.snd x'2)) (Prod.fst (Prod.snd (Prod.snd x'2)))) (Int.toNat (0 : Int))) - Prod.fst (Prod.snd (Prod.snd x2))) → (b9 = b9 ∧ (0 : Nat) = (0 : Nat)) ∧ ∀ (v6 : Int), v6 = Go.IntKind.wrap Go.IntKind.i64 (v5 + Heat.okI (Heat.stepB (Prod.fst x'2) (Prod.fst (Prod.snd x'2))) (Prod.snd (Heat.st5 (Prod.fst x'2) (Prod.fst (Prod.snd x'2)) (Prod.fst (Prod.snd (Prod.snd x'2)))))) → ∀ (t4 : Bool), (t4 = if
      Decidable.decide (v2 < low) = Bool.true then v6 != power else Bool.false) → ∀ (t5 : Bool), (t5 = if Decidable.decide (v2 > low) = Bool.true then v6 != (0 : Int) else Bool.false) → ∀ (t6 : Bool), (t6 = if t4 = Bool.true then Bool.true else t5) → ∀ (t7 : Bool), (t7 = if (v2 == low) = Bool.true then v6 != (0 : Int) else Bool.false) → ∀ (t8 : Bool), (t8 = if t7 = Bool.true then v6 != power else
      Bool.false) → ∀ (t9 : Bool), (t9 = if t6 = Bool.true then Bool.true else t8) → (t9 = Bool.true → Bool.false = Bool.true) ∧ (t9 = Bool.false → (b8 = b8 ∧ (0 : Nat) = (0 : Nat)) ∧ (Prod.fst (Prod.snd x2) = Prod.fst (Prod.snd x2) ∧ (0 : Nat) = (0 : Nat)) ∧ ∀ (v7 : Int), v7 = Go.IntKind.wrap Go.IntKind.i64 ((↑(Prod.fst x2) : Int) + (1 : Int)) → ∃ (x3 : Nat × Nat × Int × Bool × (Nat × Nat × Nat) × (Nat
      × Nat × Nat) × (Nat × Nat × Nat) × Nat × Nat × Nat), ((0 : Nat) = (0 : Nat) ∧ Prod.fst (Prod.snd x2) = Prod.fst (Prod.snd x3) ∧ (0 : Nat) = (0 : Nat)) ∧ v7 = (↑(Prod.fst x3) : Int) ∧ ((Prod.fst (Prod.snd x2) = Prod.fst (Prod.snd x3) ∧ (0 : Nat) = (0 : Nat) ∧ Bool.false = Bool.false ∧ (1 : Nat) ≤ (1 : Nat) ∧ (1 : Nat) ≤ (1 : Nat) ∧ (1 : Nat) ≤ (1 : Nat)) ∧ (Prod.fst (Prod.fst y2) = Prod.fst
      (Prod.fst (Prod.snd (Prod.snd (Prod.snd (Prod.snd x3))))) ∧ Prod.fst (Prod.snd (Prod.fst y2)) = Prod.fst (Prod.snd (Prod.fst (Prod.snd (Prod.snd (Prod.snd (Prod.snd x3)))))) ∧ (0 : Nat) = (0 : Nat) ∧ Heat.okN (Heat.stepB (Prod.fst x'2) (Prod.fst (Prod.snd x'2))) (Eng.RowD.n (Prod.fst (Prod.fst x'2))) = (1 : Nat) ∧ Prod.snd (Prod.snd (Prod.fst y2)) = Prod.snd (Prod.snd (Prod.fst (Prod.snd (Prod.snd
      (Prod.snd (Prod.snd x3)))))) ∧ Heat.okZ (Heat.stepB (Prod.fst x'2) (Prod.fst (Prod.snd x'2))) (Eng.RowD.z (Prod.fst (Prod.fst x'2))) = Bool.false) ∧ (Prod.fst (Prod.fst (Prod.snd y2)) = Prod.fst (Prod.fst (Prod.snd (Prod.snd (Prod.snd (Prod.snd (Prod.snd x3)))))) ∧ Prod.fst (Prod.snd (Prod.fst (Prod.snd y2))) = Prod.fst (Prod.snd (Prod.fst (Prod.snd (Prod.snd (Prod.snd (Prod.snd (Prod.snd x3)))))))
      ∧ (0 : Nat) = (0 : Nat) ∧ Heat.okN (Heat.stepB (Prod.fst x'2) (Prod.fst (Prod.snd x'2))) (Eng.RowD.n (Prod.fst (Prod.snd (Prod.fst x'2)))) = (0 : Nat) ∧ Prod.snd (Prod.snd (Prod.fst (Prod.snd y2))) = Prod.snd (Prod.snd (Prod.fst (Prod.snd (Prod.snd (Prod.snd (Prod.snd (Prod.snd x3))))))) ∧ Heat.okZ (Heat.stepB (Prod.fst x'2) (Prod.fst (Prod.snd x'2))) (Eng.RowD.z (Prod.fst (Prod.snd (Prod.fst
      x'2)))) = Bool.true) ∧ (Prod.fst (Prod.fst (Prod.snd (Prod.snd y2))) = Prod.fst (Prod.fst (Prod.snd (Prod.snd (Prod.snd (Prod.snd (Prod.snd (Prod.snd x3))))))) ∧ Prod.fst (Prod.snd (Prod.fst (Prod.snd (Prod.snd y2)))) = Prod.fst (Prod.snd (Prod.fst (Prod.snd (Prod.snd (Prod.snd (Prod.snd (Prod.snd (Prod.snd x3)))))))) ∧ (0 : Nat) = (0 : Nat) ∧ Heat.okN (Heat.stepB (Prod.fst x'2) (Prod.fst (Prod.snd
      x'2))) (Eng.RowD.n (Prod.fst (Prod.snd (Prod.snd (Prod.fst x'2))))) = (1 : Nat) ∧ Prod.snd (Prod.snd (Prod.fst (Prod.snd (Prod.snd y2)))) = Prod.snd (Prod.snd (Prod.fst (Prod.snd (Prod.snd (Prod.snd (Prod.snd (Prod.snd (Prod.snd x3)))))))) ∧ Heat.okZ (Heat.stepB (Prod.fst x'2) (Prod.fst (Prod.snd x'2))) (Eng.RowD.z (Prod.fst (Prod.snd (Prod.snd (Prod.fst x'2))))) = Bool.false) ∧ Prod.fst (Prod.snd
      (Prod.snd (Prod.snd y2))) = Prod.fst (Prod.snd (Prod.snd (Prod.snd (Prod.snd (Prod.snd (Prod.snd (Prod.snd x3))))))) ∧ Prod.fst (Prod.snd (Prod.snd (Prod.snd (Prod.snd y2)))) = Prod.fst (Prod.snd (Prod.snd (Prod.snd (Prod.snd (Prod.snd (Prod.snd (Prod.snd (Prod.snd x3)))))))) ∧ (0 : Nat) = (0 : Nat) ∧ Heat.okN (Heat.stepB (Prod.fst x'2) (Prod.fst (Prod.snd x'2))) (Eng.RowD.n (Prod.fst (Prod.snd
      (Prod.snd (Prod.snd (Prod.fst x'2)))))) = (1 : Nat) ∧ Prod.snd (Prod.snd (Prod.snd (Prod.snd (Prod.snd y2)))) = Prod.snd (Prod.snd (Prod.snd (Prod.snd (Prod.snd (Prod.snd (Prod.snd (Prod.snd (Prod.snd x3)))))))) ∧ Heat.okZ (Heat.stepB (Prod.fst x'2) (Prod.fst (Prod.snd x'2))) (Eng.RowD.z (Prod.fst (Prod.snd (Prod.snd (Prod.snd (Prod.fst x'2)))))) = Bool.false) ∧ ((Prod.fst (Prod.fst y2) = Prod.fst
      (Prod.fst (Prod.snd (Prod.snd (Prod.snd (Prod.snd x3))))) ∧ Prod.fst (Prod.snd (Prod.fst y2)) = Prod.fst (Prod.snd (Prod.fst (Prod.snd (Prod.snd (Prod.snd (Prod.snd x3)))))) ∧ Heat.okZ (Heat.stepB (Prod.fst x'2) (Prod.fst (Prod.snd x'2))) (Eng.RowD.z (Prod.fst (Prod.fst x'2))) = Bool.false ∧ (1 : Nat) ≤ Heat.okN (Heat.stepB (Prod.fst x'2) (Prod.fst (Prod.snd x'2))) (Eng.RowD.n (Prod.fst (Prod.fst
      x'2))) ∧ (1 : Nat) ≤ Prod.snd (Prod.snd (Prod.fst (Prod.snd (Prod.snd (Prod.snd (Prod.snd x3)))))) ∧ Prod.snd (Prod.snd (Prod.fst (Prod.snd (Prod.snd (Prod.snd (Prod.snd x3)))))) ≤ Prod.snd (Prod.snd (Prod.fst y2))) ∧ ∀ (i4 : Nat), i4 < (1 : Nat) → Prod.fst (Prod.fst (Heat.st5 (Prod.fst x'2) (Prod.fst (Prod.snd x'2)) (Prod.fst (Prod.snd (Prod.snd x'2)))) i4) = Prod.fst (Prod.snd (Prod.snd x3)) ∧
      Prod.fst (Prod.snd (Prod.fst (Heat.st5 (Prod.fst x'2) (Prod.fst (Prod.snd x'2)) (Prod.fst (Prod.snd (Prod.snd x'2)))) i4)) = ca) ∧ ((Prod.fst (Prod.fst (Prod.snd y2)) = Prod.fst (Prod.fst (Prod.snd (Prod.snd (Prod.snd (Prod.snd (Prod.snd x3)))))) ∧ Prod.fst (Prod.snd (Prod.fst (Prod.snd y2))) = Prod.fst (Prod.snd (Prod.fst (Prod.snd (Prod.snd (Prod.snd (Prod.snd (Prod.snd x3))))))) ∧ Heat.okZ
      (Heat.stepB (Prod.fst x'2) (Prod.fst (Prod.snd x'2))) (Eng.RowD.z (Prod.fst (Prod.snd (Prod.fst x'2)))) = Bool.true ∧ (0 : Nat) ≤ Heat.okN (Heat.stepB (Prod.fst x'2) (Prod.fst (Prod.snd x'2))) (Eng.RowD.n (Prod.fst (Prod.snd (Prod.fst x'2)))) ∧ (0 : Nat) ≤ Prod.snd (Prod.snd (Prod.fst (Prod.snd (Prod.snd (Prod.snd (Prod.snd (Prod.snd x3))))))) ∧ Prod.snd (Prod.snd (Prod.fst (Prod.snd (Prod.snd
      (Prod.snd (Prod.snd (Prod.snd x3))))))) ≤ Prod.snd (Prod.snd (Prod.fst (Prod.snd y2)))) ∧ ∀ (i5 : Nat), i5 < (0 : Nat) → Prod.fst (Eng.RowD.f (Prod.fst (Prod.snd (Prod.fst x'2))) i5) = (0 : Int) ∧ Prod.fst (Prod.snd (Eng.RowD.f (Prod.fst (Prod.snd (Prod.fst x'2))) i5)) = (0 : Int) ∧ Prod.fst (Prod.snd (Prod.snd (Eng.RowD.f (Prod.fst (Prod.snd (Prod.fst x'2))) i5))) = (0 : Int)) ∧ ((Prod.fst
      (Prod.fst (Prod.snd (Prod.snd y2))) = Prod.fst (Prod.fst (Prod.snd (Prod.snd (Prod.snd (Prod.snd (Prod.snd (Prod.snd x3))))))) ∧ Prod.fst (Prod.snd (Prod.fst (Prod.snd (Prod.snd y2)))) = Prod.fst (Prod.snd (Prod.fst (Prod.snd (Prod.snd (Prod.snd (Prod.snd (Prod.snd (Prod.snd x3)))))))) ∧ Heat.okZ (Heat.stepB (Prod.fst x'2) (Prod.fst (Prod.snd x'2))) (Eng.RowD.z (Prod.fst (Prod.snd (Prod.snd
      (Prod.fst x'2))))) = Bool.false ∧ (1 : Nat) ≤ Heat.okN (Heat.stepB (Prod.fst x'2) (Prod.fst (Prod.snd x'2))) (Eng.RowD.n (Prod.fst (Prod.snd (Prod.snd (Prod.fst x'2))))) ∧ (1 : Nat) ≤ Prod.snd (Prod.snd (Prod.fst (Prod.snd (Prod.snd (Prod.snd (Prod.snd (Prod.snd (Prod.snd x3)))))))) ∧ Prod.snd (Prod.snd (Prod.fst (Prod.snd (Prod.snd (Prod.snd (Prod.snd (Prod.snd (Prod.snd x3)))))))) ≤ Prod.snd
      (Prod.snd (Prod.fst (Prod.snd (Prod.snd y2))))) ∧ ∀ (i6 : Nat), i6 < (1 : Nat) → Prod.fst (Prod.fst (Prod.snd (Heat.st1 (Prod.fst x'2) (Prod.fst (Prod.snd (Prod.snd x'2))))) i6) = (0 : Int) ∧ Prod.fst (Prod.snd (Prod.fst (Prod.snd (Heat.st1 (Prod.fst x'2) (Prod.fst (Prod.snd (Prod.snd x'2))))) i6)) = power ∧ Prod.fst (Prod.snd (Prod.snd (Prod.fst (Prod.snd (Heat.st1 (Prod.fst x'2) (Prod.fst
      (Prod.snd (Prod.snd x'2))))) i6))) = low ∧ Prod.fst (Prod.snd (Prod.snd (Prod.snd (Prod.fst (Prod.snd (Heat.st1 (Prod.fst x'2) (Prod.fst (Prod.snd (Prod.snd x'2))))) i6)))) = low ∧ Prod.fst (Prod.snd (Prod.snd (Prod.snd (Prod.snd (Prod.fst (Prod.snd (Heat.st1 (Prod.fst x'2) (Prod.fst (Prod.snd (Prod.snd x'2))))) i6))))) = Prod.fst (Prod.snd (Prod.snd (Prod.snd x3)))) ∧ ((Prod.fst (Prod.snd
      (Prod.snd (Prod.snd y2))) = Prod.fst (Prod.snd (Prod.snd (Prod.snd (Prod.snd (Prod.snd (Prod.snd (Prod.snd x3))))))) ∧ Prod.fst (Prod.snd (Prod.snd (Prod.snd (Prod.snd y2)))) = Prod.fst (Prod.snd (Prod.snd (Prod.snd (Prod.snd (Prod.snd (Prod.snd (Prod.snd (Prod.snd x3)))))))) ∧ Heat.okZ (Heat.stepB (Prod.fst x'2) (Prod.fst (Prod.snd x'2))) (Eng.RowD.z (Prod.fst (Prod.snd (Prod.snd (Prod.snd
      (Prod.fst x'2)))))) = Bool.false ∧ (1 : Nat) ≤ Heat.okN (Heat.stepB (Prod.fst x'2) (Prod.fst (Prod.snd x'2))) (Eng.RowD.n (Prod.fst (Prod.snd (Prod.snd (Prod.snd (Prod.fst x'2)))))) ∧ (1 : Nat) ≤ Prod.snd (Prod.snd (Prod.snd (Prod.snd (Prod.snd (Prod.snd (Prod.snd (Prod.snd (Prod.snd x3)))))))) ∧ Prod.snd (Prod.snd (Prod.snd (Prod.snd (Prod.snd (Prod.snd (Prod.snd (Prod.snd (Prod.snd x3)))))))) ≤
      Prod.snd (Prod.snd (Prod.snd (Prod.snd (Prod.snd y2))))) ∧ ∀ (i7 : Nat), i7 < (1 : Nat) → Eng.RowD.f (Prod.fst (Prod.snd (Prod.snd (Prod.snd (Prod.fst x'2))))) i7 = (0 : Int)) ∧ (Prod.fst x3 ≤ (20 : Nat) ∧ Heat.nodeB (Prod.fst (Prod.snd (Prod.snd x3))) ca = Bool.true ∧ (1 : Nat) ≤ Prod.snd (Prod.snd (Prod.fst (Prod.snd (Prod.snd (Prod.snd (Prod.snd x3)))))) ∧ (1 : Nat) ≤ Prod.snd (Prod.snd
      (Prod.fst (Prod.snd (Prod.snd (Prod.snd (Prod.snd (Prod.snd (Prod.snd x3)))))))) ∧ (1 : Nat) ≤ Prod.snd (Prod.snd (Prod.snd (Prod.snd (Prod.snd (Prod.snd (Prod.snd (Prod.snd (Prod.snd x3))))))))) ∧ (20 : Nat) - Prod.fst x3 < (20 : Nat) - Prod.fst x2))) ∧ (Decidable.decide ((↑(Prod.fst x2) : Int) < (20 : Int)) = Bool.false → Bool.true = Bool.true)))) (by kernel_rfl) ?_
  simp only [eq_self, true_and, and_true, Nat.le_refl, implies_true, forall_const, Bool.false_eq_true, Bool.true_eq_false, reduceCtorEq, false_imp_iff, true_imp_iff, Int.toNat_zero, Int.toNat_natCast, Nat.zero_lt_one, Int.le_refl, allGet]
  intro t1 h1
  subst h1
  refine ⟨fun h => (by cases h), fun _ b3 b4 b5 b6 v1 hv1 t2 ht2 ht2' => ?_⟩
  rw [ht2'] at ht2
  have hvp : v1 = 0 ∧ power ≠ 0 := by
    by_cases h : v1 = 0
    · refine ⟨h, fun hp => ?_⟩
      simp [h, hp] at ht2
    · simp [h] at ht2
  obtain ⟨hv0, hp0⟩ := hvp
  rw [hv0] at hv1
  have hB : checkB (hT ha ca power low false ((b3, 0, 1), (0, 0, 0), (b5, 0, 1), (b4, 0, 1))) = true := by
    cases hB : checkB (hT ha ca power low false ((b3, 0, 1), (0, 0, 0), (b5, 0, 1), (b4, 0, 1))) with
    | true => rfl
    | false =>
      exfalso
      have : checkI (hT ha ca power low false ((b3, 0, 1), (0, 0, 0), (b5, 0, 1), (b4, 0, 1))) = 2 := by unfold checkI; rw [hB]; rfl
      rw [this] at hv1
      omega
  obtain ⟨_, n1, _, _, n4⟩ := (checkB_iff _).1 hB
  have va : nodeB ha ca = true := allB_true.1 n1 0 (by show 0 < 1; decide)
  have vh : heaterF 1 (0, power, low, low, false, ()) = true := allB_true.1 n4 0 (by show 0 < 1; decide)
  simp only [heaterF, withinF, Bool.and_eq_true, decide_eq_true_eq] at vh
  obtain ⟨⟨⟨⟨_, hp1, hp2⟩, hl1, hl2⟩, _⟩, _⟩ := vh
  have le1 := Nat.le_refl 1
  refine ⟨⟨(0, b6, ha, false, (b3, 0, 1), (0, 0, 0), (b5, 0, 1), (b4, 0, 1)), rfl, rfl, ⟨rfl, ⟨rfl, rfl, rfl⟩, nil_eqv rfl rfl rfl, ⟨rfl, rfl, rfl⟩, rfl, rfl, rfl⟩, ⟨⟨rfl, rfl, le1, le1⟩, fun _ _ => rfl⟩, rfl, ⟨⟨rfl, rfl, le1, le1⟩, fun _ _ => rfl⟩,
    ⟨rfl, rfl, le1, le1⟩, Nat.zero_le _, va, le1, le1, le1⟩, ?_⟩
  rintro ⟨i, bt, h, on, ⟨a1, a2, a3⟩, ⟨a4, a5, a6⟩, ⟨a7, a8, a9⟩, a10, a11, a12⟩ ⟨hi, vn, hc1, hc2, hc3⟩
  dsimp only at hi vn hc1 hc2 hc3 ⊢
  refine fun hlt => ?_
  simp only [decide_eq_true_eq] at hlt
  refine ⟨by decide, fun v2 hv2 b7 x hx y hy v3 hv3 v4 hv4 t3 ht3 => ?_⟩
  have hstep : stepB x.1 x.2.1 = true := by
    subst hx
    have : checkB (hT h ca power low on ((a1, a2, a3), (a4, a5, a6), (a7, a8, a9), (a10, a11, a12))) = true := by
      refine (checkB_iff _).2 ⟨⟨by show 1 ≤ 1; decide, by show 1 ≤ 16; decide, by show 0 ≤ 32; decide, by show 1 ≤ 8; decide, rfl⟩, ?_, ?_, ?_, ?_⟩
      · exact allB_true.2 fun _ _ => vn
      · exact allB_true.2 fun _ _ => rfl
      · exact allB_true.2 fun k hk => absurd hk (Nat.not_lt_zero k)
      · refine allB_true.2 fun _ _ => ?_
        simp only [heaterF, hasF, withinF, Bool.and_eq_true, decide_eq_true_eq]
        exact ⟨⟨⟨⟨⟨by decide, by decide⟩, hp1, hp2⟩, hl1, hl2⟩, hl1, hl2⟩, Int.le_refl _⟩
    unfold stepB
    dsimp only
    rw [this]
    rfl
  obtain ⟨d, lim, hd, e1, e2, e3, e4, e5, e6⟩ := heat_step (b7 := b7) vn hp1 hp2 x.1 x.2.1 (congrArg Prod.fst hx) (congrArg (fun z => z.2.1) hx)
  have hpw : x.2.2.1 = true := congrArg (fun z => z.2.2.1) hx
  have hn1 : x.1.1.n = 1 := congrArg (fun z => z.1.1.n) hx
  have hn2 : x.1.2.1.n = 0 := congrArg (fun z => z.1.2.1.n) hx
  have hn3 : x.1.2.2.1.n = 1 := congrArg (fun z => z.1.2.2.1.n) hx
  have hn4 : x.1.2.2.2.1.n = 1 := congrArg (fun z => z.1.2.2.2.1.n) hx
  have hz1 : x.1.1.z = false := congrArg (fun z => z.1.1.z) hx
  have hz2 : x.1.2.1.z = true := congrArg (fun z => z.1.2.1.z) hx
  have hz3 : x.1.2.2.1.z = false := congrArg (fun z => z.1.2.2.1.z) hx
  have hz4 : x.1.2.2.2.1.z = false := congrArg (fun z => z.1.2.2.2.1.z) hx
  have hrf : x.1.2.2.2.1.f = fun _ => 0 := congrArg (fun z => z.1.2.2.2.1.f) hx
  have oN : ∀ n, okN true n = n := fun _ => rfl
  have oI : ∀ n, okI true n = n := fun _ => rfl
  have oZ : ∀ n, okZ true n = n := fun _ => rfl
  simp only [hstep, hpw, hn1, hn2, hn3, hn4, hz1, hz2, hz3, hz4, hrf, oN, oI, oZ, if_true] at *
  clear hx
  obtain ⟨w1, w2, w3, w4⟩ := node_facts vn
  subst hv3 hv4
  refine ⟨fun h3 => ?_, fun h3 => ⟨by decide, by decide, by decide, fun v5 hv5 v6 hv6 t4 ht4 t5 ht5 t6 ht6 t7 ht7 t8 ht8 t9 ht9 => ?_⟩⟩
  · rw [h3] at ht3
    simp at ht3
  have dv : d = 0 ∨ d = power := by rw [hd]; split <;> simp
  have hv6' : v6 = d := by
    rw [hv6, hv5, e1, e2]
    dsimp only
    rw [w64_id (x := h + d - lim - h) (by omega) (by omega), w64_id (by omega) (by omega)]
    omega
  have ht : tempF h ca = warmF h ca := by unfold tempF; rw [if_pos vn]
  rw [hv6'] at ht4 ht5 ht7 ht8
  rw [ht] at hv2
  subst hv2
  have hd2 : (warmF h ca < low → d = power) ∧ (low < warmF h ca → d = 0) := by
    constructor
    · intro hc
      rw [hd]
      simp [onF, hc]
    · intro hc
      have : ¬ warmF h ca < low := by omega
      rw [hd]
      simp [onF, hc, this]
  have hl : (i : Int) + 1 = ((i + 1 : Nat) : Int) := rfl
  refine ⟨fun h9 => ?_, fun _ v7 hv7 => ⟨(i + 1, bt, h + d - lim, onF (h, ca, ()) (0, power, low, low, on, ()), y), rfl, ?_, ⟨rfl, ⟨rfl, rfl, trivial, rfl, trivial⟩, ⟨rfl, rfl, trivial, rfl, trivial⟩, ⟨rfl, rfl, trivial, rfl, trivial⟩, rfl, rfl, trivial, rfl, trivial⟩, ⟨⟨rfl, rfl, trivial, le1, hy.1.1, Nat.le_refl _⟩, fun k hk => ?_⟩,
    ⟨⟨rfl, rfl, trivial, Nat.le_refl _, Nat.zero_le _, Nat.le_refl _⟩, fun k hk => absurd hk (Nat.not_lt_zero k)⟩, ⟨⟨rfl, rfl, trivial, le1, hy.1.2.2, Nat.le_refl _⟩, fun k hk => ?_⟩, ⟨⟨rfl, rfl, trivial, le1, hy.2, Nat.le_refl _⟩, fun _ _ => trivial⟩,
    ⟨by show i + 1 ≤ 20; omega, e3, hy.1.1, hy.1.2.2, hy.2⟩, by show 20 - (i + 1) < 20 - i; omega⟩⟩
  · clear hv5 hv6 hv6' e1 e2 e3 e4 e5 e6 hy hstep
    have : t9 = false := by
      rw [ht9, ht6, ht4, ht5, ht8, ht7]
      rcases dv with h0 | h0
      · have hn : ¬ warmF h ca < low := fun hc => hp0 (by rw [← hd2.1 hc]; exact h0)
        simp [h0, hn]
      · have hn : ¬ low < warmF h ca := fun hc => hp0 (by rw [← h0]; exact hd2.2 hc)
        simp [h0, hn]
    rw [this] at h9
    cases h9
  · rw [hv7]; exact l_succ (by omega)
  · obtain rfl : k = 0 := by omega
    rw [e1]; exact ⟨rfl, rfl⟩
  · obtain rfl : k = 0 := by omega
    rw [e6]; exact ⟨rfl, rfl, rfl, rfl, rfl⟩
theorem heatersTop {H : Type} {enc : TypeId × Value → H} (W : World) (base : Nat) : OpTop enc Try.prog W base Try.f6.params.toList aHeat HeatIn :=
  .cons (.elt (ct := [2] ++ [2]) opNode (by kernel_rfl)) (.inl ⟨by kernel_rfl, by kernel_rfl, fun _ _ => rfl⟩)
    (.cons (.elt (ct := [2]) (.int (by kernel_rfl) (by kernel_rfl)) (by kernel_rfl)) (.inr ⟨notStruct (by kernel_rfl), notArray (by kernel_rfl), rfl, fun _ _ => rfl⟩)
    (.cons (.elt (ct := [2]) (.int (by kernel_rfl) (by kernel_rfl)) (by kernel_rfl)) (.inr ⟨notStruct (by kernel_rfl), notArray (by kernel_rfl), rfl, fun _ _ => rfl⟩) .nil))
end Heat
