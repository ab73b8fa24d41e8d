/-
  OWN WORK. Heat: the law HeatPairs: the walk.
-/
import Derived.Test.YtmcpacfpnljijaaHB
import Derived.Test.YtmcpacfpnljijaaHM
namespace Heat
open Go Go.Proofs Eng
set_option linter.unusedVariables false
set_option linter.unusedSimpArgs false
set_option maxHeartbeats 4000000
set_option maxRecDepth 100000

abbrev aPairs : ArgL (Node × Node × Int × Unit) := .cons (.elt eNode) (.cons (.elt eNode) (.cons (.elt (.int .i64)) .nil))
abbrev PairsIn (x : Node × Node × Int × Unit) : Prop := NodeIn x.1 ∧ NodeIn x.2.1 ∧ inKind .i64 x.2.2.1 ∧ True
theorem pairs_walk : ∀ (x : Node × Node × Int × Unit) (hR : PairsIn x) (hw : ∀ v ∈ aPairs.svs 0 x, v.wf), exCode EZ Try.f5.ntmps [] (match Try.f5.body with | some c => c | none => .skip) (argFr 0 (aPairs.svs 0 x)) (aPairs.hp 0 x) aPairs.tags (atEnd EZ Try.f5.results.toList fun r _ _ => eqv r (.bool true)) := by
  refine fun ⟨⟨ha, ca, ()⟩, ⟨hb, cb, ()⟩, conduct, ()⟩ hR hw => ?_
  refine vc_of (q :=
      ∀ (b1 b2 : Nat) (x'1 : Unit), x'1 = () → ∀ (y1 : Unit), True → ∀ (t1 : Bool), t1 = Bool.true → ((!t1) = Bool.true → Bool.false = Bool.true) ∧ ((!t1) = Bool.false → (b1 = b1 ∧ (0 : Nat) = (0 : Nat)) ∧ (b2 = b2 ∧ (0 : Nat) = (0 : Nat)) ∧ ∀ (b3 b4 b5 b6 : Nat), (b6 = b6 ∧ (0 : Nat) = (0 : Nat)) ∧ (b6 = b6 ∧ (0 : Nat) = (0 : Nat)) ∧ ∀ (b7 : Nat), (2 : Nat) ≤ (2 : Nat) ∧ (∀ (k1 : Nat), k1 < (2 : Nat) →
      Bool.true = Bool.true) ∧ (b3 = b3 ∧ (0 : Nat) = (0 : Nat)) ∧ (1 : Nat) ≤ (1 : Nat) ∧ (∀ (k2 : Nat), k2 < (1 : Nat) → Bool.true = Bool.true) ∧ (b5 = b5 ∧ (0 : Nat) = (0 : Nat)) ∧ Bool.true = Bool.true ∧ (2 : Nat) ≤ (2 : Nat) ∧ (∀ (k3 : Nat), k3 < (2 : Nat) → Bool.true = Bool.true) ∧ (b4 = b4 ∧ (0 : Nat) = (0 : Nat)) ∧ (2 : Nat) ≤ (2 : Nat) ∧ (∀ (k4 : Nat), k4 < (2 : Nat) → Bool.true = Bool.true) ∧
      (b7 = b7 ∧ (0 : Nat) = (0 : Nat)) ∧ ∀ (x'2 : (Eng.RowD (Int × Int × Unit) × Eng.RowD (Int × Int × Int × Unit) × Eng.RowD (Int × Int × Int × Int × Bool × Unit) × Eng.RowD Int × Unit) × Eng.RowD Int × Bool × Unit), x'2 = ((Eng.RowD.mk b3 (0 : Nat) (2 : Nat) (2 : Nat) Bool.false fun (k : Nat) ↦ (if k = (0 : Nat) then ha else hb, if k = (0 : Nat) then ca else cb, ()), Eng.RowD.mk b5 (0 : Nat) (1 : Nat)
      (1 : Nat) Bool.false fun (k : Nat) ↦ ((0 : Int), (1 : Int), conduct, ()), Eng.RowD.mk (0 : Nat) (0 : Nat) (0 : Nat) (0 : Nat) Bool.true fun (x : Nat) ↦ ((0 : Int), (0 : Int), (0 : Int), (0 : Int), Bool.false, ()), Eng.RowD.mk b4 (0 : Nat) (2 : Nat) (2 : Nat) Bool.false fun (k : Nat) ↦ if k = (0 : Nat) then (0 : Int) else (0 : Int), ()), Eng.RowD.mk b7 (0 : Nat) (2 : Nat) (2 : Nat) Bool.false fun (k
      : Nat) ↦ if k = (0 : Nat) then (0 : Int) else (0 : Int), Bool.true, ()) → ∀ (y2 : (Nat × Nat × Nat) × (Nat × Nat × Nat) × (Nat × Nat × Nat) × Nat × Nat × Nat), (Heat.okN (Heat.stepB (Prod.fst x'2) (Prod.fst (Prod.snd x'2))) (Eng.RowD.n (Prod.fst (Prod.fst x'2))) ≤ Prod.snd (Prod.snd (Prod.fst y2)) ∧ Heat.okN (Heat.stepB (Prod.fst x'2) (Prod.fst (Prod.snd x'2))) (Eng.RowD.n (Prod.fst (Prod.snd
      (Prod.fst x'2)))) ≤ Prod.snd (Prod.snd (Prod.fst (Prod.snd y2))) ∧ Heat.okN (Heat.stepB (Prod.fst x'2) (Prod.fst (Prod.snd x'2))) (Eng.RowD.n (Prod.fst (Prod.snd (Prod.snd (Prod.fst x'2))))) ≤ Prod.snd (Prod.snd (Prod.fst (Prod.snd (Prod.snd y2))))) ∧ Heat.okN (Heat.stepB (Prod.fst x'2) (Prod.fst (Prod.snd x'2))) (Eng.RowD.n (Prod.fst (Prod.snd (Prod.snd (Prod.snd (Prod.fst x'2)))))) ≤ Prod.snd
      (Prod.snd (Prod.snd (Prod.snd (Prod.snd y2)))) → ∀ (v1 : Int), (v1 = if Heat.stepB (Prod.fst x'2) (Prod.fst (Prod.snd x'2)) = Bool.true then (0 : Int) else (2 : Int)) → ∀ (b8 b9 : Nat), (b8 = b8 ∧ (0 : Nat) = (0 : Nat)) ∧ (b9 = b9 ∧ (0 : Nat) = (0 : Nat)) ∧ ((v1 != (0 : Int)) = Bool.true → (b6 = b6 ∧ (0 : Nat) = (0 : Nat)) ∧ (2 : Nat) ≤ (2 : Nat) ∧ (∀ (k5 : Nat), k5 < (2 : Nat) → Bool.true =
      Bool.true) ∧ (b3 = b3 ∧ (0 : Nat) = (0 : Nat)) ∧ (1 : Nat) ≤ (1 : Nat) ∧ (∀ (k6 : Nat), k6 < (1 : Nat) → Bool.true = Bool.true) ∧ (b5 = b5 ∧ (0 : Nat) = (0 : Nat)) ∧ Bool.true = Bool.true ∧ (2 : Nat) ≤ (2 : Nat) ∧ (∀ (k7 : Nat), k7 < (2 : Nat) → Bool.true = Bool.true) ∧ (b4 = b4 ∧ (0 : Nat) = (0 : Nat)) ∧ ∀ (v2 : Int), v2 = Heat.checkI (Eng.RowD.mk b3 (0 : Nat) (2 : Nat) (2 : Nat) Bool.false fun (k
      : Nat) ↦ (if k = (0 : Nat) then ha else hb, if k = (0 : Nat) then ca else cb, ()), Eng.RowD.mk b5 (0 : Nat) (1 : Nat) (1 : Nat) Bool.false fun (k : Nat) ↦ ((0 : Int), (1 : Int), conduct, ()), Eng.RowD.mk (0 : Nat) (0 : Nat) (0 : Nat) (0 : Nat) Bool.true fun (x : Nat) ↦ ((0 : Int), (0 : Int), (0 : Int), (0 : Int), Bool.false, ()), Eng.RowD.mk b4 (0 : Nat) (2 : Nat) (2 : Nat) Bool.false fun (k : Nat)
      ↦ if k = (0 : Nat) then (0 : Int) else (0 : Int), ()) → (v2 != (0 : Int)) = Bool.true) ∧ ((v1 != (0 : Int)) = Bool.false → (b1 = b1 ∧ (0 : Nat) = (0 : Nat)) ∧ ∀ (v3 : Int), v3 = Heat.tempF ha ca → (Decidable.decide (v3 ≥ (1048575 : Int)) = Bool.false → b2 = b2 ∧ (0 : Nat) = (0 : Nat)) ∧ ∀ (v4 : Int), v4 = Heat.tempF hb cb → ∀ (t2 : Bool), (t2 = if Decidable.decide (v3 ≥ (1048575 : Int)) = Bool.true
      then Bool.true else Decidable.decide (v4 ≥ (1048575 : Int))) → (t2 = Bool.true → Bool.true = Bool.true) ∧ (t2 = Bool.false → (b8 = b8 ∧ (0 : Nat) = (0 : Nat)) ∧ ∀ (v5 : Int), v5 = (↑(Heat.okN (Heat.stepB (Prod.fst x'2) (Prod.fst (Prod.snd x'2))) (Eng.RowD.n (Prod.fst (Prod.fst x'2)))) : Int) → ((v5 != (2 : Int)) = Bool.false → b9 = b9 ∧ (0 : Nat) = (0 : Nat)) ∧ ∀ (t3 : Bool), (t3 = if (v5 != (2 :
      Int)) = Bool.true then Bool.true else !(Heat.okI (Heat.stepB (Prod.fst x'2) (Prod.fst (Prod.snd x'2))) (Prod.snd (Heat.st2 (Prod.fst x'2) (Prod.fst (Prod.snd x'2)) (Prod.fst (Prod.snd (Prod.snd x'2))))) == (0 : Int) && (Heat.okI (Heat.stepB (Prod.fst x'2) (Prod.fst (Prod.snd x'2))) (Prod.snd (Prod.snd (Heat.st1 (Prod.fst x'2) (Prod.fst (Prod.snd (Prod.snd x'2)))))) == (0 : Int) && (Heat.okI
      (Heat.stepB (Prod.fst x'2) (Prod.fst (Prod.snd x'2))) (Prod.snd (Heat.st5 (Prod.fst x'2) (Prod.fst (Prod.snd x'2)) (Prod.fst (Prod.snd (Prod.snd x'2))))) == (0 : Int) && Bool.true)))) → (t3 = Bool.false → b8 = b8 ∧ (0 : Nat) = (0 : Nat)) ∧ (t3 = Bool.false → (0 : Int) ≤ (0 : Int)) ∧ (t3 = Bool.false → (0 : Int) < (↑(Heat.okN (Heat.stepB (Prod.fst x'2) (Prod.fst (Prod.snd x'2))) (Eng.RowD.n
      (Prod.fst (Prod.fst x'2)))) : Int)) ∧ (t3 = Bool.false → Prod.fst (Prod.fst y2) = Prod.fst (Prod.fst y2) ∧ Prod.fst (Prod.snd (Prod.fst y2)) = Prod.fst (Prod.snd (Prod.fst y2))) ∧ (t3 = Bool.false → Int.toNat (0 : Int) < Heat.okN (Heat.stepB (Prod.fst x'2) (Prod.fst (Prod.snd x'2))) (Eng.RowD.n (Prod.fst (Prod.fst x'2)))) ∧ (t3 = Bool.false → b8 = b8 ∧ (0 : Nat) = (0 : Nat)) ∧ (t3 = Bool.false → (0
      : Int) ≤ (1 : Int)) ∧ (t3 = Bool.false → (1 : Int) < (↑(Heat.okN (Heat.stepB (Prod.fst x'2) (Prod.fst (Prod.snd x'2))) (Eng.RowD.n (Prod.fst (Prod.fst x'2)))) : Int)) ∧ (t3 = Bool.false → Prod.fst (Prod.fst y2) = Prod.fst (Prod.fst y2) ∧ Prod.fst (Prod.snd (Prod.fst y2)) = Prod.fst (Prod.snd (Prod.fst y2))) ∧ (t3 = Bool.false → Int.toNat (1 : Int) < Heat.okN (Heat.stepB (Prod.fst x'2) (Prod.fst
      (Prod.snd x'2))) (Eng.RowD.n (Prod.fst (Prod.fst x'2)))) ∧ ∀ (v6 : Int), v6 = Go.IntKind.wrap Go.IntKind.i64 (Prod.fst (Prod.fst (Heat.st5 (Prod.fst x'2) (Prod.fst (Prod.snd x'2)) (Prod.fst (Prod.snd (Prod.snd x'2)))) (Int.toNat (0 : Int))) + Prod.fst (Prod.fst (Heat.st5 (Prod.fst x'2) (Prod.fst (Prod.snd x'2)) (Prod.fst (Prod.snd (Prod.snd x'2)))) (Int.toNat (1 : Int)))) → (t3 = Bool.false → b1 =
      b1 ∧ (0 : Nat) = (0 : Nat)) ∧ (t3 = Bool.false → b2 = b2 ∧ (0 : Nat) = (0 : Nat)) ∧ ∀ (v7 : Int), v7 = Go.IntKind.wrap Go.IntKind.i64 (ha + hb) → ∀ (t4 : Bool), (t4 = if t3 = Bool.true then Bool.true else v6 != v7) → (t4 = Bool.true → Bool.false = Bool.true) ∧ (t4 = Bool.false → (b1 = b1 ∧ (0 : Nat) = (0 : Nat)) ∧ ∀ (v8 : Int), v8 = Heat.tempF ha ca → (b2 = b2 ∧ (0 : Nat) = (0 : Nat)) ∧ ∀ (v9 :
      Int), v9 = Heat.tempF hb cb → ∀ (v10 : Int), v10 = Go.IntKind.wrap Go.IntKind.i64 (v8 - v9) → (b8 = b8 ∧ (0 : Nat) = (0 : Nat)) ∧ (0 : Int) ≤ (0 : Int) ∧ (0 : Int) < (↑(Heat.okN (Heat.stepB (Prod.fst x'2) (Prod.fst (Prod.snd x'2))) (Eng.RowD.n (Prod.fst (Prod.fst x'2)))) : Int) ∧ (Prod.fst (Prod.fst y2) = Prod.fst (Prod.fst y2) ∧ Prod.fst (Prod.snd (Prod.fst y2)) = Prod.fst (Prod.snd (Prod.fst
      y2))) ∧ Int.toNat (0 : Int) < Heat.okN (Heat.stepB (Prod.fst x'2) (Prod.fst (Prod.snd x'2))) (Eng.RowD.n (Prod.fst (Prod.fst x'2))) ∧ ∀ (v11 : Int), v11 = Heat.tempF (Prod.fst (Prod.fst (Heat.st5 (Prod.fst x'2) (Prod.fst (Prod.snd x'2)) (Prod.fst (Prod.snd (Prod.snd x'2)))) (Int.toNat (0 : Int)))) (Prod.fst (Prod.snd (Prod.fst (Heat.st5 (Prod.fst x'2) (Prod.fst (Prod.snd x'2)) (Prod.fst (Prod.snd
      (Prod.snd x'2)))) (Int.toNat (0 : Int))))) → (b8 = b8 ∧ (0 : Nat) = (0 : Nat)) ∧ (0 : Int) ≤ (1 : Int) ∧ (1 : Int) < (↑(Heat.okN (Heat.stepB (Prod.fst x'2) (Prod.fst (Prod.snd x'2))) (Eng.RowD.n (Prod.fst (Prod.fst x'2)))) : Int) ∧ (Prod.fst (Prod.fst y2) = Prod.fst (Prod.fst y2) ∧ Prod.fst (Prod.snd (Prod.fst y2)) = Prod.fst (Prod.snd (Prod.fst y2))) ∧ Int.toNat (1 : Int) < Heat.okN (Heat.stepB
      (Prod.fst x'2) (Prod.fst (Prod.snd x'2))) (Eng.RowD.n (Prod.fst (Prod.fst x'2))) ∧ ∀ (v12 : Int), v12 = Heat.tempF (Prod.fst (Prod.fst (Heat.st5 (Prod.fst x'2) (Prod.fst (Prod.snd x'2)) (Prod.fst (Prod.snd (Prod.snd x'2)))) (Int.toNat (1 : Int)))) (Prod.fst (Prod.snd (Prod.fst (Heat.st5 (Prod.fst x'2) (Prod.fst (Prod.snd x'2)) (Prod.fst (Prod.snd (Prod.snd x'2)))) (Int.toNat (1 : Int))))) → ∀ (v13
      : Int), v13 = Go.IntKind.wrap Go.IntKind.i64 (v11 - v12) → (Decidable.decide (v10 ≥ (0 : Int)) = Bool.true → ∀ (t5 : Bool), (t5 = if Decidable.decide (v13 ≥ (-1 : Int)) = Bool.true then Decidable.decide (v13 ≤ v10) else Bool.false) → (t5 = Bool.true → b8 = b8 ∧ (0 : Nat) = (0 : Nat)) ∧ (t5 = Bool.true → (0 : Int) ≤ (0 : Int)) ∧ (t5 = Bool.true → (0 : Int) < (↑(Heat.okN (Heat.stepB (Prod.fst x'2)
      (Prod.fst (Prod.snd x'2))) (Eng.RowD.n (Prod.fst (Prod.fst x'2)))) : Int)) ∧ (t5 = Bool.true → Prod.fst (Prod.fst y2) = Prod.fst (Prod.fst y2) ∧ Prod.fst (Prod.snd (Prod.fst y2)) = Prod.fst (Prod.snd (Prod.fst y2))) ∧ (t5 = Bool.true → Int.toNat (0 : Int) < Heat.okN (Heat.stepB (Prod.fst x'2) (Prod.fst (Prod.snd x'2))) (Eng.RowD.n (Prod.fst (Prod.fst x'2)))) ∧ (t5 = Bool.true → b1 = b1 ∧ (0 : Nat)
      = (0 : Nat)) ∧ ∀ (t6 : Bool), (t6 = if t5 = Bool.true then Decidable.decide (Prod.fst (Prod.fst (Heat.st5 (Prod.fst x'2) (Prod.fst (Prod.snd x'2)) (Prod.fst (Prod.snd (Prod.snd x'2)))) (Int.toNat (0 : Int))) ≤ ha) else Bool.false) → t6 = Bool.true) ∧ (Decidable.decide (v10 ≥ (0 : Int)) = Bool.false → ∀ (t6 : Bool), (t6 = if Decidable.decide (v13 ≤ (1 : Int)) = Bool.true then Decidable.decide (v13 ≥
      v10) else Bool.false) → (t6 = Bool.true → b8 = b8 ∧ (0 : Nat) = (0 : Nat)) ∧ (t6 = Bool.true → (0 : Int) ≤ (0 : Int)) ∧ (t6 = Bool.true → (0 : Int) < (↑(Heat.okN (Heat.stepB (Prod.fst x'2) (Prod.fst (Prod.snd x'2))) (Eng.RowD.n (Prod.fst (Prod.fst x'2)))) : Int)) ∧ (t6 = Bool.true → Prod.fst (Prod.fst y2) = Prod.fst (Prod.fst y2) ∧ Prod.fst (Prod.snd (Prod.fst y2)) = Prod.fst (Prod.snd (Prod.fst
      y2))) ∧ (t6 = Bool.true → Int.toNat (0 : Int) < Heat.okN (Heat.stepB (Prod.fst x'2) (Prod.fst (Prod.snd x'2))) (Eng.RowD.n (Prod.fst (Prod.fst x'2)))) ∧ (t6 = Bool.true → b1 = b1 ∧ (0 : Nat) = (0 : Nat)) ∧ ∀ (t7 : Bool), (t7 = if t6 = Bool.true then Decidable.decide (Prod.fst (Prod.fst (Heat.st5 (Prod.fst x'2) (Prod.fst (Prod.snd x'2)) (Prod.fst (Prod.snd (Prod.snd x'2)))) (Int.toNat (0 : Int))) ≥
      ha) else Bool.false) → t7 = Bool.true)))))) (by kernel_rfl) ?_
  simp [allGet]
  intro b3 b4 b5 b7 y1 y2 y3 y4
  have hci : checkI (pT b3 b4 b5 ha ca hb cb conduct) = 0 ↔ checkB (pT b3 b4 b5 ha ca hb cb conduct) = true := by unfold checkI; split <;> simp_all
  have hsb : stepB (pT b3 b4 b5 ha ca hb cb conduct) (pQ b7) = checkB (pT b3 b4 b5 ha ca hb cb conduct) := by
    unfold stepB
    rw [show allB (fun k => withinF ((pQ b7).f k)) (pQ b7).n = true by kernel_rfl, show decide ((pQ b7).n = (pT b3 b4 b5 ha ca hb cb conduct).1.n) = true by kernel_rfl]
    simp
  rw [hsb, hci]
  cases hB : checkB (pT b3 b4 b5 ha ca hb cb conduct) with
  | false => simp [okN, okI]
  | true =>
    obtain ⟨_, n1, _, n3, _⟩ := (checkB_iff _).1 hB
    have va : nodeB ha ca = true := allB_true.1 n1 0 (by show 0 < 2; decide)
    have vb : nodeB hb cb = true := allB_true.1 n1 1 (by show 1 < 2; decide)
    have hp := allB_true.1 n3 0 (by show 0 < 1; decide)
    simp only [pathF, withinF, Bool.and_eq_true, decide_eq_true_eq] at hp
    obtain ⟨_, hk, hk'⟩ := hp
    have t1 : tempF ha ca = warmF ha ca := by unfold tempF; rw [if_pos va]
    have t2 : tempF hb cb = warmF hb cb := by unfold tempF; rw [if_pos vb]
    have o1 : ∀ n, okN true n = n := fun _ => rfl
    have o2 : ∀ n, okI true n = n := fun _ => rfl
    simp only [t1, t2, o1, o2]
    refine fun h1 h2 h3 h4 => ⟨fun h => absurd h (by simp), fun _ ta tb => ?_⟩
    obtain ⟨e1, e2, e3, ha', hb', e4, e5, va', vb', e6, e7, e8⟩ := pair_step (b1 := b3) (b2 := b4) (b3 := b5) (b5 := b7) (conduct := conduct) va vb hk hk' ta tb
    have t3 : tempF ha' ca = warmF ha' ca := by unfold tempF; rw [if_pos va']
    have t4 : tempF hb' cb = warmF hb' cb := by unfold tempF; rw [if_pos vb']
    obtain ⟨a1, a2, a3, a4⟩ := node_facts va
    obtain ⟨c1, c2, c3, c4⟩ := node_facts vb
    obtain ⟨p1, p2, p3, p4⟩ := node_facts va'
    obtain ⟨q1, q2, q3, q4⟩ := node_facts vb'
    obtain ⟨w1, w2, w3, w4⟩ := warm_facts a3 (by omega) a1
    obtain ⟨x1, x2, x3, x4⟩ := warm_facts c3 (by omega) c1
    obtain ⟨u1, u2, u3, u4⟩ := warm_facts p3 (by omega) a1
    obtain ⟨v1, v2, v3, v4⟩ := warm_facts q3 (by omega) c1
    have r1 : IntKind.i64.wrap (ha' + hb') = ha' + hb' := w64_id (by omega) (by omega)
    have r2 : IntKind.i64.wrap (ha + hb) = ha + hb := w64_id (by omega) (by omega)
    have r3 : IntKind.i64.wrap (warmF ha ca - warmF hb cb) = warmF ha ca - warmF hb cb := w64_id (by omega) (by omega)
    have r4 : IntKind.i64.wrap (warmF ha' ca - warmF hb' cb) = warmF ha' ca - warmF hb' cb := w64_id (by omega) (by omega)
    simp [e1, e2, e3, e4, e5, t1, t2, t3, t4, r1, r2, r3, r4, e6]
    exact ⟨fun h => by have := e7 (by omega); omega, fun h => by have := e8 h; omega⟩
theorem pairsTop {H : Type} {enc : TypeId × Value → H} (W : World) (base : Nat) : OpTop enc Try.prog W base Try.f5.params.toList aPairs PairsIn :=
  .cons (.elt (ct := [2] ++ [2]) opNode (by kernel_rfl)) (.inl ⟨by kernel_rfl, by kernel_rfl, fun _ _ => rfl⟩)
    (.cons (.elt (ct := [2] ++ [2]) opNode (by kernel_rfl)) (.inl ⟨by kernel_rfl, by kernel_rfl, fun _ _ => rfl⟩)
    (.cons (.elt (ct := [2]) (.int (by kernel_rfl) (by kernel_rfl)) (by kernel_rfl)) (.inr ⟨notStruct (by kernel_rfl), notArray (by kernel_rfl), rfl, fun _ _ => rfl⟩) .nil))
end Heat
