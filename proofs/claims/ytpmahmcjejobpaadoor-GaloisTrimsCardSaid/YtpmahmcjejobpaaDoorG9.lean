/-
  OWN WORK. Galois: the law on polynomials: the walk.
-/
import Derived.Test.YtpmahmcjejobpaaDoorG8
namespace Galois
open Go Go.Proofs Eng
set_option linter.unusedVariables false
set_option linter.unusedSimpArgs false
set_option maxHeartbeats 4000000
set_option maxRecDepth 100000

abbrev aPol : ArgL (List UInt8 × List UInt8 × Int × Unit) := .cons (.elt .str) (.cons (.elt .str) (.cons (.elt (.int .u8)) .nil))
abbrev PolIn (x : List UInt8 × List UInt8 × Int × Unit) : Prop := x.1.length ≤ 140737488351232 ∧ x.2.1.length ≤ 140737488351232 ∧ inKind .u8 x.2.2.1 ∧ True
theorem pol_walk : ∀ (x : List UInt8 × List UInt8 × Int × Unit) (hR : PolIn x) (hw : ∀ v ∈ aPol.svs 0 x, v.wf), exCode EL Tryd.f4.ntmps [] (match Tryd.f4.body with | some c => c | none => .skip) (argFr 0 (aPol.svs 0 x)) (aPol.hp 0 x) aPol.tags (atEnd EL Tryd.f4.results.toList fun r _ _ => eqv r (.bool true)) := by
  refine fun ⟨p, q, x, ()⟩ hR hw => ?_
  refine vc_of (q :=
      ∀ (v1 : Int), v1 = (↑(List.length p) : Int) → ∀ (v2 : Int), v2 = (↑(List.length q) : Int) → ∀ (t1 : Bool), (t1 = if Decidable.decide (v1 > (1100 : Int)) = Bool.true then Bool.true else Decidable.decide (v2 > (1100 : Int))) → (t1 = Bool.true → ∀ (x'1 : Unit), x'1 = () → ∀ (y1 : Unit), True → ∀ (t2 : Bool), t2 = Bool.true → t2 = Bool.true) ∧ (t1 = Bool.false → ∀ (x'2 : List UInt8 × List UInt8 ×
      Unit), x'2 = (p, q, ()) → List.length (Prod.fst x'2) ≤ (3000 : Nat) ∧ List.length (Prod.fst (Prod.snd x'2)) ≤ (3000 : Nat) ∧ ∀ (y1 : Unit), True → ∀ (s1 : List UInt8), s1 = Galois.prodL (Prod.fst x'2) (Prod.fst (Prod.snd x'2)) → ∀ (v3 : Int), (v3 = if Galois.prodB (Prod.fst x'2) (Prod.fst (Prod.snd x'2)) = Bool.true then (3 : Int) else (0 : Int)) → ∀ (x'3 : List UInt8 × List UInt8 × Unit), x'3 =
      (p, q, ()) → List.length (Prod.fst x'3) ≤ (3000 : Nat) ∧ List.length (Prod.fst (Prod.snd x'3)) ≤ (3000 : Nat) ∧ ∀ (y2 : Unit), True → ∀ (s2 : List UInt8), s2 = Galois.prodL (Prod.fst x'3) (Prod.fst (Prod.snd x'3)) → ∀ (v4 : Int), (v4 = if Galois.prodB (Prod.fst x'3) (Prod.fst (Prod.snd x'3)) = Bool.true then (3 : Int) else (0 : Int)) → ∀ (x'4 : List UInt8 × List UInt8 × Unit), x'4 = (p, q, ()) →
      List.length (Prod.fst x'4) ≤ (3000 : Nat) ∧ List.length (Prod.fst (Prod.snd x'4)) ≤ (3000 : Nat) ∧ ∀ (y3 : Unit), True → ∀ (s3 : List UInt8), s3 = Galois.quoL (Prod.fst x'4) (Prod.fst (Prod.snd x'4)) → ∀ (s4 : List UInt8), s4 = Galois.resL (Prod.fst x'4) (Prod.fst (Prod.snd x'4)) → ∀ (v5 : Int), (v5 = if Galois.tlen (Prod.fst (Prod.snd x'4)) = (0 : Nat) then (2 : Int) else (0 : Int)) → ∀ (x'5 :
      List UInt8 × List UInt8 × Unit), x'5 = (p, q, ()) → List.length (Prod.fst x'5) ≤ (3000 : Nat) ∧ List.length (Prod.fst (Prod.snd x'5)) ≤ (3000 : Nat) ∧ ∀ (y4 : Unit), True → ∀ (s5 : List UInt8), s5 = Galois.quoL (Prod.fst x'5) (Prod.fst (Prod.snd x'5)) → ∀ (s6 : List UInt8), s6 = Galois.resL (Prod.fst x'5) (Prod.fst (Prod.snd x'5)) → ∀ (v6 : Int), (v6 = if Galois.tlen (Prod.fst (Prod.snd x'5)) = (0
      : Nat) then (2 : Int) else (0 : Int)) → ∀ (t2 : Bool), (t2 = if (!s1 == s2) = Bool.true then Bool.true else v3 != v4) → ∀ (t3 : Bool), (t3 = if t2 = Bool.true then Bool.true else !s3 == s5) → ∀ (t4 : Bool), (t4 = if t3 = Bool.true then Bool.true else !s4 == s6) → ∀ (t5 : Bool), (t5 = if t4 = Bool.true then Bool.true else v5 != v6) → (t5 = Bool.true → Bool.false = Bool.true) ∧ (t5 = Bool.false → ∀
      (v7 : Int), v7 = (↑(Galois.tlen p) : Int) - (1 : Int) → ∀ (v8 : Int), v8 = (↑(Galois.tlen p) : Int) - (1 : Int) → ((v7 == v8) = Bool.true → List.length p ≤ (3000 : Nat)) ∧ ((v7 == v8) = Bool.true → List.length q ≤ (3000 : Nat)) ∧ ∀ (s7 : List UInt8), s7 = Galois.sumL p q → ((v7 == v8) = Bool.true → List.length p ≤ (3000 : Nat)) ∧ ((v7 == v8) = Bool.true → List.length q ≤ (3000 : Nat)) ∧ ∀ (s8 :
      List UInt8), s8 = Galois.sumL p q → ∀ (t6 : Bool), (t6 = if (v7 == v8) = Bool.true then s7 == s8 else Bool.false) → (t6 = Bool.true → List.length p ≤ (5000 : Nat)) ∧ ∀ (s9 : List UInt8), s9 = Galois.derL p → (t6 = Bool.true → List.length p ≤ (5000 : Nat)) ∧ ∀ (s10 : List UInt8), s10 = Galois.derL p → ∀ (t7 : Bool), (t7 = if t6 = Bool.true then s9 == s10 else Bool.false) → (t7 = Bool.true → (0 :
      Int) ≤ x ∧ x ≤ (255 : Int)) ∧ ∀ (v9 : Int), v9 = (↑(Galois.evalF p (Int.toNat x)) : Int) → (t7 = Bool.true → (0 : Int) ≤ x ∧ x ≤ (255 : Int)) ∧ ∀ (v10 : Int), v10 = (↑(Galois.evalF p (Int.toNat x)) : Int) → ∀ (t8 : Bool), (t8 = if t7 = Bool.true then v9 == v10 else Bool.false) → (t8 = Bool.true → ∀ (x'6 : Unit), x'6 = () → ∀ (y5 : Unit), True → ∀ (t9 : Bool), t9 = Bool.true → ∀ (t10 : Bool), (t10 =
      if t8 = Bool.true then t9 else Bool.false) → t10 = Bool.true) ∧ ((t8 = Bool.true → False) → ∀ (t9 : Bool), (t9 = if t8 = Bool.true then Bool.false else Bool.false) → t9 = Bool.true)))) (by kernel_rfl) ?_
  try simp only [eq_self, true_and, and_true, Nat.le_refl, implies_true, forall_const, Bool.false_eq_true, Bool.true_eq_false, reduceCtorEq, false_imp_iff, true_imp_iff, Int.toNat_zero, Int.toNat_natCast, Nat.zero_lt_one, Int.le_refl, allGet]
  obtain ⟨_, _, rx, _⟩ := hR
  replace rx := u8_in rx
  dsimp only at rx
  intro v1 h1 v2 h2 t1 ht1
  refine ⟨fun _ t2 h => h, fun ht x2 hx2 => ?_⟩
  have hlen : p.length ≤ 1100 ∧ q.length ≤ 1100 := by
    rw [ht] at ht1
    subst h1 h2
    by_cases h : (p.length : Int) > 1100
    · rw [if_pos (decide_eq_true h)] at ht1; cases ht1
    · rw [if_neg (by simpa using h)] at ht1
      have := of_decide_eq_false ht1.symm
      omega
  obtain ⟨hp, hq⟩ := hlen
  have l1 : p.length ≤ 3000 := by omega
  have l2 : q.length ≤ 3000 := by omega
  have l3 : p.length ≤ 5000 := by omega
  subst hx2
  refine ⟨l1, l2, fun s1 h3 v3 h4 x3 hx3 => ?_⟩
  subst hx3
  refine ⟨l1, l2, fun s2 h5 v4 h6 x4 hx4 => ?_⟩
  subst hx4
  refine ⟨l1, l2, fun s3 h7 s4 h8 v5 h9 x5 hx5 => ?_⟩
  subst hx5
  refine ⟨l1, l2, fun s5 h10 s6 h11 v6 h12 t2 h13 t3 h14 t4 h15 t5 h16 => ?_⟩
  have e1 : s2 = s1 := h5.trans h3.symm
  have e2 : v4 = v3 := h6.trans h4.symm
  have e3 : s5 = s3 := h10.trans h7.symm
  have e4 : s6 = s4 := h11.trans h8.symm
  have e5 : v6 = v5 := h12.trans h9.symm
  have e6 : t5 = false := by rw [h16, h15, h14, h13, e1, e2, e3, e4, e5]; simp
  refine ⟨fun h => (by rw [e6] at h; cases h), fun _ v7 h17 v8 h18 => ⟨fun _ => l1, fun _ => l2, fun s7 h19 => ⟨fun _ => l1, fun _ => l2, fun s8 h20 t6 h21 => ⟨fun _ => l3, fun s9 h22 => ⟨fun _ => l3, fun s10 h23 t7 h24 => ⟨fun _ => rx, fun v9 h25 => ⟨fun _ => rx, fun v10 h26 t8 h27 => ?_⟩⟩⟩⟩⟩⟩⟩
  have e7 : v8 = v7 := h18.trans h17.symm
  have e8 : s8 = s7 := h20.trans h19.symm
  have e9 : s10 = s9 := h23.trans h22.symm
  have e10 : v10 = v9 := h26.trans h25.symm
  have e11 : t8 = true := by rw [h27, h24, h21, e7, e8, e9, e10]; simp
  subst e11
  simp
theorem polTop {H : Type} {enc : TypeId × Value → H} (W : World) (base : Nat) : OpTop enc Tryd.prog W base Tryd.f4.params.toList aPol (fun x => x.1.length ≤ 140737488351232 ∧ x.2.1.length ≤ 140737488351232 ∧ inKind .u8 x.2.2.1 ∧ True) :=
  .cons (.elt (ct := [9]) (.str (by kernel_rfl) (by kernel_rfl)) (by kernel_rfl)) (.inr ⟨notStruct (by kernel_rfl), notArray (by kernel_rfl), rfl, fun _ _ => rfl⟩)
    (.cons (.elt (ct := [9]) (.str (by kernel_rfl) (by kernel_rfl)) (by kernel_rfl)) (.inr ⟨notStruct (by kernel_rfl), notArray (by kernel_rfl), rfl, fun _ _ => rfl⟩)
    (.cons (.elt (ct := [5]) (.int (by kernel_rfl) (by kernel_rfl)) (by kernel_rfl)) (.inr ⟨notStruct (by kernel_rfl), notArray (by kernel_rfl), rfl, fun _ _ => rfl⟩) .nil))
end Galois
