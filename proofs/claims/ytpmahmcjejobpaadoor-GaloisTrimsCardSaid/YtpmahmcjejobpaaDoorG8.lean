/-
  OWN WORK. Galois: the laws on elements: the walks.
-/
import Derived.Test.YtpmahmcjejobpaaDoorG7
namespace Galois
open Go Go.Proofs Eng
set_option linter.unusedVariables false
set_option linter.unusedSimpArgs false
set_option maxHeartbeats 4000000
set_option maxRecDepth 100000

theorem u8_in {x : Int} (h : inKind .u8 x) : 0 ≤ x ∧ x ≤ 255 := by
  have h' : (decide _ && decide _) = true := h
  simpa [IntKind.min, IntKind.max, IntKind.bits, IntKind.signed] using h'
theorem i64_in {x : Int} (h : inKind .i64 x) : -9223372036854775808 ≤ x ∧ x ≤ 9223372036854775807 := by
  have h' : (decide _ && decide _) = true := h
  simpa [IntKind.min, IntKind.max, IntKind.bits, IntKind.signed] using h'
theorem gpow_two : ∀ k, gpow 2 k = gexp k
  | 0 => rfl
  | k + 1 => by
    show gmul (gpow 2 k) 2 = gmul (gexp k) 2
    rw [gpow_two k]
theorem gpow_mod {a : Nat} (h0 : a ≠ 0) (h : a < 256) (k : Nat) : gpow a (k % 255) = gpow a k := by
  rw [gpow_log h0 h, gpow_log h0 h, Nat.mul_mod, Nat.mod_mod, ← Nat.mul_mod]
theorem gpow_add {a : Nat} (h0 : a ≠ 0) (h : a < 256) (i j : Nat) : gmul (gpow a i) (gpow a j) = gpow a (i + j) := by
  have e : a = gexp (glog a) := (gexp_glog h0 h).symm
  rw [e, gpow_gexp, gpow_gexp, gpow_gexp, ← gexp_add, Nat.mul_add]
def EB1 : Env := (((EZ.addE 18 product).addE 19 product).addE 20 quotient).addE 21 quotient
theorem EB1_ok : EnvOk Tryd.prog EB1 := (((EZ_ok.addE product_ok).addE productR_ok).addE quotient_ok).addE quotientR_ok
def awake := ecC .nil (fun _ => []) (fun _ (_ : Unit) => True) (fun _ _ => .bool true) (fun _ _ => []) 0
theorem awake_ok : EcOk Tryd.prog 17 awake := by
  refine ecC_run (fun _ => EB1_ok) Tryd.func17 rfl (by kernel_rfl) [] (fun x => []) (fun _ => Nat.le_of_ble_eq_true rfl) (fun () hp hw => ?_)
  refine vc_of (q :=
      ∀ (x'1 : Int × Int × Unit), x'1 = ((1 : Int), (2 : Int), ()) → ((0 : Int) ≤ Prod.fst x'1 ∧ Prod.fst x'1 ≤ (255 : Int)) ∧ ((0 : Int) ≤ Prod.fst (Prod.snd x'1) ∧ Prod.fst (Prod.snd x'1) ≤ (255 : Int)) ∧ ∀ (y1 : Unit), True → ∀ (v1 : Int), v1 = Galois.divI (Prod.fst x'1) (Prod.fst (Prod.snd x'1)) → ∀ (v2 : Int), v2 = Galois.errB (Prod.fst (Prod.snd x'1) == (0 : Int)) → ∀ (x'2 : Int × Int × Unit), x'2
      = ((2 : Int), (-1 : Int), ()) → ((0 : Int) ≤ Prod.fst x'2 ∧ Prod.fst x'2 ≤ (255 : Int)) ∧ ((-9223372036854775808 : Int) ≤ Prod.fst (Prod.snd x'2) ∧ Prod.fst (Prod.snd x'2) ≤ (9223372036854775807 : Int)) ∧ ∀ (y2 : Unit), True → ∀ (v3 : Int), v3 = Galois.powI (Prod.fst x'2) (Prod.fst (Prod.snd x'2)) → ∀ (v4 : Int), v4 = Galois.errB (Prod.fst x'2 == (0 : Int) && Decidable.decide (Prod.fst (Prod.snd
      x'2) < (0 : Int))) → ∀ (x'3 : Int × Unit), x'3 = ((29 : Int), ()) → ((0 : Int) ≤ Prod.fst x'3 ∧ Prod.fst x'3 ≤ (255 : Int)) ∧ ∀ (y3 : Unit), True → ∀ (v5 : Int), v5 = Galois.logI (Prod.fst x'3) → ∀ (t1 : Bool), t1 = (Prod.fst x'3 != (0 : Int)) → ∀ (x'4 : List UInt8 × List UInt8 × Unit), x'4 = ([(1 : UInt8), (1 : UInt8)], [(2 : UInt8), (1 : UInt8)], ()) → List.length (Prod.fst x'4) ≤ (3000 : Nat) ∧
      List.length (Prod.fst (Prod.snd x'4)) ≤ (3000 : Nat) ∧ ∀ (y4 : Unit), True → ∀ (s1 : List UInt8), s1 = Galois.prodL (Prod.fst x'4) (Prod.fst (Prod.snd x'4)) → ∀ (v6 : Int), (v6 = if Galois.prodB (Prod.fst x'4) (Prod.fst (Prod.snd x'4)) = Bool.true then (3 : Int) else (0 : Int)) → ∀ (x'5 : List UInt8 × List UInt8 × Unit), x'5 = ([(2 : UInt8), (3 : UInt8), (1 : UInt8)], [(1 : UInt8), (1 : UInt8)],
      ()) → List.length (Prod.fst x'5) ≤ (3000 : Nat) ∧ List.length (Prod.fst (Prod.snd x'5)) ≤ (3000 : Nat) ∧ ∀ (y5 : Unit), True → ∀ (s2 : List UInt8), s2 = Galois.quoL (Prod.fst x'5) (Prod.fst (Prod.snd x'5)) → ∀ (s3 : List UInt8), s3 = Galois.resL (Prod.fst x'5) (Prod.fst (Prod.snd x'5)) → ∀ (v7 : Int), (v7 = if Galois.tlen (Prod.fst (Prod.snd x'5)) = (0 : Nat) then (2 : Int) else (0 : Int)) → ((0 :
      Int) ≤ (2 : Int) ∧ (2 : Int) ≤ (255 : Int)) ∧ ((0 : Int) ≤ (128 : Int) ∧ (128 : Int) ≤ (255 : Int)) ∧ ∀ (v8 : Int), v8 = Galois.mulI (2 : Int) (128 : Int) → ∀ (t2 : Bool), (t2 = if (v8 == (29 : Int)) = Bool.true then v1 == (142 : Int) else Bool.false) → ∀ (t3 : Bool), (t3 = if t2 = Bool.true then v2 == (0 : Int) else Bool.false) → ∀ (t4 : Bool), (t4 = if t3 = Bool.true then v3 == (142 : Int) else
      Bool.false) → ∀ (t5 : Bool), (t5 = if t4 = Bool.true then v4 == (0 : Int) else Bool.false) → ∀ (t6 : Bool), (t6 = if t5 = Bool.true then v5 == (8 : Int) else Bool.false) → ∀ (t7 : Bool), (t7 = if t6 = Bool.true then t1 else Bool.false) → ∀ (t8 : Bool), (t8 = if t7 = Bool.true then s1 == [(2 : UInt8), (3 : UInt8), (1 : UInt8)] else Bool.false) → ∀ (t9 : Bool), (t9 = if t8 = Bool.true then v6 == (0 :
      Int) else Bool.false) → ∀ (t10 : Bool), (t10 = if t9 = Bool.true then s2 == [(2 : UInt8), (1 : UInt8)] else Bool.false) → ∀ (t11 : Bool), (t11 = if t10 = Bool.true then s3 == [] else Bool.false) → ∀ (t12 : Bool), (t12 = if t11 = Bool.true then v7 == (0 : Int) else Bool.false) → (t12 = Bool.true → List.length [(1 : UInt8)] ≤ (3000 : Nat)) ∧ (t12 = Bool.true → List.length [(1 : UInt8)] ≤ (3000 :
      Nat)) ∧ ∀ (s4 : List UInt8), s4 = Galois.sumL [(1 : UInt8)] [(1 : UInt8)] → ∀ (t13 : Bool), (t13 = if t12 = Bool.true then s4 == [] else Bool.false) → ∀ (v9 : Int), v9 = (↑(Galois.tlen [(0 : UInt8), (1 : UInt8), (0 : UInt8)]) : Int) - (1 : Int) → ∀ (t14 : Bool), (t14 = if t13 = Bool.true then v9 == (1 : Int) else Bool.false) → (t14 = Bool.true → (0 : Int) ≤ (1 : Int) ∧ (1 : Int) ≤ (255 : Int)) ∧ ∀
      (v10 : Int), v10 = (↑(Galois.evalF [(2 : UInt8), (3 : UInt8), (1 : UInt8)] (Int.toNat (1 : Int))) : Int) → ∀ (t15 : Bool), (t15 = if t14 = Bool.true then v10 == (0 : Int) else Bool.false) → (t15 = Bool.true → List.length [(5 : UInt8), (6 : UInt8), (7 : UInt8), (8 : UInt8)] ≤ (5000 : Nat)) ∧ ∀ (s5 : List UInt8), s5 = Galois.derL [(5 : UInt8), (6 : UInt8), (7 : UInt8), (8 : UInt8)] → ∀ (t16 : Bool),
      (t16 = if t15 = Bool.true then s5 == [(6 : UInt8), (0 : UInt8), (8 : UInt8)] else Bool.false) → ∃ (x1 : Unit), t16 = Bool.true ∧ True) (by kernel_rfl) ?_
  try simp only [eq_self, true_and, and_true, Nat.le_refl, implies_true, forall_const, Bool.false_eq_true, Bool.true_eq_false, reduceCtorEq, false_imp_iff, true_imp_iff, Int.toNat_zero, Int.toNat_natCast, Nat.zero_lt_one, Int.le_refl, allGet]
  intro x1 h1
  subst h1
  refine ⟨by decide, by decide, fun v1 h1 v2 h2 x2 h3 => ?_⟩
  subst h3
  refine ⟨by decide, by decide, fun v3 h3 v4 h4 x3 h5 => ?_⟩
  subst h5
  refine ⟨by decide, fun v5 h5 t1 h6 x4 h7 => ?_⟩
  subst h7
  refine ⟨by decide, by decide, fun s1 h7 v6 h8 x5 h9 => ?_⟩
  subst h9
  refine ⟨by decide, by decide, fun s2 h9 s3 h10 v7 h11 => ⟨by decide, by decide, fun v8 h12 => ?_⟩⟩
  have e1 : v1 = 142 := by rw [h1]; kernel_rfl
  have e2 : v2 = 0 := by rw [h2]; kernel_rfl
  have e3 : v3 = 142 := by rw [h3]; kernel_rfl
  have e4 : v4 = 0 := by rw [h4]; kernel_rfl
  have e5 : v5 = 8 := by rw [h5]; kernel_rfl
  have e6 : t1 = true := by rw [h6]; kernel_rfl
  have e7 : s1 = [2, 3, 1] := by rw [h7]; kernel_rfl
  have e8 : v6 = 0 := by rw [h8]; kernel_rfl
  have e9 : s2 = [2, 1] := by rw [h9]; kernel_rfl
  have e10 : s3 = [] := by rw [h10]; kernel_rfl
  have e11 : v7 = 0 := by rw [h11]; kernel_rfl
  have e12 : v8 = 29 := by rw [h12]; kernel_rfl
  clear h1 h2 h3 h4 h5 h6 h7 h8 h9 h10 h11 h12
  subst e1 e2 e3 e4 e5 e6 e7 e8 e9 e10 e11 e12
  intro t2 h2 t3 h3 t4 h4 t5 h5 t6 h6 t7 h7 t8 h8 t9 h9 t10 h10 t11 h11 t12 h12
  have e12 : t12 = true := by rw [h12, h11, h10, h9, h8, h7, h6, h5, h4, h3, h2]; rfl
  subst e12
  refine ⟨fun _ => by decide, fun _ => by decide, fun s4 h13 t13 h14 v9 h15 t14 h16 => ⟨fun _ => ⟨by decide, by decide⟩, fun v10 h17 t15 h18 => ⟨fun _ => by decide, fun s5 h19 t16 h20 => ⟨(), ?_⟩⟩⟩⟩
  have e4 : s4 = [] := by rw [h13]; kernel_rfl
  have e9 : v9 = 1 := by rw [h15]; kernel_rfl
  have e10 : v10 = 0 := by rw [h17]; kernel_rfl
  have e5 : s5 = [6, 0, 8] := by rw [h19]; kernel_rfl
  rw [h20, h18, h16, h14, e4, e9, e10, e5]
  rfl
def EL : Env := (EB1.addE 17 awake).addQ 4 eqBool
theorem EL_ok : EnvOk Tryd.prog EL := (EB1_ok.addE awake_ok).addQ (eqBool_ok (by kernel_rfl))
abbrev aEls : ArgL (Int × Int × Int × Unit) := .cons (.elt (.int .u8)) (.cons (.elt (.int .u8)) (.cons (.elt (.int .i64)) .nil))
abbrev ElsIn (x : Int × Int × Int × Unit) : Prop := inKind .u8 x.1 ∧ inKind .u8 x.2.1 ∧ inKind .i64 x.2.2.1 ∧ True
theorem els_walk : ∀ (x : Int × Int × Int × Unit) (hR : ElsIn x) (hw : ∀ v ∈ aEls.svs 0 x, v.wf), exCode EL Tryd.f3.ntmps [] (match Tryd.f3.body with | some c => c | none => .skip) (argFr 0 (aEls.svs 0 x)) (aEls.hp 0 x) aEls.tags (atEnd EL Tryd.f3.results.toList fun r _ _ => eqv r (.bool true)) := by
  refine fun ⟨a, b, n, ()⟩ hR hw => ?_
  refine vc_of (q :=
      ∀ (x'1 : Int × Int × Unit), x'1 = (a, b, ()) → ((0 : Int) ≤ Prod.fst x'1 ∧ Prod.fst x'1 ≤ (255 : Int)) ∧ ((0 : Int) ≤ Prod.fst (Prod.snd x'1) ∧ Prod.fst (Prod.snd x'1) ≤ (255 : Int)) ∧ ∀ (y1 : Unit), True → ∀ (v1 : Int), v1 = Galois.divI (Prod.fst x'1) (Prod.fst (Prod.snd x'1)) → ∀ (v2 : Int), v2 = Galois.errB (Prod.fst (Prod.snd x'1) == (0 : Int)) → ∀ (x'2 : Int × Int × Unit), x'2 = (a, b, ()) →
      ((0 : Int) ≤ Prod.fst x'2 ∧ Prod.fst x'2 ≤ (255 : Int)) ∧ ((0 : Int) ≤ Prod.fst (Prod.snd x'2) ∧ Prod.fst (Prod.snd x'2) ≤ (255 : Int)) ∧ ∀ (y2 : Unit), True → ∀ (v3 : Int), v3 = Galois.divI (Prod.fst x'2) (Prod.fst (Prod.snd x'2)) → ∀ (v4 : Int), v4 = Galois.errB (Prod.fst (Prod.snd x'2) == (0 : Int)) → ∀ (x'3 : Int × Int × Unit), x'3 = (a, n, ()) → ((0 : Int) ≤ Prod.fst x'3 ∧ Prod.fst x'3 ≤ (255
      : Int)) ∧ ((-9223372036854775808 : Int) ≤ Prod.fst (Prod.snd x'3) ∧ Prod.fst (Prod.snd x'3) ≤ (9223372036854775807 : Int)) ∧ ∀ (y3 : Unit), True → ∀ (v5 : Int), v5 = Galois.powI (Prod.fst x'3) (Prod.fst (Prod.snd x'3)) → ∀ (v6 : Int), v6 = Galois.errB (Prod.fst x'3 == (0 : Int) && Decidable.decide (Prod.fst (Prod.snd x'3) < (0 : Int))) → ∀ (x'4 : Int × Int × Unit), x'4 = (a, n, ()) → ((0 : Int) ≤
      Prod.fst x'4 ∧ Prod.fst x'4 ≤ (255 : Int)) ∧ ((-9223372036854775808 : Int) ≤ Prod.fst (Prod.snd x'4) ∧ Prod.fst (Prod.snd x'4) ≤ (9223372036854775807 : Int)) ∧ ∀ (y4 : Unit), True → ∀ (v7 : Int), v7 = Galois.powI (Prod.fst x'4) (Prod.fst (Prod.snd x'4)) → ∀ (v8 : Int), v8 = Galois.errB (Prod.fst x'4 == (0 : Int) && Decidable.decide (Prod.fst (Prod.snd x'4) < (0 : Int))) → ∀ (x'5 : Int × Unit), x'5
      = (a, ()) → ((0 : Int) ≤ Prod.fst x'5 ∧ Prod.fst x'5 ≤ (255 : Int)) ∧ ∀ (y5 : Unit), True → ∀ (v9 : Int), v9 = Galois.logI (Prod.fst x'5) → ∀ (t1 : Bool), t1 = (Prod.fst x'5 != (0 : Int)) → ∀ (x'6 : Int × Unit), x'6 = (a, ()) → ((0 : Int) ≤ Prod.fst x'6 ∧ Prod.fst x'6 ≤ (255 : Int)) ∧ ∀ (y6 : Unit), True → ∀ (v10 : Int), v10 = Galois.logI (Prod.fst x'6) → ∀ (t2 : Bool), t2 = (Prod.fst x'6 != (0 :
      Int)) → ((0 : Int) ≤ a ∧ a ≤ (255 : Int)) ∧ ((0 : Int) ≤ b ∧ b ≤ (255 : Int)) ∧ ∀ (v11 : Int), v11 = Galois.mulI a b → ((0 : Int) ≤ a ∧ a ≤ (255 : Int)) ∧ ((0 : Int) ≤ b ∧ b ≤ (255 : Int)) ∧ ∀ (v12 : Int), v12 = Galois.mulI a b → ∀ (t3 : Bool), (t3 = if (v11 == v12) = Bool.true then v1 == v3 else Bool.false) → ∀ (t4 : Bool), (t4 = if t3 = Bool.true then v2 == v4 else Bool.false) → ∀ (t5 : Bool),
      (t5 = if t4 = Bool.true then v5 == v7 else Bool.false) → ∀ (t6 : Bool), (t6 = if t5 = Bool.true then v6 == v8 else Bool.false) → ∀ (t7 : Bool), (t7 = if t6 = Bool.true then v9 == v10 else Bool.false) → ∀ (t8 : Bool), (t8 = if t7 = Bool.true then t1 == t2 else Bool.false) → (t8 = Bool.true → ∀ (x'7 : Unit), x'7 = () → ∀ (y7 : Unit), True → ∀ (t9 : Bool), t9 = Bool.true → ∀ (t10 : Bool), (t10 = if t8
      = Bool.true then t9 else Bool.false) → t10 = Bool.true) ∧ ((t8 = Bool.true → False) → ∀ (t9 : Bool), (t9 = if t8 = Bool.true then Bool.false else Bool.false) → t9 = Bool.true)) (by kernel_rfl) ?_
  try simp only [eq_self, true_and, and_true, Nat.le_refl, implies_true, forall_const, Bool.false_eq_true, Bool.true_eq_false, reduceCtorEq, false_imp_iff, true_imp_iff, Int.toNat_zero, Int.toNat_natCast, Nat.zero_lt_one, Int.le_refl, allGet]
  obtain ⟨ra, rb, rn, _⟩ := hR
  replace ra := u8_in ra
  replace rb := u8_in rb
  replace rn := i64_in rn
  dsimp only at ra rb rn
  intro x1 h1
  subst h1
  refine ⟨ra, rb, fun v1 h1 v2 h2 x2 h3 => ?_⟩
  subst h3
  refine ⟨ra, rb, fun v3 h3 v4 h4 x3 h5 => ?_⟩
  subst h5
  refine ⟨ra, rn, fun v5 h5 v6 h6 x4 h7 => ?_⟩
  subst h7
  refine ⟨ra, rn, fun v7 h7 v8 h8 x5 h9 => ?_⟩
  subst h9
  refine ⟨ra, fun v9 h9 t1 h10 x6 h11 => ?_⟩
  subst h11
  refine ⟨ra, fun v10 h11 t2 h12 => ⟨ra, rb, fun v11 h13 => ⟨ra, rb, fun v12 h14 => ?_⟩⟩⟩
  have e1 : v3 = v1 := h3.trans h1.symm
  have e2 : v4 = v2 := h4.trans h2.symm
  have e3 : v7 = v5 := h7.trans h5.symm
  have e4 : v8 = v6 := h8.trans h6.symm
  have e5 : v10 = v9 := h11.trans h9.symm
  have e6 : t2 = t1 := h12.trans h10.symm
  have e7 : v12 = v11 := h14.trans h13.symm
  clear h1 h2 h3 h4 h5 h6 h7 h8 h9 h10 h11 h12 h13 h14
  subst e1 e2 e3 e4 e5 e6 e7
  simp
abbrev aFld : ArgL (Int × Int × Int × Unit) := .cons (.elt (.int .u8)) (.cons (.elt (.int .u8)) (.cons (.elt (.int .u8)) .nil))
abbrev FldIn (x : Int × Int × Int × Unit) : Prop := inKind .u8 x.1 ∧ inKind .u8 x.2.1 ∧ inKind .u8 x.2.2.1 ∧ True
theorem fld_walk : ∀ (x : Int × Int × Int × Unit) (hR : FldIn x) (hw : ∀ v ∈ aFld.svs 0 x, v.wf), exCode EL Tryd.f5.ntmps [] (match Tryd.f5.body with | some c => c | none => .skip) (argFr 0 (aFld.svs 0 x)) (aFld.hp 0 x) aFld.tags (atEnd EL Tryd.f5.results.toList fun r _ _ => eqv r (.bool true)) := by
  refine fun ⟨a, b, c, ()⟩ hR hw => ?_
  refine vc_of (q :=
      ((0 : Int) ≤ a ∧ a ≤ (255 : Int)) ∧ ((0 : Int) ≤ b ∧ b ≤ (255 : Int)) ∧ ∀ (v1 : Int), v1 = Galois.mulI a b → ((0 : Int) ≤ b ∧ b ≤ (255 : Int)) ∧ ((0 : Int) ≤ a ∧ a ≤ (255 : Int)) ∧ ∀ (v2 : Int), v2 = Galois.mulI b a → ((v1 != v2) = Bool.false → (0 : Int) ≤ b ∧ b ≤ (255 : Int)) ∧ ((v1 != v2) = Bool.false → (0 : Int) ≤ c ∧ c ≤ (255 : Int)) ∧ ∀ (v3 : Int), v3 = Galois.mulI b c → ((v1 != v2) =
      Bool.false → (0 : Int) ≤ a ∧ a ≤ (255 : Int)) ∧ ((v1 != v2) = Bool.false → (0 : Int) ≤ v3 ∧ v3 ≤ (255 : Int)) ∧ ∀ (v4 : Int), v4 = Galois.mulI a v3 → ((v1 != v2) = Bool.false → (0 : Int) ≤ a ∧ a ≤ (255 : Int)) ∧ ((v1 != v2) = Bool.false → (0 : Int) ≤ b ∧ b ≤ (255 : Int)) ∧ ∀ (v5 : Int), v5 = Galois.mulI a b → ((v1 != v2) = Bool.false → (0 : Int) ≤ v5 ∧ v5 ≤ (255 : Int)) ∧ ((v1 != v2) = Bool.false →
      (0 : Int) ≤ c ∧ c ≤ (255 : Int)) ∧ ∀ (v6 : Int), v6 = Galois.mulI v5 c → ∀ (t1 : Bool), (t1 = if (v1 != v2) = Bool.true then Bool.true else v4 != v6) → ∀ (v7 : Int), v7 = Go.IntKind.wrap Go.IntKind.u8 (↑(BitVec.toNat (BitVec.ofInt (Go.IntKind.bits Go.IntKind.u8) b ^^^ BitVec.ofInt (Go.IntKind.bits Go.IntKind.u8) c)) : Int) → (t1 = Bool.false → (0 : Int) ≤ a ∧ a ≤ (255 : Int)) ∧ (t1 = Bool.false →
      (0 : Int) ≤ v7 ∧ v7 ≤ (255 : Int)) ∧ ∀ (v8 : Int), v8 = Galois.mulI a v7 → (t1 = Bool.false → (0 : Int) ≤ a ∧ a ≤ (255 : Int)) ∧ (t1 = Bool.false → (0 : Int) ≤ b ∧ b ≤ (255 : Int)) ∧ ∀ (v9 : Int), v9 = Galois.mulI a b → (t1 = Bool.false → (0 : Int) ≤ a ∧ a ≤ (255 : Int)) ∧ (t1 = Bool.false → (0 : Int) ≤ c ∧ c ≤ (255 : Int)) ∧ ∀ (v10 : Int), v10 = Galois.mulI a c → ∀ (v11 : Int), v11 =
      Go.IntKind.wrap Go.IntKind.u8 (↑(BitVec.toNat (BitVec.ofInt (Go.IntKind.bits Go.IntKind.u8) v9 ^^^ BitVec.ofInt (Go.IntKind.bits Go.IntKind.u8) v10)) : Int) → ∀ (t2 : Bool), (t2 = if t1 = Bool.true then Bool.true else v8 != v11) → (t2 = Bool.false → (0 : Int) ≤ a ∧ a ≤ (255 : Int)) ∧ (t2 = Bool.false → (0 : Int) ≤ (1 : Int) ∧ (1 : Int) ≤ (255 : Int)) ∧ ∀ (v12 : Int), v12 = Galois.mulI a (1 : Int) →
      ∀ (t3 : Bool), (t3 = if t2 = Bool.true then Bool.true else v12 != a) → (t3 = Bool.false → (0 : Int) ≤ a ∧ a ≤ (255 : Int)) ∧ (t3 = Bool.false → (0 : Int) ≤ (0 : Int) ∧ (0 : Int) ≤ (255 : Int)) ∧ ∀ (v13 : Int), v13 = Galois.mulI a (0 : Int) → ∀ (t4 : Bool), (t4 = if t3 = Bool.true then Bool.true else v13 != (0 : Int)) → (t4 = Bool.true → Bool.false = Bool.true) ∧ (t4 = Bool.false → ∀ (x'1 : Int ×
      Int × Unit), x'1 = (a, b, ()) → ((0 : Int) ≤ Prod.fst x'1 ∧ Prod.fst x'1 ≤ (255 : Int)) ∧ ((0 : Int) ≤ Prod.fst (Prod.snd x'1) ∧ Prod.fst (Prod.snd x'1) ≤ (255 : Int)) ∧ ∀ (y1 : Unit), True → ∀ (v14 : Int), v14 = Galois.divI (Prod.fst x'1) (Prod.fst (Prod.snd x'1)) → ∀ (v15 : Int), v15 = Galois.errB (Prod.fst (Prod.snd x'1) == (0 : Int)) → ((b == (0 : Int)) = Bool.true → ∀ (t5 : Bool), (t5 = if
      (v15 == (2 : Int)) = Bool.true then v14 == (0 : Int) else Bool.false) → (t5 = Bool.true → ∀ (x'2 : Unit), x'2 = () → ∀ (y2 : Unit), True → ∀ (t6 : Bool), t6 = Bool.true → ∀ (t7 : Bool), (t7 = if t5 = Bool.true then t6 else Bool.false) → t7 = Bool.true) ∧ ((t5 = Bool.true → False) → ∀ (t6 : Bool), (t6 = if t5 = Bool.true then Bool.false else Bool.false) → t6 = Bool.true)) ∧ ((b == (0 : Int)) =
      Bool.false → ((v15 != (0 : Int)) = Bool.false → (0 : Int) ≤ v14 ∧ v14 ≤ (255 : Int)) ∧ ((v15 != (0 : Int)) = Bool.false → (0 : Int) ≤ b ∧ b ≤ (255 : Int)) ∧ ∀ (v16 : Int), v16 = Galois.mulI v14 b → ∀ (t6 : Bool), (t6 = if (v15 != (0 : Int)) = Bool.true then Bool.true else v16 != a) → (t6 = Bool.true → Bool.false = Bool.true) ∧ (t6 = Bool.false → ∀ (x'2 : Int × Unit), x'2 = (b, ()) → ((0 : Int) ≤
      Prod.fst x'2 ∧ Prod.fst x'2 ≤ (255 : Int)) ∧ ∀ (y2 : Unit), True → ∀ (v17 : Int), v17 = Galois.logI (Prod.fst x'2) → ∀ (t7 : Bool), t7 = (Prod.fst x'2 != (0 : Int)) → ∀ (x'3 : Int × Int × Unit), x'3 = ((2 : Int), v17, ()) → ((0 : Int) ≤ Prod.fst x'3 ∧ Prod.fst x'3 ≤ (255 : Int)) ∧ ((-9223372036854775808 : Int) ≤ Prod.fst (Prod.snd x'3) ∧ Prod.fst (Prod.snd x'3) ≤ (9223372036854775807 : Int)) ∧ ∀
      (y3 : Unit), True → ∀ (v18 : Int), v18 = Galois.powI (Prod.fst x'3) (Prod.fst (Prod.snd x'3)) → ∀ (v19 : Int), v19 = Galois.errB (Prod.fst x'3 == (0 : Int) && Decidable.decide (Prod.fst (Prod.snd x'3) < (0 : Int))) → ∀ (t8 : Bool), (t8 = if t7 = Bool.true then Decidable.decide (v17 ≥ (0 : Int)) else Bool.false) → ∀ (t9 : Bool), (t9 = if t8 = Bool.true then Decidable.decide (v17 < (255 : Int)) else
      Bool.false) → ∀ (t10 : Bool), (t10 = if t9 = Bool.true then v19 == (0 : Int) else Bool.false) → ∀ (t11 : Bool), (t11 = if t10 = Bool.true then v18 == b else Bool.false) → (t11 = Bool.true → ∀ (x'4 : Unit), x'4 = () → ∀ (y4 : Unit), True → ∀ (t12 : Bool), t12 = Bool.true → ∀ (t13 : Bool), (t13 = if t11 = Bool.true then t12 else Bool.false) → t13 = Bool.true) ∧ ((t11 = Bool.true → False) → ∀ (t12 :
      Bool), (t12 = if t11 = Bool.true then Bool.false else Bool.false) → t12 = Bool.true))))) (by kernel_rfl) ?_
  try simp only [eq_self, true_and, and_true, Nat.le_refl, implies_true, forall_const, Bool.false_eq_true, Bool.true_eq_false, reduceCtorEq, false_imp_iff, true_imp_iff, Int.toNat_zero, Int.toNat_natCast, Nat.zero_lt_one, Int.le_refl, allGet]
  obtain ⟨ra, rb, rc, _⟩ := hR
  replace ra := u8_in ra
  replace rb := u8_in rb
  replace rc := u8_in rc
  dsimp only at ra rb rc
  obtain ⟨a', rfl⟩ : ∃ n : Nat, a = n := ⟨a.toNat, by omega⟩
  obtain ⟨b', rfl⟩ : ∃ n : Nat, b = n := ⟨b.toNat, by omega⟩
  obtain ⟨c', rfl⟩ : ∃ n : Nat, c = n := ⟨c.toNat, by omega⟩
  have la : a' < 256 := by omega
  have lb : b' < 256 := by omega
  have lc : c' < 256 := by omega
  have mi : ∀ x y : Nat, mulI (x : Int) (y : Int) = (gmul x y : Nat) := fun _ _ => rfl
  have isb : ∀ x : Nat, x < 256 → isB (x : Int) := fun x h => ⟨by omega, by omega⟩
  refine ⟨ra, rb, fun v1 h1 => ⟨rb, ra, fun v2 h2 => ?_⟩⟩
  rw [mi] at h1 h2
  have e2 : v2 = v1 := by rw [h2, h1, gmul_comm lb la]
  subst e2
  refine ⟨fun _ => rb, fun _ => rc, fun v3 h3 => ?_⟩
  rw [mi] at h3
  subst h3
  refine ⟨fun _ => ra, fun _ => isb _ (gmul_lt lb), fun v4 h4 => ⟨fun _ => ra, fun _ => rb, fun v5 h5 => ?_⟩⟩
  rw [mi] at h5
  subst h5
  refine ⟨fun _ => isb _ (gmul_lt la), fun _ => rc, fun v6 h6 t1 ht1 v7 h7 => ?_⟩
  rw [mi] at h4 h6
  have e6 : v6 = v4 := by rw [h6, h4, gmul_assoc c' la lb]
  subst e6
  have h7 := h7.trans (xor8 lb lc)
  subst h7
  refine ⟨fun _ => ra, fun _ => isb _ (xor_lt lb lc), fun v8 h8 => ⟨fun _ => ra, fun _ => rb, fun v9 h9 => ⟨fun _ => ra, fun _ => rc, fun v10 h10 v11 h11 t2 ht2 => ⟨fun _ => ra, fun _ => ⟨by decide, by decide⟩, fun v12 h12 t3 ht3 => ⟨fun _ => ra, fun _ => by decide, fun v13 h13 t4 ht4 => ?_⟩⟩⟩⟩⟩
  rw [mi] at h8 h9 h10
  subst h9 h10
  have h11 := h11.trans (xor8 (gmul_lt la) (gmul_lt la))
  have e8 : v11 = v8 := by rw [h11, h8, gmul_linr]
  subst e8
  have e12 : v12 = (a' : Int) := by rw [h12]; show ((gmul a' 1 : Nat) : Int) = _; rw [gmul_one la]
  have e13 : v13 = 0 := by rw [h13]; show ((gmul a' 0 : Nat) : Int) = _; rw [gmul_zero]; rfl
  have e4 : t4 = false := by rw [ht4, ht3, ht2, ht1, e12, e13]; simp
  refine ⟨fun h => (by rw [e4] at h; cases h), fun _ x1 hx1 => ?_⟩
  subst hx1
  refine ⟨ra, rb, fun v14 h14 v15 h15 => ⟨fun hb t5 ht5 => ?_, fun hb => ?_⟩⟩
  · have hb0 : (b' : Int) = 0 := by simpa using hb
    have e14 : v14 = 0 := by rw [h14]; unfold divI; rw [if_pos hb0]
    have e15 : v15 = 2 := by rw [h15, hb]; rfl
    rw [e14, e15] at ht5
    have ht5 : t5 = true := by rw [ht5]; rfl
    subst ht5
    simp
  · have hb0 : (b' : Int) ≠ 0 := by simpa using hb
    have hbn : b' ≠ 0 := by omega
    have e14 : v14 = (gdiv a' b' : Nat) := by rw [h14]; unfold divI; rw [if_neg hb0]; rfl
    have e15 : v15 = 0 := by rw [h15, hb]; rfl
    subst e14 e15
    have ld := gdiv_lt a' b'
    refine ⟨fun _ => isb _ ld, fun _ => rb, fun v16 h16 t6 ht6 => ?_⟩
    rw [mi, gdiv_mul la lb hbn] at h16
    have e6 : t6 = false := by rw [ht6, h16]; simp
    refine ⟨fun h => (by rw [e6] at h; cases h), fun _ x2 hx2 => ?_⟩
    subst hx2
    refine ⟨rb, fun v17 h17 t7 ht7 x3 hx3 => ?_⟩
    have l17 := glog_lt hbn lb
    have e17 : v17 = (glog b' : Nat) := by rw [h17]; unfold logI; rw [Int.toNat_natCast, log255 hbn lb]
    subst e17 hx3
    refine ⟨⟨by show (0 : Int) ≤ 2; decide, by show (2 : Int) ≤ 255; decide⟩, ⟨by show _ ≤ ((glog b' : Nat) : Int); omega, by show ((glog b' : Nat) : Int) ≤ _; omega⟩, fun v18 h18 v19 h19 t8 ht8 t9 ht9 t10 ht10 t11 ht11 => ?_⟩
    have e18 : v18 = (b' : Int) := by
      rw [h18]
      unfold powI
      rw [if_neg (by show ¬ (2 : Int) = 0; decide)]
      show ((gpow 2 (expI ((glog b' : Nat) : Int)) : Nat) : Int) = b'
      have : expI ((glog b' : Nat) : Int) = glog b' := by unfold expI; omega
      rw [this, gpow_two, gexp_glog hbn lb]
    have e19 : v19 = 0 := by rw [h19]; rfl
    have e7 : t7 = true := by rw [ht7]; simpa using hb0
    have e11 : t11 = true := by
      rw [ht11, ht10, ht9, ht8, e7, e18, e19]
      simp
      omega
    subst e11
    simp
abbrev aPows : ArgL (Int × Int × Int × Unit) := .cons (.elt (.int .u8)) (.cons (.elt (.int .i64)) (.cons (.elt (.int .i64)) .nil))
abbrev PowsIn (x : Int × Int × Int × Unit) : Prop := inKind .u8 x.1 ∧ inKind .i64 x.2.1 ∧ inKind .i64 x.2.2.1 ∧ True
theorem pows_walk : ∀ (x : Int × Int × Int × Unit) (hR : PowsIn x) (hw : ∀ v ∈ aPows.svs 0 x, v.wf), exCode EL Tryd.f6.ntmps [] (match Tryd.f6.body with | some c => c | none => .skip) (argFr 0 (aPows.svs 0 x)) (aPows.hp 0 x) aPows.tags (atEnd EL Tryd.f6.results.toList fun r _ _ => eqv r (.bool true)) := by
  refine fun ⟨a, n, m, ()⟩ hR hw => ?_
  refine vc_of (q :=
      (1099511627776 : Int) ≠ (0 : Int) ∧ ∀ (v1 : Int), v1 = Int.tmod n (1099511627776 : Int) → (1099511627776 : Int) ≠ (0 : Int) ∧ ∀ (v2 : Int), v2 = Int.tmod m (1099511627776 : Int) → ∀ (x'1 : Int × Int × Unit), x'1 = (a, v1, ()) → ((0 : Int) ≤ Prod.fst x'1 ∧ Prod.fst x'1 ≤ (255 : Int)) ∧ ((-9223372036854775808 : Int) ≤ Prod.fst (Prod.snd x'1) ∧ Prod.fst (Prod.snd x'1) ≤ (9223372036854775807 : Int)) ∧
      ∀ (y1 : Unit), True → ∀ (v3 : Int), v3 = Galois.powI (Prod.fst x'1) (Prod.fst (Prod.snd x'1)) → ∀ (v4 : Int), v4 = Galois.errB (Prod.fst x'1 == (0 : Int) && Decidable.decide (Prod.fst (Prod.snd x'1) < (0 : Int))) → ∀ (x'2 : Int × Int × Unit), x'2 = (a, v2, ()) → ((0 : Int) ≤ Prod.fst x'2 ∧ Prod.fst x'2 ≤ (255 : Int)) ∧ ((-9223372036854775808 : Int) ≤ Prod.fst (Prod.snd x'2) ∧ Prod.fst (Prod.snd
      x'2) ≤ (9223372036854775807 : Int)) ∧ ∀ (y2 : Unit), True → ∀ (v5 : Int), v5 = Galois.powI (Prod.fst x'2) (Prod.fst (Prod.snd x'2)) → ∀ (v6 : Int), v6 = Galois.errB (Prod.fst x'2 == (0 : Int) && Decidable.decide (Prod.fst (Prod.snd x'2) < (0 : Int))) → ∀ (v7 : Int), v7 = Go.IntKind.wrap Go.IntKind.i64 (v1 + v2) → ∀ (x'3 : Int × Int × Unit), x'3 = (a, v7, ()) → ((0 : Int) ≤ Prod.fst x'3 ∧ Prod.fst
      x'3 ≤ (255 : Int)) ∧ ((-9223372036854775808 : Int) ≤ Prod.fst (Prod.snd x'3) ∧ Prod.fst (Prod.snd x'3) ≤ (9223372036854775807 : Int)) ∧ ∀ (y3 : Unit), True → ∀ (v8 : Int), v8 = Galois.powI (Prod.fst x'3) (Prod.fst (Prod.snd x'3)) → ∀ (v9 : Int), v9 = Galois.errB (Prod.fst x'3 == (0 : Int) && Decidable.decide (Prod.fst (Prod.snd x'3) < (0 : Int))) → ∀ (v10 : Int), v10 = Go.IntKind.wrap
      Go.IntKind.i64 (v1 + (255 : Int)) → ∀ (x'4 : Int × Int × Unit), x'4 = (a, v10, ()) → ((0 : Int) ≤ Prod.fst x'4 ∧ Prod.fst x'4 ≤ (255 : Int)) ∧ ((-9223372036854775808 : Int) ≤ Prod.fst (Prod.snd x'4) ∧ Prod.fst (Prod.snd x'4) ≤ (9223372036854775807 : Int)) ∧ ∀ (y4 : Unit), True → ∀ (v11 : Int), v11 = Galois.powI (Prod.fst x'4) (Prod.fst (Prod.snd x'4)) → ∀ (v12 : Int), v12 = Galois.errB (Prod.fst
      x'4 == (0 : Int) && Decidable.decide (Prod.fst (Prod.snd x'4) < (0 : Int))) → ((a == (0 : Int)) = Bool.true → ∀ (t1 : Bool), (t1 = if ((v4 == (0 : Int)) == Decidable.decide (v1 ≥ (0 : Int))) = Bool.true then (v6 == (0 : Int)) == Decidable.decide (v2 ≥ (0 : Int)) else Bool.false) → ∀ (v13 : Int), v13 = Go.IntKind.wrap Go.IntKind.i64 (v1 + v2) → ∀ (t2 : Bool), (t2 = if t1 = Bool.true then (v9 == (0 :
      Int)) == Decidable.decide (v13 ≥ (0 : Int)) else Bool.false) → (t2 = Bool.true → ∀ (x'5 : Unit), x'5 = () → ∀ (y5 : Unit), True → ∀ (t3 : Bool), t3 = Bool.true → ∀ (t4 : Bool), (t4 = if t2 = Bool.true then t3 else Bool.false) → t4 = Bool.true) ∧ ((t2 = Bool.true → False) → ∀ (t3 : Bool), (t3 = if t2 = Bool.true then Bool.false else Bool.false) → t3 = Bool.true)) ∧ ((a == (0 : Int)) = Bool.false → ∀
      (t2 : Bool), (t2 = if (v4 == (0 : Int)) = Bool.true then v6 == (0 : Int) else Bool.false) → ∀ (t3 : Bool), (t3 = if t2 = Bool.true then v9 == (0 : Int) else Bool.false) → ∀ (t4 : Bool), (t4 = if t3 = Bool.true then v12 == (0 : Int) else Bool.false) → (t4 = Bool.true → (0 : Int) ≤ v3 ∧ v3 ≤ (255 : Int)) ∧ (t4 = Bool.true → (0 : Int) ≤ v5 ∧ v5 ≤ (255 : Int)) ∧ ∀ (v13 : Int), v13 = Galois.mulI v3 v5 →
      ∀ (t5 : Bool), (t5 = if t4 = Bool.true then v13 == v8 else Bool.false) → ∀ (t6 : Bool), (t6 = if t5 = Bool.true then v11 == v3 else Bool.false) → (t6 = Bool.true → ∀ (x'5 : Unit), x'5 = () → ∀ (y5 : Unit), True → ∀ (t7 : Bool), t7 = Bool.true → ∀ (t8 : Bool), (t8 = if t6 = Bool.true then t7 else Bool.false) → t8 = Bool.true) ∧ ((t6 = Bool.true → False) → ∀ (t7 : Bool), (t7 = if t6 = Bool.true then
      Bool.false else Bool.false) → t7 = Bool.true))) (by kernel_rfl) ?_
  try simp only [eq_self, true_and, and_true, Nat.le_refl, implies_true, forall_const, Bool.false_eq_true, Bool.true_eq_false, reduceCtorEq, false_imp_iff, true_imp_iff, Int.toNat_zero, Int.toNat_natCast, Nat.zero_lt_one, Int.le_refl, allGet]
  obtain ⟨ra, rn, rm, _⟩ := hR
  replace ra := u8_in ra
  replace rn := i64_in rn
  replace rm := i64_in rm
  dsimp only at ra rn rm
  refine ⟨by decide, fun v1 h1 => ⟨by decide, fun v2 h2 x1 hx1 => ?_⟩⟩
  have b1 : n.tmod 1099511627776 < 1099511627776 := Int.tmod_lt_of_pos n (by decide)
  have b2 : -1099511627776 < n.tmod 1099511627776 := Int.lt_tmod_of_pos n (by decide)
  have b3 : m.tmod 1099511627776 < 1099511627776 := Int.tmod_lt_of_pos m (by decide)
  have b4 : -1099511627776 < m.tmod 1099511627776 := Int.lt_tmod_of_pos m (by decide)
  rw [← h1] at b1 b2
  rw [← h2] at b3 b4
  clear h1 h2
  have w1 : IntKind.i64.wrap (v1 + v2) = v1 + v2 := w64_id (by omega) (by omega)
  have w2 : IntKind.i64.wrap (v1 + 255) = v1 + 255 := w64_id (by omega) (by omega)
  rw [w1, w2]
  subst hx1
  refine ⟨ra, ⟨by show _ ≤ v1; omega, by show v1 ≤ _; omega⟩, fun v3 h3 v4 h4 x2 hx2 => ?_⟩
  subst hx2
  refine ⟨ra, ⟨by show _ ≤ v2; omega, by show v2 ≤ _; omega⟩, fun v5 h5 v6 h6 v7 h7 x3 hx3 => ?_⟩
  subst h7 hx3
  refine ⟨ra, ⟨by show _ ≤ v1 + v2; omega, by show v1 + v2 ≤ _; omega⟩, fun v8 h8 v9 h9 v10 h10 x4 hx4 => ?_⟩
  subst h10 hx4
  refine ⟨ra, ⟨by show _ ≤ v1 + 255; omega, by show v1 + 255 ≤ _; omega⟩, fun v11 h11 v12 h12 => ⟨fun ha t1 ht1 v13 h13 t2 ht2 => ?_, fun ha t2 ht2 t3 ht3 t4 ht4 => ?_⟩⟩
  · dsimp only at h4 h6 h9
    rw [ha] at h4 h6 h9
    have e : ∀ x : Int, (errB (true && decide (x < 0)) == 0) = decide (x ≥ 0) := by
      intro x
      unfold errB
      by_cases h : x < 0
      · rw [decide_eq_true h, decide_eq_false (by omega)]; rfl
      · rw [decide_eq_false h, decide_eq_true (by omega)]; rfl
    rw [h4, h6, e, e] at ht1
    rw [h9, e, h13] at ht2
    have : t2 = true := by rw [ht2, ht1]; simp
    subst this
    simp
  · have ha0 : a ≠ 0 := by simpa using ha
    obtain ⟨a', rfl⟩ : ∃ n : Nat, a = n := ⟨a.toNat, by omega⟩
    have la : a' < 256 := by omega
    have lz : a' ≠ 0 := by omega
    dsimp only at h3 h4 h5 h6 h8 h9 h11 h12
    rw [ha] at h4 h6 h9 h12
    have e4 : v4 = 0 := by rw [h4]; rfl
    have e6 : v6 = 0 := by rw [h6]; rfl
    have e9 : v9 = 0 := by rw [h9]; rfl
    have e12 : v12 = 0 := by rw [h12]; rfl
    have pw : ∀ k : Int, powI (a' : Int) k = ((gpow a' (expI k) : Nat) : Int) := by
      intro k
      unfold powI
      rw [if_neg ha0]
      rfl
    rw [pw] at h3 h5 h8 h11
    have l3 := gpow_lt a' (expI v1)
    have l5 := gpow_lt a' (expI v2)
    refine ⟨fun _ => ⟨by omega, by omega⟩, fun _ => ⟨by omega, by omega⟩, fun v13 h13 t5 ht5 t6 ht6 => ?_⟩
    have e13 : v13 = v8 := by
      rw [h13, h3, h5, h8]
      show ((gmul (gpow a' (expI v1)) (gpow a' (expI v2)) : Nat) : Int) = _
      rw [gpow_add lz la, ← gpow_mod lz la (expI v1 + expI v2)]
      have : expI (v1 + v2) = (expI v1 + expI v2) % 255 := by unfold expI; omega
      rw [this]
    have e11 : v11 = v3 := by
      rw [h11, h3]
      have : expI (v1 + 255) = expI v1 := by unfold expI; omega
      rw [this]
    have : t6 = true := by rw [ht6, ht5, ht4, ht3, ht2, e4, e6, e9, e12, e13, e11]; simp
    subst this
    simp
/-! ### the arguments, opened -/
def plainTy (P : Program) (t : TypeId) : Bool := match P.underlying t with
  | some (.struct _) => false
  | some (.array _ _) => false
  | _ => true
theorem notStruct {P : Program} {t : TypeId} (h : plainTy P t = true) : ∀ fs, P.underlying t ≠ some (.struct fs) := by
  intro fs hh; unfold plainTy at h; rw [hh] at h; cases h
theorem notArray {P : Program} {t : TypeId} (h : plainTy P t = true) : ∀ n e, P.underlying t ≠ some (.array n e) := by
  intro n e hh; unfold plainTy at h; rw [hh] at h; cases h
section
variable {H : Type} {enc : TypeId × Value → H}
theorem elsTop (W : World) (base : Nat) : OpTop enc Tryd.prog W base Tryd.f3.params.toList aEls ElsIn :=
  .cons (.elt (ct := [5]) (.int (by kernel_rfl) (by kernel_rfl)) (by kernel_rfl)) (.inr ⟨notStruct (by kernel_rfl), notArray (by kernel_rfl), rfl, fun _ _ => rfl⟩)
    (.cons (.elt (ct := [5]) (.int (by kernel_rfl) (by kernel_rfl)) (by kernel_rfl)) (.inr ⟨notStruct (by kernel_rfl), notArray (by kernel_rfl), rfl, fun _ _ => rfl⟩)
    (.cons (.elt (ct := [3]) (.int (by kernel_rfl) (by kernel_rfl)) (by kernel_rfl)) (.inr ⟨notStruct (by kernel_rfl), notArray (by kernel_rfl), rfl, fun _ _ => rfl⟩) .nil))
theorem fldTop (W : World) (base : Nat) : OpTop enc Tryd.prog W base Tryd.f5.params.toList aFld FldIn :=
  .cons (.elt (ct := [5]) (.int (by kernel_rfl) (by kernel_rfl)) (by kernel_rfl)) (.inr ⟨notStruct (by kernel_rfl), notArray (by kernel_rfl), rfl, fun _ _ => rfl⟩)
    (.cons (.elt (ct := [5]) (.int (by kernel_rfl) (by kernel_rfl)) (by kernel_rfl)) (.inr ⟨notStruct (by kernel_rfl), notArray (by kernel_rfl), rfl, fun _ _ => rfl⟩)
    (.cons (.elt (ct := [5]) (.int (by kernel_rfl) (by kernel_rfl)) (by kernel_rfl)) (.inr ⟨notStruct (by kernel_rfl), notArray (by kernel_rfl), rfl, fun _ _ => rfl⟩) .nil))
theorem powsTop (W : World) (base : Nat) : OpTop enc Tryd.prog W base Tryd.f6.params.toList aPows PowsIn :=
  .cons (.elt (ct := [5]) (.int (by kernel_rfl) (by kernel_rfl)) (by kernel_rfl)) (.inr ⟨notStruct (by kernel_rfl), notArray (by kernel_rfl), rfl, fun _ _ => rfl⟩)
    (.cons (.elt (ct := [2]) (.int (by kernel_rfl) (by kernel_rfl)) (by kernel_rfl)) (.inr ⟨notStruct (by kernel_rfl), notArray (by kernel_rfl), rfl, fun _ _ => rfl⟩)
    (.cons (.elt (ct := [2]) (.int (by kernel_rfl) (by kernel_rfl)) (by kernel_rfl)) (.inr ⟨notStruct (by kernel_rfl), notArray (by kernel_rfl), rfl, fun _ _ => rfl⟩) .nil))
end
end Galois
