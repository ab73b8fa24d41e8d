/-
  OWN WORK. Block: the law BlockDistance.
-/
import Derived.Test.YtoefjmachoakpaaDoorBI
import Derived.Test.YtoefjmachoakpaaDoorBK
namespace Galois
open Go Go.Proofs Eng
set_option linter.unusedVariables false
set_option linter.unusedSimpArgs false
set_option maxHeartbeats 8000000
set_option maxRecDepth 100000

/-- The difference of two words. -/
def dlF (s t : List UInt8) (k : Nat) : Nat := Nat.xor (co s k) (co t k)
theorem difN_self (s : List UInt8) : ∀ k, difN s s k = 0
  | 0 => rfl
  | k + 1 => by
    show (if co s k = co s k then difN s s k else difN s s k + 1) = 0
    rw [if_pos rfl, difN_self s k]
theorem difN_succ (s t : List UInt8) (k : Nat) : difN s t (k + 1) = if co s k = co t k then difN s t k else difN s t k + 1 := rfl
theorem take_enc {a : List UInt8} (h1 : 1 ≤ a.length) (h2 : a.length ≤ 223) : (encL a).take a.length = a := by
  rw [encL_of h1 h2, List.take_left]
theorem encE_of {d : List UInt8} (h1 : 1 ≤ d.length) (h2 : d.length ≤ 223) : encE d = 0 := by
  unfold encE
  rw [encB_of h1 h2]
  rfl
theorem take_ofN (F : Nat → Nat) {m n : Nat} (h : m ≤ n) (hF : ∀ k, F k < 256) : ofN F m = (ofN F n).take m := by
  refine list_ext (by rw [List.length_take, ofN_len, ofN_len]; omega) fun k hk => ?_
  rw [ofN_len] at hk
  rw [co_take hk, byt_get hF hk, byt_get hF (by omega)]
theorem dlF_lt (s t : List UInt8) (k : Nat) : dlF s t k < 256 := xor_lt (co_lt _ _) (co_lt _ _)
theorem dl_syn {s t : List UInt8} (hl : t.length = s.length) {j : Nat} (hj : j < 255) : syn0 (ofN (dlF s t) s.length) j = Nat.xor (syn0 s j) (syn0 t j) := by
  rw [syn0_X _ hj, ofN_len, ← df_syn hl hj]
  unfold syX
  refine X_congr _ fun k hk => ?_
  rw [co_rev (by rw [ofN_len]; exact hk), ofN_len, byt_get (dlF_lt s t) (by omega)]
  unfold dfF dlF
  rw [co_rev hk, co_rev (by omega), hl]
/-- The difference of two code words is one. -/
theorem dl_enc {a b : List UInt8} (h1 : 1 ≤ a.length) (h2 : a.length ≤ 223) (hl : b.length = a.length) : encL (ofN (dlF (encL a) (encL b)) a.length) = ofN (dlF (encL a) (encL b)) (a.length + 8) := by
  have la := encL_ln h1 h2
  have lb := encL_ln (d := b) (by omega) (by omega)
  have l3 := encL_ln (d := ofN (dlF (encL a) (encL b)) a.length) (by rw [ofN_len]; exact h1) (by rw [ofN_len]; exact h2)
  rw [ofN_len] at l3
  refine code_pre (by rw [ofN_len, l3]) (by omega) (enc_syn (by rw [ofN_len]; exact h1) (by rw [ofN_len]; exact h2)) (fun j hj => ?_) (fun k hk => ?_) (by omega)
  · rw [← la, dl_syn (by omega) (by omega), enc_syn h1 h2 j hj, enc_syn (by omega) (by omega) j hj]
    rfl
  · rw [l3] at hk
    rw [encL_of (by rw [ofN_len]; exact h1) (by rw [ofN_len]; exact h2), co_app1 (by rw [ofN_len]; omega), byt_get (dlF_lt _ _) (by omega), byt_get (dlF_lt _ _) (by omega)]
noncomputable def EL2 : Env := EL1.addQ 4 eqBool
theorem EL2_ok : EnvOk Tryd.prog EL2 := EL1_ok.addQ (eqBool_ok (by kernel_rfl))
def DisIn (x : List UInt8 × List UInt8 × Unit) : Prop := x.1.length ≤ 140737488351232 ∧ x.2.1.length ≤ 140737488351232 ∧ True
noncomputable def distA (a b : List UInt8) : List An :=
  [.loopD 10 (fun fr H => ⟨10, Nat, [11, 10], fun i => [.int .i64 (i : Nat), .int .i64 (difN (encL a) (encL b) i : Nat)], [0], fun i => [{ entG H 0 with get := fun k => .int .u8 (if k < i then (dlF (encL a) (encL b) k : Nat) else 0) }], fun i => i ≤ (encL a).length, fun i => (encL a).length - i⟩),
   .draw 12 ((.take 0 (.take 1 (.take 2 (.take 3 (.take 4 (.take 5 (.take 6 (.take 7 (.take 8 (.take 9 (.br 10 .fin .stop)))))))))))) [9, 100000]]
theorem difN_zero (s t : List UInt8) : difN s t 0 = 0 := rfl
theorem dlF_ne {s t : List UInt8} {k : Nat} (h : co s k = co t k) : dlF s t k = 0 := by unfold dlF; rw [h]; exact Nat.xor_self _
theorem dlF_eq {s t : List UInt8} {k : Nat} (h : dlF s t k = 0) : co s k = co t k := by
  by_cases e : co s k = co t k
  · exact e
  · exact (xor_ne e h).elim
attribute [local irreducible] dlF difN encL encE
theorem dist_walk : ∀ (x : List UInt8 × List UInt8 × Unit) (hR : DisIn x) (hw : ∀ v ∈ aStrS.svs 0 x, v.wf), exCode EL2 Tryd.f5.ntmps (distA x.1 x.2.1) (match Tryd.f5.body with | some c => c | none => .skip) (argFr 0 (aStrS.svs 0 x)) (aStrS.hp 0 x) aStrS.tags (atEnd EL2 Tryd.f5.results.toList fun r _ _ => eqv r (.bool true)) := by
  refine fun ⟨a, b, ()⟩ hR hw => ?_
  refine vc_of (q :=
      ∀ (v1 : Int), v1 = (↑(List.length a) : Int) → ∀ (v2 : Int), v2 = (↑(List.length b) : Int) → ∀ (v3 : Int), v3 = (↑(List.length a) : Int) → ∀ (t1 : Bool), (t1 = if (v1 != v2) = Bool.true then Bool.true else Decidable.decide (v3 < (1 : Int))) → ∀ (v4 : Int), v4 = (↑(List.length a) : Int) → ∀ (t2 : Bool), (t2 = if t1 = Bool.true then Bool.true else Decidable.decide (v4 > (223 : Int))) → (t2 = Bool.true
      → ∀ (t3 : Bool), t3 = Bool.true → t3 = Bool.true) ∧ (t2 = Bool.false → ∀ (s1 : List UInt8), s1 = Galois.encL a → ∀ (v5 : Int), v5 = Galois.encE a → ∀ (s2 : List UInt8), s2 = Galois.encL b → ∀ (v6 : Int), v6 = Galois.encE b → ∀ (t4 : Bool), (t4 = if (v5 != (0 : Int)) = Bool.true then Bool.true else v6 != (0 : Int)) → ∀ (v7 : Int), v7 = (↑(List.length s1) : Int) → ∀ (v8 : Int), v8 = (↑(List.length a)
      : Int) → ∀ (v9 : Int), v9 = Go.IntKind.wrap Go.IntKind.i64 (v8 + (8 : Int)) → ∀ (t5 : Bool), (t5 = if t4 = Bool.true then Bool.true else v7 != v9) → ∀ (v10 : Int), v10 = (↑(List.length s2) : Int) → ∀ (v11 : Int), v11 = (↑(List.length s1) : Int) → ∀ (t6 : Bool), (t6 = if t5 = Bool.true then Bool.true else v10 != v11) → ∀ (v12 : Int), v12 = (↑(List.length a) : Int) → (t6 = Bool.false → (0 : Int) ≤
      v12) ∧ (t6 = Bool.false → v12 ≤ (↑(List.length s1) : Int)) ∧ (t6 = Bool.false → (0 : Int) ≤ (0 : Int)) ∧ (t6 = Bool.false → (0 : Int) ≤ v12) ∧ ∀ (t7 : Bool), (t7 = if t6 = Bool.true then Bool.true else !List.drop (Int.toNat (0 : Int)) (List.take (Int.toNat v12) s1) == a) → ∀ (v13 : Int), v13 = (↑(List.length b) : Int) → (t7 = Bool.false → (0 : Int) ≤ v13) ∧ (t7 = Bool.false → v13 ≤ (↑(List.length
      s2) : Int)) ∧ (t7 = Bool.false → (0 : Int) ≤ (0 : Int)) ∧ (t7 = Bool.false → (0 : Int) ≤ v13) ∧ ∀ (t8 : Bool), (t8 = if t7 = Bool.true then Bool.true else !List.drop (Int.toNat (0 : Int)) (List.take (Int.toNat v13) s2) == b) → (t8 = Bool.true → Bool.false = Bool.true) ∧ (t8 = Bool.false → ∀ (v14 : Int), v14 = (↑(List.length s1) : Int) → (0 : Int) ≤ v14 ∧ v14 ≤ v14 ∧ v14 * (↑(1 : Nat) : Int) ≤
      (140737488355328 : Int) ∧ v14 ≤ (9223372036854775807 : Int) ∧ ∀ (b1 : Nat), (∃ (x1 : Nat), (0 : Int) = (↑x1 : Int) ∧ (0 : Int) = (↑(Galois.difN (Galois.encL a) (Galois.encL b) x1) : Int) ∧ ((b1 = b1 ∧ (0 : Nat) = (0 : Nat) ∧ Bool.false = Bool.false ∧ Int.toNat v14 ≤ Int.toNat v14 ∧ Int.toNat v14 ≤ Int.toNat v14 ∧ Int.toNat v14 ≤ Int.toNat v14) ∧ ∀ (i1 : Nat), i1 < Int.toNat v14 → (0 : Int) = if i1
      < x1 then (↑(Galois.dlF (Galois.encL a) (Galois.encL b) i1) : Int) else (0 : Int)) ∧ Nat.le x1 (List.length (Galois.encL a))) ∧ ∀ (b2 : Nat), b2 ≤ List.length (Galois.encL a) → ∀ (v15 : Int), v15 = (↑(List.length s1) : Int) → (Decidable.decide ((↑b2 : Int) < v15) = Bool.true → (0 : Int) ≤ (↑b2 : Int) ∧ (↑b2 : Int) < (↑(List.length s1) : Int) ∧ (0 : Int) ≤ (↑b2 : Int) ∧ (↑b2 : Int) < (↑(List.length
      s2) : Int) ∧ ∀ (v16 : Int), v16 = Go.IntKind.wrap Go.IntKind.u8 (↑(BitVec.toNat (BitVec.ofInt (Go.IntKind.bits Go.IntKind.u8) (↑(UInt8.toNat (List.getD s1 (Int.toNat (↑b2 : Int)) (0 : UInt8))) : Int) ^^^ BitVec.ofInt (Go.IntKind.bits Go.IntKind.u8) (↑(UInt8.toNat (List.getD s2 (Int.toNat (↑b2 : Int)) (0 : UInt8))) : Int))) : Int) → (0 : Int) ≤ (↑b2 : Int) ∧ (↑b2 : Int) < (↑(Int.toNat v14) : Int) ∧
      ((b1 = b1 ∧ (0 : Nat) = (0 : Nat)) ∧ Int.toNat (↑b2 : Int) < Int.toNat v14 ∧ (0 : Int) ≤ (↑b2 : Int) ∧ (↑b2 : Int) < (↑(Int.toNat v14) : Int) ∧ (b1 = b1 ∧ (0 : Nat) = (0 : Nat)) ∧ Int.toNat (↑b2 : Int) < Int.toNat v14 ∧ (((if Int.toNat (↑b2 : Int) = Int.toNat (↑b2 : Int) then v16 else if Int.toNat (↑b2 : Int) < b2 then (↑(Galois.dlF (Galois.encL a) (Galois.encL b) (Int.toNat (↑b2 : Int))) : Int)
      else (0 : Int)) != (0 : Int)) = Bool.true → ∀ (v17 : Int), v17 = Go.IntKind.wrap Go.IntKind.i64 ((↑(Galois.difN (Galois.encL a) (Galois.encL b) b2) : Int) + (1 : Int)) → ∀ (v18 : Int), v18 = Go.IntKind.wrap Go.IntKind.i64 ((↑b2 : Int) + (1 : Int)) → ∃ (x2 : Nat), v18 = (↑x2 : Int) ∧ v17 = (↑(Galois.difN (Galois.encL a) (Galois.encL b) x2) : Int) ∧ ((b1 = b1 ∧ (0 : Nat) = (0 : Nat) ∧ Bool.false =
      Bool.false ∧ Int.toNat v14 ≤ Int.toNat v14 ∧ Int.toNat v14 ≤ Int.toNat v14 ∧ Int.toNat v14 ≤ Int.toNat v14) ∧ ∀ (i2 : Nat), i2 < Int.toNat v14 → (if i2 = Int.toNat (↑b2 : Int) then v16 else if i2 < b2 then (↑(Galois.dlF (Galois.encL a) (Galois.encL b) i2) : Int) else (0 : Int)) = if i2 < x2 then (↑(Galois.dlF (Galois.encL a) (Galois.encL b) i2) : Int) else (0 : Int)) ∧ x2 ≤ List.length (Galois.encL
      a) ∧ List.length (Galois.encL a) - x2 < List.length (Galois.encL a) - b2) ∧ (((if Int.toNat (↑b2 : Int) = Int.toNat (↑b2 : Int) then v16 else if Int.toNat (↑b2 : Int) < b2 then (↑(Galois.dlF (Galois.encL a) (Galois.encL b) (Int.toNat (↑b2 : Int))) : Int) else (0 : Int)) != (0 : Int)) = Bool.false → ∀ (v18 : Int), v18 = Go.IntKind.wrap Go.IntKind.i64 ((↑b2 : Int) + (1 : Int)) → ∃ (x2 : Nat), v18 =
      (↑x2 : Int) ∧ (↑(Galois.difN (Galois.encL a) (Galois.encL b) b2) : Int) = (↑(Galois.difN (Galois.encL a) (Galois.encL b) x2) : Int) ∧ ((b1 = b1 ∧ (0 : Nat) = (0 : Nat) ∧ Bool.false = Bool.false ∧ Int.toNat v14 ≤ Int.toNat v14 ∧ Int.toNat v14 ≤ Int.toNat v14 ∧ Int.toNat v14 ≤ Int.toNat v14) ∧ ∀ (i2 : Nat), i2 < Int.toNat v14 → (if i2 = Int.toNat (↑b2 : Int) then v16 else if i2 < b2 then
      (↑(Galois.dlF (Galois.encL a) (Galois.encL b) i2) : Int) else (0 : Int)) = if i2 < x2 then (↑(Galois.dlF (Galois.encL a) (Galois.encL b) i2) : Int) else (0 : Int)) ∧ x2 ≤ List.length (Galois.encL a) ∧ List.length (Galois.encL a) - x2 < List.length (Galois.encL a) - b2)) ∧ True) ∧ (Decidable.decide ((↑b2 : Int) < v15) = Bool.false → ∀ (v17 : Int), v17 = (↑(List.length a) : Int) → (0 : Int) ≤ v17 ∧
      v17 ≤ (↑(Int.toNat v14) : Int) ∧ Int.toNat v17 ≤ Int.toNat v14 ∧ (∀ (k1 : Nat), k1 < Int.toNat v17 → Bool.true = Bool.true) ∧ (b1 = b1 ∧ (0 : Nat) = (0 : Nat)) ∧ ∀ (s3 : List UInt8), s3 = Byt.of (fun (k : Nat) ↦ if k < b2 then (↑(Galois.dlF (Galois.encL a) (Galois.encL b) k) : Int) else (0 : Int)) (Int.toNat v17) → ∀ (s4 : List UInt8), s4 = Galois.encL s3 → ∀ (v18 : Int), v18 = Galois.encE s3 →
      ((v18 == (0 : Int)) = Bool.true → Int.toNat v14 ≤ Int.toNat v14) ∧ ((v18 == (0 : Int)) = Bool.true → ∀ (k2 : Nat), k2 < Int.toNat v14 → Bool.true = Bool.true) ∧ ((v18 == (0 : Int)) = Bool.true → b1 = b1 ∧ (0 : Nat) = (0 : Nat)) ∧ ∀ (s5 : List UInt8), s5 = Byt.of (fun (k : Nat) ↦ if k < b2 then (↑(Galois.dlF (Galois.encL a) (Galois.encL b) k) : Int) else (0 : Int)) (Int.toNat v14) → ∀ (t9 : Bool),
      (t9 = if (v18 == (0 : Int)) = Bool.true then s4 == s5 else Bool.false) → ∀ (t10 : Bool), (t10 = if t9 = Bool.true then (a == b) == ((↑(Galois.difN (Galois.encL a) (Galois.encL b) b2) : Int) == (0 : Int)) else Bool.false) → ∀ (t11 : Bool), (t11 = if ((↑(Galois.difN (Galois.encL a) (Galois.encL b) b2) : Int) == (0 : Int)) = Bool.true then Bool.true else Decidable.decide ((↑(Galois.difN (Galois.encL
      a) (Galois.encL b) b2) : Int) ≥ (9 : Int))) → ∀ (t12 : Bool), (t12 = if t10 = Bool.true then t11 else Bool.false) → ∀ (t13 : Bool), t13 = Bool.true → ∀ (t14 : Bool), (t14 = if t12 = Bool.true then t13 else Bool.false) → t14 = Bool.true)))) (by kernel_rfl) ?_
  try simp only [eq_self, true_and, and_true, Nat.le_refl, implies_true, forall_const, Bool.false_eq_true, Bool.true_eq_false, reduceCtorEq, false_imp_iff, true_imp_iff, Int.toNat_zero, Int.toNat_natCast, Nat.zero_lt_one, Int.le_refl, allGet]
  intro v1 h1 v2 h2 v3 h3 t1 ht1 v4 h4 t2 ht2
  refine ⟨fun _ t h => h, fun hf s1 hs1 v5 h5 s2 hs2 v6 h6 t4 ht4 v7 h7 v8 h8 v9 h9 t5 ht5 v10 h10 v11 h11 t6 ht6 v12 h12 => ?_⟩
  rw [hf] at ht2
  have k1 : t1 = false := by cases t1 with | false => rfl | true => rw [if_pos rfl] at ht2; cases ht2
  rw [k1, if_neg (by decide)] at ht2
  have k2 : (v1 != v2) = false := by
    cases e : (v1 != v2) with
    | false => rfl
    | true => rw [k1, e, if_pos rfl] at ht1; cases ht1
  rw [k1, k2, if_neg (by decide)] at ht1
  have a1 := of_decide_eq_false ht1.symm
  have a2 := of_decide_eq_false ht2.symm
  have a3 : v1 = v2 := by simpa using k2
  have l1 : 1 ≤ a.length := by omega
  have l2 : a.length ≤ 223 := by omega
  have l3 : b.length = a.length := by omega
  have la := encL_ln l1 l2
  have lb := encL_ln (d := b) (by omega) (by omega)
  have ta := take_enc l1 l2
  have tb := take_enc (a := b) (by omega) (by omega)
  clear ht1 ht2 k2
  have e5 : v5 = 0 := h5.trans (encE_of l1 l2)
  have e6 : v6 = 0 := h6.trans (encE_of (by omega) (by omega))
  have dE := dl_enc l1 l2 l3
  have sya := enc_syn l1 l2
  have syb := enc_syn (d := b) (by omega) (by omega)
  subst hs1 hs2
  clear h5 h6
  have hsab : a = b → encL a = encL b := fun h => by rw [h]
  generalize encL a = sa at *
  generalize encL b = sb at *
  have e4 : t4 = false := by rw [ht4, e5, e6]; rfl
  have e9 : v9 = (a.length : Int) + 8 := by rw [h9, h8, w64_id (by omega) (by omega)]
  clear h9
  have e5' : t5 = false := by rw [ht5, e4, show v7 = v9 by omega]; simp
  have e6' : t6 = false := by rw [ht6, e5', show v10 = v11 by omega]; simp
  clear ht4 ht5 ht6 e4 e5'
  have e12 : v12.toNat = a.length := by omega
  refine ⟨fun _ => by omega, fun _ => by omega, fun _ => by omega, fun t7 ht7 v13 h13 => ?_⟩
  have e13 : v13.toNat = b.length := by omega
  have e7' : t7 = false := by
    rw [ht7, e6', e12, ta]
    simp
  refine ⟨fun _ => by omega, fun _ => by omega, fun _ => by omega, fun t8 ht8 => ?_⟩
  have e8' : t8 = false := by
    rw [ht8, e7', e13, tb]
    simp
  clear ht7 ht8 e7' e12 e13
  refine ⟨fun h => (Bool.false_ne_true (e8'.symm.trans h)).elim, fun _ v14 h14 => ?_⟩
  clear e8' e6'
  have e14 : v14.toNat = sa.length := by omega
  rw [e14]
  clear e14
  refine ⟨by omega, by omega, by omega, ⟨0, rfl, by rw [difN_zero]; rfl, fun k hk => by rw [if_neg (by omega)], Nat.zero_le _⟩, fun i hi v15 h15 => ⟨fun hlt => ?_, fun hge => ?_⟩⟩
  · have hlt := of_decide_eq_true hlt
    have hi' : i < sa.length := by omega
    refine ⟨by omega, by omega, by omega, by omega, fun v16 h16 => ?_⟩
    have e16 : v16 = (dlF sa sb i : Nat) := by
      rw [h16]
      refine (xor8 (co_lt sa i) (co_lt sb i)).trans ?_
      unfold dlF
      rfl
    clear h16
    subst e16
    have hrow : ∀ k, (if k = i then ((dlF sa sb i : Nat) : Int) else if k < i then ((dlF sa sb k : Nat) : Int) else 0) = if k < i + 1 then ((dlF sa sb k : Nat) : Int) else 0 := fun k => by
      by_cases q : k = i
      · subst q; rw [if_pos rfl, if_pos (by omega)]
      · rw [if_neg q]
        by_cases q2 : k < i
        · rw [if_pos q2, if_pos (by omega)]
        · rw [if_neg q2, if_neg (by omega)]
    refine ⟨by omega, by omega, by omega, by omega, by omega, by omega, fun hne v17 h17 v18 h18 => ⟨i + 1, by rw [h18, w64_id (by omega) (by omega)]; omega, ?_, fun k hk => hrow k, by omega, by omega⟩, fun heq v18 h18 => ⟨i + 1, by rw [h18, w64_id (by omega) (by omega)]; omega, ?_, fun k hk => hrow k, by omega, by omega⟩⟩
    · have hd := difN_le sa sb i
      rw [difN_succ, if_neg, h17, w64_id (by omega) (by omega)]
      · omega
      · intro e
        have : dlF sa sb i = 0 := dlF_ne e
        rw [this] at hne
        cases hne
    · rw [difN_succ, if_pos]
      have h0 : ((dlF sa sb i : Nat) : Int) = 0 := by simpa using heq
      exact dlF_eq (by omega)
  · have hge := of_decide_eq_false hge
    have ei : i = sa.length := by omega
    subst ei
    intro v17 h17
    have e17 : v17.toNat = a.length := by omega
    rw [e17]
    clear e17
    refine ⟨by omega, by omega, by omega, fun s3 hs3 s4 hs4 v18 h18 s5 hs5 t9 ht9 t10 ht10 t11 ht11 t12 ht12 t13 ht13 t14 ht14 => ?_⟩
    have f3 : s3 = ofN (dlF sa sb) a.length := by
      rw [hs3]
      exact bof_congr fun k hk => by rw [if_pos (by omega)]
    have f5 : s5 = ofN (dlF sa sb) (a.length + 8) := by
      rw [hs5, la]
      exact bof_congr fun k hk => by rw [if_pos hk]
    have f4 : s4 = s5 := by rw [hs4, f3, f5, dE]
    have f18 : v18 = 0 := by rw [h18, f3]; exact encE_of (by rw [ofN_len]; exact l1) (by rw [ofN_len]; exact l2)
    have f9 : t9 = true := by rw [ht9, f18, f4]; simp
    by_cases hab : a = b
    · have hz : difN sa sb sa.length = 0 := by rw [hsab hab]; exact difN_self sb _
      rw [hz] at ht10 ht11
      have f10 : t10 = true := by rw [ht10, f9, hab]; simp
      have f11 : t11 = true := by rw [ht11]; simp
      rw [ht14, ht12, f10, f11, ht13]
      rfl
    · have hd : 9 ≤ difN sa sb sa.length := by
        apply Nat.le_of_not_lt
        intro q
        have e := code_min (b := sa) (c := sb) (by omega) (by omega) sya syb (by omega)
        exact hab (by rw [← ta, ← tb, e, l3])
      have f10 : t10 = true := by
        rw [ht10, f9, beq_eq_false_iff_ne.2 hab, beq_eq_false_iff_ne.2 (show ((difN sa sb sa.length : Nat) : Int) ≠ 0 by omega)]
        rfl
      have f11 : t11 = true := by
        rw [ht11, beq_eq_false_iff_ne.2 (show ((difN sa sb sa.length : Nat) : Int) ≠ 0 by omega), if_neg (by decide)]
        exact decide_eq_true (by omega)
      rw [ht14, ht12, f10, f11, ht13]
      rfl
section
variable {H : Type} {enc : TypeId × Value → H}
theorem distTop (W : World) (base : Nat) : OpTop enc Tryd.prog W base Tryd.f5.params.toList aStrS DisIn :=
  .cons (.elt (ct := [9]) (.str (by kernel_rfl) (by kernel_rfl)) (by kernel_rfl)) (.inr ⟨notStruct (by kernel_rfl), notArray (by kernel_rfl), rfl, fun _ _ => rfl⟩)
    (.cons (.elt (ct := [9]) (.str (by kernel_rfl) (by kernel_rfl)) (by kernel_rfl)) (.inr ⟨notStruct (by kernel_rfl), notArray (by kernel_rfl), rfl, fun _ _ => rfl⟩) .nil)
end
end Galois
