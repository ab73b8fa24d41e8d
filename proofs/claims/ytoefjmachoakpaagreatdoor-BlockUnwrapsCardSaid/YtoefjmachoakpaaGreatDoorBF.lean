/-
  OWN WORK. Block: Wrap.
-/
import Derived.Test.YtoefjmachoakpaaGreatDoorBE
namespace Galois
open Go Go.Proofs Eng
set_option linter.unusedVariables false
set_option linter.unusedSimpArgs false
set_option maxHeartbeats 8000000
set_option maxRecDepth 100000

/-- The parity bytes when j parts are done and p bytes of part j. -/
noncomputable def wpF (d : List UInt8) (n j p k : Nat) : Int := if k % n < j ∨ (k % n = j ∧ k / n < p) then wF d n k else 0
theorem wpF_put {d : List UInt8} {n j p k : Nat} (hj : j < n) : (if k = p * n + j then wF d n (p * n + j) else wpF d n j p k) = wpF d n j (p + 1) k := by
  have e1 : (p * n + j) % n = j := by rw [Nat.mul_comm, Nat.mul_add_mod, Nat.mod_eq_of_lt hj]
  have e2 : (p * n + j) / n = p := by rw [Nat.mul_comm, Nat.mul_add_div (by omega), Nat.div_eq_of_lt hj, Nat.add_zero]
  unfold wpF
  by_cases h : k = p * n + j
  · subst h
    rw [if_pos rfl, e1, e2, if_pos (Or.inr ⟨rfl, by omega⟩)]
  · rw [if_neg h]
    by_cases q : k % n = j ∧ k / n = p
    · exfalso
      apply h
      have := Nat.div_add_mod k n
      rw [q.1, q.2, Nat.mul_comm] at this
      exact this.symm
    · have : (k % n < j ∨ (k % n = j ∧ k / n < p)) ↔ (k % n < j ∨ (k % n = j ∧ k / n < p + 1)) := by
        constructor
        · rintro (a | ⟨a, b⟩)
          · exact Or.inl a
          · exact Or.inr ⟨a, by omega⟩
        · rintro (a | ⟨a, b⟩)
          · exact Or.inl a
          · refine Or.inr ⟨a, ?_⟩
            by_cases c : k / n = p
            · exact (q ⟨a, c⟩).elim
            · omega
      simp only [this]
theorem wpF_next {d : List UInt8} {n j k : Nat} (hk : k < 8 * n) : wpF d n j 8 k = wpF d n (j + 1) 0 k := by
  have h8 : k / n < 8 := (Nat.div_lt_iff_lt_mul (by omega)).2 hk
  unfold wpF
  clear hk
  generalize k / n = q at *
  generalize k % n = r at *
  have : (r < j ∨ (r = j ∧ q < 8)) ↔ (r < j + 1 ∨ (r = j + 1 ∧ q < 0)) := by
    constructor
    · rintro (a | ⟨a, b⟩)
      · exact Or.inl (by omega)
      · exact Or.inl (by omega)
    · rintro (a | ⟨a, b⟩)
      · by_cases c : r = j
        · exact Or.inr ⟨c, h8⟩
        · exact Or.inl (by omega)
      · omega
  simp only [this]
theorem wpF_end {d : List UInt8} {n k : Nat} (hn : 0 < n) : wpF d n n 0 k = wF d n k := by
  unfold wpF
  rw [if_pos (Or.inl (Nat.mod_lt _ hn))]
theorem wpF_zero {d : List UInt8} {n k : Nat} : wpF d n 0 0 k = 0 := by
  unfold wpF
  rw [if_neg]
  rintro (a | ⟨a, b⟩)
  · exact Nat.not_lt_zero _ a
  · exact Nat.not_lt_zero _ b
noncomputable def EBv : Env := EBE.addE 35 parts
theorem EBv_ok : EnvOk Tryz.prog EBv := EBE_ok.addE parts_ok
theorem wrapB_ok : PcOk Tryz.prog 16 wrap := by
  refine pcOf_runS (fun _ => EBv_ok) Tryz.func16 rfl (by kernel_rfl) (fun x hw => wrap_wf x)
    (fun x => [.loopD 5 (fun fr H => ⟨5, Nat, [38], fun j => [.int .i64 (j : Nat)], [0], fun j => [{ entG H 0 with get := fun k => .int .u8 (wpF x.1 x.2.1.toNat j 0 k) }], fun j => j ≤ x.2.1.toNat, fun j => x.2.1.toNat - j⟩),
      .loopD 9 (fun fr H => ⟨9, Nat, [49], fun p => [.int .i64 (p : Nat)], [0], fun p => [{ entG H 0 with get := fun k => .int .u8 (wpF x.1 x.2.1.toNat (intOf (slotV fr 7)).toNat p k) }], fun p => p ≤ 8, fun p => 8 - p⟩)])
    (fun _ => Nat.le_of_ble_eq_true rfl) (fun ⟨d, n, ()⟩ hp hw => ?_)
  refine vc_of (q :=
      ∀ (t1 : Bool), (t1 = if decide (n < (1 : Int)) = true then true else decide (n > (4 : Int))) → ∀ (v1 : Int), v1 = (↑(List.length d) : Int) → ∀ (t2 : Bool), (t2 = if t1 = true then true else decide (v1 < n)) → ∀ (v2 : Int), v2 = (↑(List.length d) : Int) → ∀ (v3 : Int), v3 = IntKind.i64.wrap ((223 : Int) * n) → ∀ (t3 : Bool), (t3 = if t2 = true then true else decide (v2 > v3)) → (t3 = true → [] =
      wrapL d n ∧ (2 : Int) = wrapE d n) ∧ (t3 = false → ∀ (v4 : Int), v4 = IntKind.i64.wrap ((8 : Int) * n) → 0 ≤ v4 ∧ v4 ≤ v4 ∧ v4 * (↑(1 : Nat) : Int) ≤ (140737488355328 : Int) ∧ v4 ≤ 9223372036854775807 ∧ ∀ (b1 : Nat) (x'1 : List UInt8 × Int × Unit), x'1 = (d, n, ()) → (1 : Int) ≤ (Prod.snd x'1).1 ∧ (Prod.snd x'1).1 ≤ (4 : Int) ∧ (Prod.snd x'1).1 ≤ (↑(List.length (Prod.fst x'1)) : Int) ∧ List.length
      (Prod.fst x'1) ≤ 100000 ∧ ∀ (y1 : (Nat × Nat) × (Nat → Nat × Nat × Nat)), (∀ (k : Nat), k < Int.toNat ((Prod.snd x'1).1) → partN (List.length (Prod.fst x'1)) k (Int.toNat ((Prod.snd x'1).1)) ≤ ((y1.2 k).2.2) ∧ ((y1.2 k).2.2) ≤ 9223372036854775807) → ∀ (v5 : Int), v5 = (↑(Int.toNat ((Prod.snd x'1).1)) : Int) → (∃ (x1 : Nat), (0 : Int) = (↑x1 : Int) ∧ ((b1 = b1 ∧ 0 = 0 ∧ false = false ∧ Int.toNat v4
      ≤ Int.toNat v4 ∧ Int.toNat v4 ≤ Int.toNat v4 ∧ Int.toNat v4 ≤ Int.toNat v4) ∧ ∀ (i1 : Nat), i1 < Int.toNat v4 → (0 : Int) = wpF d (Int.toNat n) x1 0 i1) ∧ Nat.le x1 (Int.toNat n)) ∧ ∀ (b2 : Nat), b2 ≤ Int.toNat n → (decide ((↑b2 : Int) < v5) = true → (0 : Int) ≤ (↑b2 : Int) ∧ (↑b2 : Int) < (↑(Int.toNat ((Prod.snd x'1).1)) : Int) ∧ (y1.1.1 = y1.1.1 ∧ y1.1.2 = y1.1.2) ∧ Int.toNat (↑b2 : Int) <
      Int.toNat ((Prod.snd x'1).1) ∧ partN (List.length (Prod.fst x'1)) (Int.toNat (↑b2 : Int)) (Int.toNat ((Prod.snd x'1).1)) ≤ partN (List.length (Prod.fst x'1)) (Int.toNat (↑b2 : Int)) (Int.toNat ((Prod.snd x'1).1)) ∧ (∀ (k1 : Nat), k1 < partN (List.length (Prod.fst x'1)) (Int.toNat (↑b2 : Int)) (Int.toNat ((Prod.snd x'1).1)) → true = true) ∧ ((y1.2 (Int.toNat (↑b2 : Int))).1, ((y1.2 (Int.toNat (↑b2 :
      Int))).2).1) = ((y1.2 (Int.toNat (↑b2 : Int))).1, ((y1.2 (Int.toNat (↑b2 : Int))).2).1) ∧ Int.toNat (↑b2 : Int) < Int.toNat ((Prod.snd x'1).1) ∧ ∀ (s1 : List UInt8), s1 = Byt.of (fun (k : Nat) ↦ (↑(UInt8.toNat (List.getD (Prod.fst x'1) (Int.toNat (↑b2 : Int) + k * Int.toNat ((Prod.snd x'1).1)) 0)) : Int)) (partN (List.length (Prod.fst x'1)) (Int.toNat (↑b2 : Int)) (Int.toNat ((Prod.snd x'1).1))) →
      ∀ (s2 : List UInt8), s2 = encL s1 → ∀ (v6 : Int), v6 = encE s1 → (∃ (x2 : Nat), (0 : Int) = (↑x2 : Int) ∧ ((b1 = b1 ∧ 0 = 0 ∧ false = false ∧ Int.toNat v4 ≤ Int.toNat v4 ∧ Int.toNat v4 ≤ Int.toNat v4 ∧ Int.toNat v4 ≤ Int.toNat v4) ∧ ∀ (i2 : Nat), i2 < Int.toNat v4 → wpF d (Int.toNat n) b2 0 i2 = wpF d (Int.toNat n) (Int.toNat (↑b2 : Int)) x2 i2) ∧ Nat.le x2 8) ∧ ∀ (b3 : Nat), b3 ≤ 8 → (decide ((↑b3
      : Int) < (8 : Int)) = true → ∀ (v7 : Int), v7 = IntKind.i64.wrap ((↑b3 : Int) * n) → ∀ (v8 : Int), v8 = IntKind.i64.wrap (v7 + (↑b2 : Int)) → ∀ (v9 : Int), v9 = (↑(partN (List.length (Prod.fst x'1)) (Int.toNat (↑b2 : Int)) (Int.toNat ((Prod.snd x'1).1))) : Int) → ∀ (v10 : Int), v10 = IntKind.i64.wrap (v9 + (↑b3 : Int)) → 0 ≤ v10 ∧ v10 < (↑(List.length s2) : Int) ∧ 0 ≤ v8 ∧ v8 < (↑(Int.toNat v4) :
      Int) ∧ (b1 = b1 ∧ 0 = 0) ∧ Int.toNat v8 < Int.toNat v4 ∧ ∀ (v11 : Int), v11 = IntKind.i64.wrap ((↑b3 : Int) + (1 : Int)) → ∃ (x3 : Nat), v11 = (↑x3 : Int) ∧ ((b1 = b1 ∧ 0 = 0 ∧ false = false ∧ Int.toNat v4 ≤ Int.toNat v4 ∧ Int.toNat v4 ≤ Int.toNat v4 ∧ Int.toNat v4 ≤ Int.toNat v4) ∧ ∀ (i3 : Nat), i3 < Int.toNat v4 → (if i3 = Int.toNat v8 then (↑(UInt8.toNat (List.getD s2 (Int.toNat v10) 0)) : Int)
      else wpF d (Int.toNat n) (Int.toNat (↑b2 : Int)) b3 i3) = wpF d (Int.toNat n) (Int.toNat (↑b2 : Int)) x3 i3) ∧ x3 ≤ 8 ∧ 8 - x3 < 8 - b3) ∧ (decide ((↑b3 : Int) < (8 : Int)) = false → ∀ (v8 : Int), v8 = IntKind.i64.wrap ((↑b2 : Int) + (1 : Int)) → ∃ (x3 : Nat), v8 = (↑x3 : Int) ∧ ((b1 = b1 ∧ 0 = 0 ∧ false = false ∧ Int.toNat v4 ≤ Int.toNat v4 ∧ Int.toNat v4 ≤ Int.toNat v4 ∧ Int.toNat v4 ≤ Int.toNat
      v4) ∧ ∀ (i3 : Nat), i3 < Int.toNat v4 → wpF d (Int.toNat n) (Int.toNat (↑b2 : Int)) b3 i3 = wpF d (Int.toNat n) x3 0 i3) ∧ x3 ≤ Int.toNat n ∧ Int.toNat n - x3 < Int.toNat n - b2)) ∧ (decide ((↑b2 : Int) < v5) = false → Int.toNat v4 ≤ Int.toNat v4 ∧ (∀ (k2 : Nat), k2 < Int.toNat v4 → true = true) ∧ (b1 = b1 ∧ 0 = 0) ∧ ∀ (s2 : List UInt8), s2 = Byt.of (wpF d (Int.toNat n) b2 0) (Int.toNat v4) →
      List.length d + List.length s2 ≤ 9223372036854775807 ∧ ∀ (s3 : List UInt8), s3 = d ++ s2 → s3 = wrapL d n ∧ (0 : Int) = wrapE d n))) (by kernel_rfl) ?_
  try simp only [eq_self, true_and, and_true, Nat.le_refl, implies_true, forall_const, Bool.false_eq_true, Bool.true_eq_false, reduceCtorEq, false_imp_iff, true_imp_iff, Int.toNat_zero, Int.toNat_natCast, Nat.zero_lt_one, Int.le_refl, allGet]
  intro t1 ht1 v1 h1 t2 ht2 v2 h2 v3 h3 t3 ht3
  have hb := wB_eq ht1 h1 ht2 h2 h3 ht3
  subst hb
  refine ⟨fun h => by unfold wrapL wrapE; rw [if_pos h, if_pos h]; exact ⟨rfl, rfl⟩, fun h => ?_⟩
  obtain ⟨g1, g2, g3, g4⟩ := wB_false h
  have hN : ((n.toNat : Nat) : Int) = n := Int.toNat_of_nonneg (by omega)
  generalize hNN : n.toNat = N at *
  intro v4 hv4
  have e4 : v4 = 8 * (N : Int) := by rw [hv4, w64_id (by omega) (by omega), hN]
  have t4 : v4.toNat = 8 * N := by omega
  refine ⟨by omega, by omega, by omega, fun x1 hx1 => ?_⟩
  subst hx1
  dsimp only
  rw [t4, hNN]
  refine ⟨g1, g2, g3, by omega, fun y1 hy v5 hv5 => ⟨⟨0, rfl, fun k hk => wpF_zero.symm, Nat.zero_le _⟩, fun j hj => ⟨fun hjn => ?_, fun hjn => ?_⟩⟩⟩
  · have hjn := of_decide_eq_true hjn
    have hjN : j < N := by omega
    obtain ⟨q1, q2⟩ := partN_ok (k := j) h (by omega)
    rw [hNN] at q1 q2
    refine ⟨by omega, by omega, by omega, by omega, fun s1 hs1 s2 hs2 v6 hv6 => ?_⟩
    have hs1 : s1 = partL d j N := hs1
    rw [← hs1] at q1 q2
    have hs2' := hs2
    rw [encL_of q1 q2] at hs2
    have hP : revL (parP s1) = parJ d N j := by rw [hs1]; rfl
    rw [hP] at hs2
    have lJ := parJ_len d N j
    have l1 : s1.length = partN d.length j N := by rw [hs1, partL_len]
    have l2 : s2.length = s1.length + 8 := by rw [hs2, List.length_append, lJ]
    refine ⟨⟨0, rfl, fun k hk => rfl, Nat.zero_le _⟩, fun p hp8 => ⟨fun hp => ?_, fun hp v8 hv8 => ?_⟩⟩
    · have hp := of_decide_eq_true hp
      have hpn : p * N ≤ 7 * N := Nat.mul_le_mul_right _ (by omega)
      intro v7 hv7 v8 hv8 v9 hv9 v10 hv10
      have hpI : (p : Int) * n = ((p * N : Nat) : Int) := by rw [← hN, Int.natCast_mul]
      have e7 : v7 = ((p * N : Nat) : Int) := by rw [hv7, hpI, w64_id (by omega) (by omega)]
      have e8 : v8 = ((p * N + j : Nat) : Int) := by rw [hv8, e7, w64_id (by omega) (by omega)]; omega
      have hv9 : v9 = (partN d.length j N : Nat) := hv9
      have e10 : v10 = ((s1.length + p : Nat) : Int) := by rw [hv10, hv9, w64_id (by omega) (by omega)]; omega
      have t8 : v8.toNat = p * N + j := by omega
      have t10 : v10.toNat = s1.length + p := by omega
      rw [t8, t10]
      refine ⟨by omega, by omega, by omega, by omega, by omega, fun v11 hv11 => ⟨p + 1, by rw [hv11, w64_id (by omega) (by omega)]; omega, fun k hk => ?_, by omega, by omega⟩⟩
      have hv : ((s2.getD (s1.length + p) 0).toNat : Int) = wF d N (p * N + j) := by
        have e1 : (p * N + j) % N = j := by rw [Nat.mul_comm, Nat.mul_add_mod, Nat.mod_eq_of_lt hjN]
        have e2 : (p * N + j) / N = p := by rw [Nat.mul_comm, Nat.mul_add_div (by omega), Nat.div_eq_of_lt hjN, Nat.add_zero]
        unfold wF
        rw [e1, e2, hs2]
        simp only [List.getD_eq_getElem?_getD]
        rw [List.getElem?_append_right (by omega), Nat.add_sub_cancel_left]
      rw [hv]
      exact wpF_put hjN
    · have hp := of_decide_eq_false hp
      have e8 : p = 8 := by omega
      subst e8
      refine ⟨j + 1, by rw [hv8, w64_id (by omega) (by omega)]; omega, fun k hk => wpF_next hk, by omega, by omega⟩
  · have hjn := of_decide_eq_false hjn
    have ej : j = N := by omega
    subst ej
    intro s2 hs2
    have l2 : s2.length = 8 * j := by rw [hs2]; simp [Byt.of]
    refine ⟨by omega, fun s3 hs3 => ?_⟩
    unfold wrapL wrapE
    rw [h, hs3, hs2, hNN]
    refine ⟨?_, rfl⟩
    show d ++ Byt.of _ _ = d ++ Byt.of _ _
    rw [show wpF d j j 0 = wF d j from funext fun k => wpF_end (by omega)]
end Galois
