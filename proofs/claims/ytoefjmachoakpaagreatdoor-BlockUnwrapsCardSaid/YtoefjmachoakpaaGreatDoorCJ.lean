/-
  OWN WORK. Block: Unwrap, with erased places.
-/
import Derived.Test.YtoefjmachoakpaaGreatDoorBF
namespace Galois
open Go Go.Proofs Eng
set_option linter.unusedVariables false
set_option linter.unusedSimpArgs false
set_option maxHeartbeats 8000000
set_option maxRecDepth 100000

abbrev aOutU : ArgL (RowD Int × ((Nat × Nat × List UInt8) × Unit) × Unit) := .cons (.row (.int .i64)) (.cons (.fnc 34 (.cons (.ptr 1 (.elt .str)) .nil)) .nil)
def outU := pcOf aOutU (fun _ => []) (fun x => .bool (!noneTo (outP x.1.f x.2.1.1.2.2.length) x.1.n))
def EUJ (x : OutX) : Env := (E0.inl 34 Tryz.f34 fun _ _ => []).inl 41 Tryz.f41 fun _ _ => [.lp 2 Nat [8] (fun i => [.int .i64 (i : Nat)]) (fun i => i ≤ x.1.n ∧ noneTo (outP x.1.f x.2.1.1.2.2.length) i = true) fun i => x.1.n - i]
theorem EUJ_ok (x : OutX) : EnvOk Tryz.prog (EUJ x) := (E0_ok.inl _ Tryz.func34 rfl (by kernel_rfl)).inl _ Tryz.func41 rfl (by kernel_rfl)
theorem outU_ok : PcOk Tryz.prog 17 outU := by
  refine pcOf_run EUJ_ok Tryz.func17 rfl (by kernel_rfl) (fun x => trivial)
    (fun x => []) (fun _ => Nat.le_of_ble_eq_true rfl) (fun ⟨⟨b, off, n, c, z, f⟩, ⟨⟨b0, o0, s⟩, ()⟩, ()⟩ hp hw => ?_)
  have hn : n ≤ c ∧ c ≤ 9223372036854775807 := (hw _ (List.mem_cons_self ..)).2
  refine vc_of (q :=
      ∀ (v1 : Int), v1 = (↑n : Int) → (∃ (x1 : Nat), (0 : Int) = (↑x1 : Int) ∧ x1 ≤ n ∧ noneTo (outP f (List.length s)) x1 = true) ∧ ∀ (b1 : Nat), b1 ≤ n ∧ noneTo (outP f (List.length s)) b1 = true → (decide ((↑b1 : Int) < v1) = true → (0 : Int) ≤ (↑b1 : Int) ∧ (↑b1 : Int) < (↑n : Int) ∧ (b = b ∧ off = off) ∧ b1 < n ∧ (decide (f b1 < (0 : Int)) = false → b0 = b0 ∧ o0 = o0) ∧ ∀ (v2 : Int), v2 =
      (↑(List.length s) : Int) → ∀ (t1 : Bool), (t1 = if decide (f b1 < (0 : Int)) = true then true else decide (f b1 ≥ v2)) → ∀ (t2 : Bool), t2 = t1 → (t2 = true → ∀ (v3 : Int), v3 = (↑b1 : Int) → decide (v3 ≥ (0 : Int)) = !noneTo (outP f (List.length s)) n) ∧ (t2 = false → ∀ (v4 : Int), v4 = IntKind.i64.wrap ((↑b1 : Int) + (1 : Int)) → ∃ (x2 : Nat), v4 = (↑x2 : Int) ∧ (x2 ≤ n ∧ noneTo (outP f
      (List.length s)) x2 = true) ∧ n - x2 < n - b1)) ∧ (decide ((↑b1 : Int) < v1) = false → ∀ (v3 : Int), v3 = (-1 : Int) → decide (v3 ≥ (0 : Int)) = !noneTo (outP f (List.length s)) n)) (by kernel_rfl) ?_
  try simp only [eq_self, true_and, and_true, Nat.le_refl, implies_true, forall_const, Bool.false_eq_true, Bool.true_eq_false, reduceCtorEq, false_imp_iff, true_imp_iff, Int.toNat_zero, Int.toNat_natCast, Nat.zero_lt_one, Int.le_refl, allGet]
  intro v1 h1
  subst h1
  refine ⟨⟨0, rfl, Nat.zero_le _, rfl⟩, ?_⟩
  rintro i ⟨hi, hs⟩
  refine ⟨fun hlt => ?_, fun hge v3 h3 => ?_⟩
  · have hlt := of_decide_eq_true hlt
    refine ⟨by omega, by omega, by omega, fun v2 h2 t1 ht1 t2 ht2 => ?_⟩
    subst h2 ht2
    have ht : t2 = outP f s.length i := by
      rw [ht1]
      unfold outP
      show (if decide (f i < 0) = true then true else decide (f i ≥ (s.length : Int))) = _
      cases decide (f i < 0) <;> rfl
    refine ⟨fun h v3 h3 => ?_, fun h v4 h4 => ⟨i + 1, h4.trans (l_succ (by omega)), ⟨by omega, ?_⟩, by omega⟩⟩
    · have h0 : noneTo (outP f s.length) n = false := by
        cases q : noneTo (outP f s.length) n with
        | false => rfl
        | true => have := noneTo_iff.1 q i (by omega); rw [← ht, h] at this; cases this
      rw [h0, h3]
      exact decide_eq_true (by omega)
    · simp only [noneTo, hs, Bool.true_and]
      rw [← ht, h]; rfl
  · have hge := of_decide_eq_false hge
    obtain rfl : i = n := by omega
    rw [hs, h3]; rfl
/-! ### Unwrap -/
/-- Unwrap's arguments are refused. -/
def u0B (b : List UInt8) (n : Int) : Bool := decide (n < 1) || decide (4 < n) || decide ((b.length : Int) < 9 * n) || decide (231 * n < (b.length : Int))
def uxB (b : List UInt8) (er : Nat → Int) (m : Nat) (n : Int) : Bool := u0B b n || !noneTo (outP er b.length) m
/-- The places of part j, of the first k that are told; A: how many bytes of data the part has. -/
def uP (er : Nat → Int) (M N A j : Nat) : Nat → List Int
  | 0 => []
  | k + 1 => if (er k).toNat < M then (if (er k).toNat % N = j then uP er M N A j k ++ [(((er k).toNat / N : Nat) : Int)] else uP er M N A j k)
    else (if ((er k).toNat - M) % N = j then uP er M N A j k ++ [((A + ((er k).toNat - M) / N : Nat) : Int)] else uP er M N A j k)
theorem uP_len (er : Nat → Int) (M N A j : Nat) : ∀ k, (uP er M N A j k).length ≤ k
  | 0 => Nat.le_refl _
  | k + 1 => by
    have ih := uP_len er M N A j k
    unfold uP
    split <;> split <;> first
      | (rw [List.length_append]; simp; exact ih)
      | omega
def uE (b : List UInt8) (er : Nat → Int) (m n j : Nat) : List Int := uP er (b.length - 8 * n) n (partN (b.length - 8 * n) j n) j m
/-- The word of part j. -/
def uW (b : List UInt8) (n j : Nat) : List UInt8 := partL (b.take (b.length - 8 * n)) j n ++ partL (b.drop (b.length - 8 * n)) j n
noncomputable def uxD (b : List UInt8) (er : Nat → Int) (m n j : Nat) : List UInt8 := decL (uW b n j) (gL (uE b er m n j)) (uE b er m n j).length
noncomputable def uxC (b : List UInt8) (er : Nat → Int) (m n j : Nat) : Int := if decE (uW b n j) (gL (uE b er m n j)) (uE b er m n j).length = 0 then decN (uW b n j) (gL (uE b er m n j)) (uE b er m n j).length else -1
/-- The bytes when j parts are done and p bytes of part j. -/
noncomputable def uxF (b : List UInt8) (er : Nat → Int) (m : Nat) (n j p k : Nat) : Int := if k % n < j ∨ (k % n = j ∧ k / n < p) then ((uxD b er m n (k % n)).getD (k / n) 0).toNat else 0
noncomputable def uxX (b : List UInt8) (er : Nat → Int) (m : Nat) (n : Nat) (k : Nat) : Int := ((uxD b er m n (k % n)).getD (k / n) 0).toNat
noncomputable def uxBad (b : List UInt8) (er : Nat → Int) (m : Nat) (n : Nat) : Bool := inB (uxC b er m n) n (-1)
noncomputable def uxL (b : List UInt8) (er : Nat → Int) (m : Nat) (n : Int) : List UInt8 := if uxB b er m n then [] else if uxBad b er m n.toNat then [] else Byt.of (uxX b er m n.toNat) (b.length - 8 * n.toNat)
noncomputable def uxE (b : List UInt8) (er : Nat → Int) (m : Nat) (n : Int) : Int := if uxB b er m n then 2 else if uxBad b er m n.toNat then 50 else 0
def uxN (b : List UInt8) (er : Nat → Int) (m : Nat) (n : Int) : Nat := if uxB b er m n then 0 else n.toNat
abbrev aUx : ArgL (List UInt8 × Int × RowD Int × Unit) := .cons (.elt .str) (.cons (.elt (.int .i64)) (.cons (.row (.int .i64)) .nil))
noncomputable abbrev cntE (g : Nat) (b : List UInt8) (er : Nat → Int) (m : Nat) (n : Int) (y : Nat × Nat × Nat) : Ent := ⟨g, y.1, y.2.1, 1, uxN b er m n, fun k => .int .i64 (uxC b er m n.toNat k), true, false, y.2.2, 3, Nat.beq (uxN b er m n) 0, none⟩
noncomputable abbrev uxR (x : List UInt8 × Int × RowD Int × Unit) : Nat := uxN x.1 x.2.2.1.f x.2.2.1.n x.2.1
noncomputable def unwrap := ecC aUx (fun x => [x.2.2.1.n ≤ 1000000]) (fun x (y : Nat × Nat × Nat) => uxR x ≤ y.2.2 ∧ y.2.2 ≤ 9223372036854775807 ∧ (uxR x = 0 → y.2.2 = 0))
  (fun x y => .tup [.str (uxL x.1 x.2.2.1.f x.2.2.1.n x.2.1), .slice 1 y.1 y.2.1 [] 1 0 (uxR x) y.2.2 (Nat.beq (uxR x) 0), .int .i64 (uxE x.1 x.2.2.1.f x.2.2.1.n x.2.1)]) (fun x y => [cntE 1 x.1 x.2.2.1.f x.2.2.1.n x.2.1 y]) 1
noncomputable def EBy : Env := ((((((EBW.addE 35 parts).addP 7 decode).addP 17 outU).addP 37 contains).inl 58 Tryz.f58 (growA 5 (.int .u8 0))).inl 36 Tryz.f36 concA)
theorem EBy_ok : EnvOk Tryz.prog EBy := (((((EBW_ok.addE parts_ok).addP decode_ok).addP outU_ok).addP contains_ok).inl _ Tryz.func58 rfl (by kernel_rfl)).inl _ Tryz.func36 rfl (by kernel_rfl)
noncomputable def unwrapA (b : List UInt8) (er : Nat → Int) (m : Nat) (n : Int) : List An :=
  [.draw 4 ((.take 0 (.take 1 (.take 2 (.take 3 (.take 5 (.take 6 (.take 7 (.take 8 (.br 4 (.br 9 (.take 10 (.take 11 .fin)) .stop) .stop)))))))))) [],
   .loopD 8 (fun fr H => ⟨8, Nat × Nat × Nat × Nat, [65, 13], fun y => [.int .i64 (y.1 : Nat), .slice 300 y.2.1 y.2.2.1 [] 1 0 y.1 y.2.2.2 (Nat.beq y.1 0)], [tagS (slotV fr 12)], fun y => [{ entG H (tagS (slotV fr 12)) with get := fun k => .int .u8 (uxF b er m n.toNat y.1 0 k) }, ⟨300, y.2.1, y.2.2.1, 1, y.1, fun k => .int .i64 (uxC b er m n.toNat k), true, false, y.2.2.2, 3, Nat.beq y.1 0, none⟩], fun y => y.1 ≤ n.toNat ∧ y.1 ≤ y.2.2.2 ∧ y.2.2.2 ≤ 9223372036854775807 ∧ (y.1 = 0 → y.2.2.2 = 0), fun y => n.toNat - y.1⟩),
   .loopD 12 (fun fr H => ⟨12, Nat × Nat × Nat × Nat, [70, 15], fun y => [.int .i64 (y.1 : Nat), .slice 301 y.2.1 y.2.2.1 [] 1 0 (uE b er y.1 n.toNat (intOf (slotV fr 14)).toNat).length y.2.2.2 (Nat.beq (uE b er y.1 n.toNat (intOf (slotV fr 14)).toNat).length 0)], [], fun y => [⟨301, y.2.1, y.2.2.1, 1, (uE b er y.1 n.toNat (intOf (slotV fr 14)).toNat).length, fun k => .int .i64 (gL (uE b er y.1 n.toNat (intOf (slotV fr 14)).toNat) k), true, false, y.2.2.2, 3, Nat.beq (uE b er y.1 n.toNat (intOf (slotV fr 14)).toNat).length 0, none⟩], fun y => y.1 ≤ m ∧ (uE b er y.1 n.toNat (intOf (slotV fr 14)).toNat).length ≤ y.2.2.2 ∧ y.2.2.2 ≤ 9223372036854775807 ∧ ((uE b er y.1 n.toNat (intOf (slotV fr 14)).toNat).length = 0 → y.2.2.2 = 0), fun y => m - y.1⟩),
   .draw 17 (.take 0 (.take 1 (.take 2 (.take 3 (.take 4 (.take 5 (.take 6 (.take 7 (.take 8 (.take 9 (.take 10 (.take 11 (.br 12 (.br 13 (.take 14 .fin) .stop) .stop))))))))))))) [15],
   .draw 19 ((.take 0 (.take 1 (.take 2 (.take 3 (.take 4 (.take 5 (.take 6 (.take 7 (.take 11 (.br 8 (.br 9 (.br 10 (.take 12 (.take 13 (.take 14 (.take 15 (.take 16 (.take 17 (.take 18 (.take 19 .fin)))))))) .stop) .stop) .stop))))))))))) [],
   .loopD 24 (fun fr H => ⟨24, Nat, [144], fun p => [.int .i64 (p : Nat)], [tagS (slotV fr 12)], fun p => [{ entG H (tagS (slotV fr 12)) with get := fun k => .int .u8 (uxF b er m n.toNat (intOf (slotV fr 14)).toNat p k) }], fun p => p ≤ (uxD b er m n.toNat (intOf (slotV fr 14)).toNat).length, fun p => (uxD b er m n.toNat (intOf (slotV fr 14)).toNat).length - p⟩)]
theorem decL_le (b : List UInt8) (er : Nat → Int) (n : Nat) : (decL b er n).length ≤ b.length - 8 := by
  unfold decL
  split
  · exact Nat.zero_le _
  · split
    · rw [List.length_take]; exact Nat.min_le_left _ _
    · exact Nat.zero_le _
theorem bof_app (f g : Nat → Int) (a b : Nat) : Byt.of (fun k => if k < a then f k else g (k - a)) (a + b) = Byt.of f a ++ Byt.of g b := by
  unfold Byt.of
  rw [List.range_add, List.map_append]
  congr 1
  · exact List.map_congr_left fun k hk => by
      show UInt8.ofNat (if k < a then f k else g (k - a)).toNat = _
      rw [if_pos (List.mem_range.1 hk)]
  · rw [List.map_map]
    exact List.map_congr_left fun k hk => by
      show UInt8.ofNat (if a + k < a then f (a + k) else g (a + k - a)).toNat = _
      rw [if_neg (by omega), Nat.add_sub_cancel_left]
theorem partN_8 {j n : Nat} (hj : j < n) : partN (8 * n) j n = 8 := by
  apply Nat.le_antisymm
  · apply Nat.le_of_not_lt
    intro q
    have := (partN_iff (by omega) 8).1 q
    omega
  · exact (partN_iff (by omega) 7).2 (by omega)
theorem uW_len {b : List UInt8} {n j : Nat} (hj : j < n) (h : 8 * n ≤ b.length) : (uW b n j).length = partN (b.length - 8 * n) j n + 8 := by
  unfold uW
  rw [List.length_append, partL_len, partL_len, List.length_take, List.length_drop, Nat.min_eq_left (Nat.sub_le _ _), Nat.sub_sub_self h, partN_8 hj]
theorem uxD_len {b : List UInt8} {er : Nat → Int} {m n j : Nat} (hj : j < n) (h : 8 * n ≤ b.length) : (uxD b er m n j).length ≤ partN (b.length - 8 * n) j n := by
  have := decL_le (uW b n j) (gL (uE b er m n j)) (uE b er m n j).length
  rw [uW_len hj h] at this
  exact this
theorem uxF_put {b : List UInt8} {er : Nat → Int} {m n j p k : Nat} (hj : j < n) : (if k = p * n + j then (((uxD b er m n j).getD p 0).toNat : Int) else uxF b er m n j p k) = uxF b er m n j (p + 1) k := by
  have e1 : (p * n + j) % n = j := by rw [Nat.mul_comm, Nat.mul_add_mod, Nat.mod_eq_of_lt hj]
  have e2 : (p * n + j) / n = p := by rw [Nat.mul_comm, Nat.mul_add_div (by omega), Nat.div_eq_of_lt hj, Nat.add_zero]
  unfold uxF
  by_cases h : k = p * n + j
  · subst h
    rw [if_pos rfl, e1, e2, if_pos (Or.inr ⟨rfl, by omega⟩)]
  · rw [if_neg h]
    by_cases q : k % n = j ∧ k / n = p
    · exfalso
      apply h
      have := Nat.div_add_mod k n
      rw [q.1, q.2, Nat.mul_comm] at this
      exact this.symm
    · have : (k % n < j ∨ (k % n = j ∧ k / n < p)) ↔ (k % n < j ∨ (k % n = j ∧ k / n < p + 1)) := by
        constructor
        · rintro (a | ⟨a, b⟩)
          · exact Or.inl a
          · exact Or.inr ⟨a, by omega⟩
        · rintro (a | ⟨a, b⟩)
          · exact Or.inl a
          · refine Or.inr ⟨a, ?_⟩
            by_cases c : k / n = p
            · exact (q ⟨a, c⟩).elim
            · omega
      simp only [this]
theorem uxF_next {b : List UInt8} {er : Nat → Int} {m n j p k : Nat} (hp : (uxD b er m n j).length ≤ p) : uxF b er m n j p k = uxF b er m n (j + 1) 0 k := by
  unfold uxF
  by_cases c : k % n = j
  · rw [c]
    by_cases q : k / n < p
    · rw [if_pos (Or.inr ⟨rfl, q⟩), if_pos (Or.inl (Nat.lt_succ_self _))]
    · rw [if_neg (fun h => h.elim (fun a => Nat.lt_irrefl _ a) (fun a => q a.2)), if_pos (Or.inl (Nat.lt_succ_self _))]
      rw [List.getD_eq_getElem?_getD, List.getElem?_eq_none (by omega)]
      rfl
  · by_cases q : k % n < j
    · rw [if_pos (Or.inl q), if_pos (Or.inl (by omega))]
    · rw [if_neg (fun h => h.elim (fun a => q a) (fun a => c a.1)), if_neg (fun h => h.elim (fun a => by omega) (fun a => Nat.not_lt_zero _ a.2))]
theorem uxF_end {b : List UInt8} {er : Nat → Int} {m n k : Nat} (hn : 0 < n) : uxF b er m n n 0 k = uxX b er m n k := by
  unfold uxF
  rw [if_pos (Or.inl (Nat.mod_lt _ hn))]
  rfl
theorem uxF_zero {b : List UInt8} {er : Nat → Int} {m n k : Nat} : uxF b er m n 0 0 k = 0 := by
  unfold uxF
  rw [if_neg]
  rintro (a | ⟨a, b⟩)
  · exact Nat.not_lt_zero _ a
  · exact Nat.not_lt_zero _ b
theorem uxB_false {b : List UInt8} {er : Nat → Int} {m : Nat} {n : Int} (h : uxB b er m n = false) : 1 ≤ n ∧ n ≤ 4 ∧ 9 * n ≤ b.length ∧ b.length ≤ 231 * n ∧ ∀ k, k < m → 0 ≤ er k ∧ er k < (b.length : Int) := by
  unfold uxB u0B at h
  simp only [Bool.or_eq_false_iff, decide_eq_false_iff_not, Bool.not_eq_false'] at h
  obtain ⟨⟨⟨⟨a1, a2⟩, a3⟩, a4⟩, a5⟩ := h
  refine ⟨by omega, by omega, by omega, by omega, fun k hk => ?_⟩
  have := noneTo_iff.1 a5 k hk
  unfold outP at this
  simp only [Bool.or_eq_false_iff, decide_eq_false_iff_not] at this
  omega
theorem u0B_eq {b : List UInt8} {n v1 v2 v3 v4 : Int} {t1 t2 t3 : Bool} (ht1 : t1 = if decide (n < 1) = true then true else decide (n > 4)) (h1 : v1 = b.length) (h2 : v2 = IntKind.i64.wrap (9 * n)) (ht2 : t2 = if t1 = true then true else decide (v1 < v2))
    (h3 : v3 = b.length) (h4 : v4 = IntKind.i64.wrap (231 * n)) (ht3 : t3 = if t2 = true then true else decide (v3 > v4)) : t3 = u0B b n := by
  unfold u0B
  cases a : decide (n < 1) with
  | true => rw [a, if_pos rfl] at ht1; rw [ht1, if_pos rfl] at ht2; rw [ht2, if_pos rfl] at ht3; rw [ht3]; rfl
  | false =>
    rw [a, if_neg (by decide)] at ht1
    have ht1 : t1 = decide (4 < n) := ht1
    cases c : decide (4 < n) with
    | true => rw [ht1, c, if_pos rfl] at ht2; rw [ht2, if_pos rfl] at ht3; rw [ht3]; rfl
    | false =>
      have a := of_decide_eq_false a
      have c' := of_decide_eq_false c
      rw [ht1, c, if_neg (by decide), h1, h2, w64_id (by omega) (by omega)] at ht2
      rw [h3, h4, w64_id (by omega) (by omega)] at ht3
      rw [ht3, ht2]
      cases decide ((b.length : Int) < 9 * n) <;> rfl
theorem unwrap_ok : EcOk Tryz.prog 12 unwrap := by
  refine ecC_run (fun _ => EBy_ok) Tryz.func12 rfl (by kernel_rfl) [] (fun x => unwrapA x.1 x.2.2.1.f x.2.2.1.n x.2.1) (fun _ => Nat.le_of_ble_eq_true rfl) (fun ⟨b, n, ⟨eb, eo, m, c, z, er⟩, ()⟩ hp hw => ?_)
  have p1 : m ≤ 1000000 := hp.1
  have hmc : m ≤ c ∧ c ≤ 9223372036854775807 := (hw _ (List.mem_cons_of_mem _ (List.mem_cons_of_mem _ (List.mem_cons_self ..)))).2
  refine vc_of (q :=
      ∀ (b1 : Nat) (t1 : Bool), (t1 = if decide (n < (1 : Int)) = true then true else decide (n > (4 : Int))) → (t1 = false → b1 = b1 ∧ 0 = 0) ∧ ∀ (v1 : Int), v1 = (↑(List.length b) : Int) → ∀ (v2 : Int), v2 = IntKind.i64.wrap ((9 : Int) * n) → ∀ (t2 : Bool), (t2 = if t1 = true then true else decide (v1 < v2)) → (t2 = false → b1 = b1 ∧ 0 = 0) ∧ ∀ (v3 : Int), v3 = (↑(List.length b) : Int) → ∀ (v4 : Int),
      v4 = IntKind.i64.wrap ((231 : Int) * n) → ∀ (t3 : Bool), (t3 = if t2 = true then true else decide (v3 > v4)) → (t3 = false → m ≤ m) ∧ (t3 = false → ∀ (k1 : Nat), k1 < m → true = true) ∧ (t3 = false → eb = eb ∧ eo = eo) ∧ (t3 = false → b1 = b1 ∧ 0 = 0) ∧ ∀ (t4 : Bool), t4 = !noneTo (outP er (List.length b)) m → ∀ (t5 : Bool), (t5 = if t3 = true then true else t4) → (t5 = true → ∃ (x1 : Nat × Nat ×
      Nat), ([] = uxL b er m n ∧ SVeq (SV.slice 999999 0 0 [] 0 0 0 0 true) (SV.slice 1 x1.1 x1.2.1 [] 1 0 (uxN b er m n) x1.2.2 (Nat.beq (uxN b er m n) 0)) ∧ (2 : Int) = uxE b er m n) ∧ (Nat.beq (uxN b er m n) 0 = true ∧ uxN b er m n = 0 ∧ x1.2.2 = 0) ∧ uxN b er m n ≤ x1.2.2 ∧ x1.2.2 ≤ 9223372036854775807 ∧ (uxN b er m n = 0 → x1.2.2 = 0)) ∧ (t5 = false → (b1 = b1 ∧ 0 = 0) ∧ ∀ (v5 : Int), v5 =
      (↑(List.length b) : Int) → ∀ (v6 : Int), v6 = IntKind.i64.wrap ((8 : Int) * n) → ∀ (v7 : Int), v7 = IntKind.i64.wrap (v5 - v6) → (b1 = b1 ∧ 0 = 0) ∧ 0 ≤ v7 ∧ v7 ≤ (↑(List.length b) : Int) ∧ (0 : Int) ≤ (0 : Int) ∧ 0 ≤ v7 ∧ (b1 = b1 ∧ 0 = 0) ∧ (0 : Int) ≤ (↑(List.length b) : Int) ∧ (↑(List.length b) : Int) ≤ (↑(List.length b) : Int) ∧ 0 ≤ v7 ∧ v7 ≤ (↑(List.length b) : Int) ∧ (∀ (x'1 : List UInt8 ×
      Int × Unit), x'1 = (List.drop (Int.toNat (0 : Int)) (List.take (Int.toNat v7) b), n, ()) → (1 : Int) ≤ (Prod.snd x'1).1 ∧ (Prod.snd x'1).1 ≤ (4 : Int) ∧ (Prod.snd x'1).1 ≤ (↑(List.length (Prod.fst x'1)) : Int) ∧ List.length (Prod.fst x'1) ≤ 100000 ∧ ∀ (y1 : (Nat × Nat) × (Nat → Nat × Nat × Nat)), (∀ (k : Nat), k < Int.toNat ((Prod.snd x'1).1) → partN (List.length (Prod.fst x'1)) k (Int.toNat
      ((Prod.snd x'1).1)) ≤ ((y1.2 k).2.2) ∧ ((y1.2 k).2.2) ≤ 9223372036854775807) → (∀ (x'2 : List UInt8 × Int × Unit), x'2 = (List.drop (Int.toNat v7) (List.take (List.length b) b), n, ()) → (1 : Int) ≤ (Prod.snd x'2).1 ∧ (Prod.snd x'2).1 ≤ (4 : Int) ∧ (Prod.snd x'2).1 ≤ (↑(List.length (Prod.fst x'2)) : Int) ∧ List.length (Prod.fst x'2) ≤ 100000 ∧ ∀ (y2 : (Nat × Nat) × (Nat → Nat × Nat × Nat)), (∀ (k :
      Nat), k < Int.toNat ((Prod.snd x'2).1) → partN (List.length (Prod.fst x'2)) k (Int.toNat ((Prod.snd x'2).1)) ≤ ((y2.2 k).2.2) ∧ ((y2.2 k).2.2) ≤ 9223372036854775807) → 0 ≤ v7 ∧ v7 ≤ v7 ∧ v7 * (↑(1 : Nat) : Int) ≤ (140737488355328 : Int) ∧ v7 ≤ 9223372036854775807 ∧ ∀ (b2 : Nat), (∃ (x2 : Nat × Nat × Nat × Nat), (0 : Int) = (↑x2.1 : Int) ∧ SVeq (SV.slice 999999 0 0 [] 0 0 0 0 true) (SV.slice 300
      x2.2.1 x2.2.2.1 [] 1 0 x2.1 x2.2.2.2 (Nat.beq x2.1 0)) ∧ ((b2 = b2 ∧ 0 = 0 ∧ false = false ∧ Int.toNat v7 ≤ Int.toNat v7 ∧ Int.toNat v7 ≤ Int.toNat v7 ∧ Int.toNat v7 ≤ Int.toNat v7) ∧ ∀ (i1 : Nat), i1 < Int.toNat v7 → (0 : Int) = uxF b er m (Int.toNat n) x2.1 0 i1) ∧ (Nat.beq x2.1 0 = true ∧ x2.1 = 0 ∧ x2.2.2.2 = 0) ∧ x2.1 ≤ Int.toNat n ∧ x2.1 ≤ x2.2.2.2 ∧ x2.2.2.2 ≤ 9223372036854775807 ∧ (x2.1 = 0
      → x2.2.2.2 = 0)) ∧ ∀ (x3 : Nat × Nat × Nat × Nat), x3.1 ≤ Int.toNat n ∧ x3.1 ≤ x3.2.2.2 ∧ x3.2.2.2 ≤ 9223372036854775807 ∧ (x3.1 = 0 → x3.2.2.2 = 0) → (decide ((↑x3.1 : Int) < n) = true → ∀ (v8 : Int), v8 = (↑m : Int) → (∃ (x4 : Nat × Nat × Nat × Nat), (0 : Int) = (↑x4.1 : Int) ∧ SVeq (SV.slice 999999 0 0 [] 0 0 0 0 true) (SV.slice 301 x4.2.1 x4.2.2.1 [] 1 0 (List.length (uE b er x4.1 (Int.toNat n)
      x3.1)) x4.2.2.2 (Nat.beq (List.length (uE b er x4.1 (Int.toNat n) x3.1)) 0)) ∧ (Nat.beq (List.length (uE b er x4.1 (Int.toNat n) x3.1)) 0 = true ∧ List.length (uE b er x4.1 (Int.toNat n) x3.1) = 0 ∧ x4.2.2.2 = 0) ∧ x4.1 ≤ m ∧ List.length (uE b er x4.1 (Int.toNat n) x3.1) ≤ x4.2.2.2 ∧ x4.2.2.2 ≤ 9223372036854775807 ∧ (List.length (uE b er x4.1 (Int.toNat n) x3.1) = 0 → x4.2.2.2 = 0)) ∧ ∀ (x5 : Nat ×
      Nat × Nat × Nat), x5.1 ≤ m ∧ List.length (uE b er x5.1 (Int.toNat n) x3.1) ≤ x5.2.2.2 ∧ x5.2.2.2 ≤ 9223372036854775807 ∧ (List.length (uE b er x5.1 (Int.toNat n) x3.1) = 0 → x5.2.2.2 = 0) → (decide ((↑x5.1 : Int) < v8) = true → (0 : Int) ≤ (↑x5.1 : Int) ∧ (↑x5.1 : Int) < (↑m : Int) ∧ (eb = eb ∧ eo = eo) ∧ Int.toNat (↑x5.1 : Int) < m ∧ (decide (er x5.1 < v7) = true → n ≠ (0 : Int)) ∧ ∀ (v9 : Int),
      v9 = Int.tmod (er x5.1) n → ∀ (t6 : Bool), (t6 = if decide (er x5.1 < v7) = true then v9 == (↑x3.1 : Int) else false) → (t6 = true → n ≠ (0 : Int) ∧ ∀ (v10 : Int), v10 = IntKind.i64.wrap (Int.tdiv (er x5.1) n) → ∀ (b3 : Nat), (x5.2.1 = x5.2.1 ∧ x5.2.2.1 = x5.2.2.1) ∧ (Nat.beq (List.length (uE b er x5.1 (Int.toNat n) x3.1)) 0 = true → Nat.beq (List.length (uE b er x5.1 (Int.toNat n) x3.1)) 0 = true)
      ∧ 0 = 0 ∧ List.length (uE b er x5.1 (Int.toNat n) x3.1) ≤ List.length (uE b er x5.1 (Int.toNat n) x3.1) ∧ x5.2.2.2 ≤ x5.2.2.2 ∧ (List.length (uE b er x5.1 (Int.toNat n) x3.1) + 1) * 8 ≤ 140737488355328 ∧ List.length (uE b er x5.1 (Int.toNat n) x3.1) + 1 ≤ 9223372036854775807 ∧ 1 ≤ 1 ∧ (b3 = b3 ∧ 0 = 0) ∧ ∀ (b4 b5 b6 : Nat), List.length (uE b er x5.1 (Int.toNat n) x3.1) + 1 ≤ b6 → b6 ≤
      9223372036854775807 → (Nat.beq (List.length (uE b er x5.1 (Int.toNat n) x3.1)) 0 = true → 1 = 0 → b6 = 0) → ∀ (v11 : Int), v11 = IntKind.i64.wrap ((↑x5.1 : Int) + (1 : Int)) → ∃ (x6 : Nat × Nat × Nat × Nat), v11 = (↑x6.1 : Int) ∧ (b4 = x6.2.1 ∧ b5 = x6.2.2.1 ∧ 0 = 0 ∧ List.length (uE b er x5.1 (Int.toNat n) x3.1) + 1 = List.length (uE b er x6.1 (Int.toNat n) x3.1) ∧ b6 = x6.2.2.2 ∧ (Nat.beq
      (List.length (uE b er x5.1 (Int.toNat n) x3.1)) 0 && decide (1 = 0)) = Nat.beq (List.length (uE b er x6.1 (Int.toNat n) x3.1)) 0) ∧ ((b4 = x6.2.1 ∧ b5 = x6.2.2.1 ∧ (Nat.beq (List.length (uE b er x5.1 (Int.toNat n) x3.1)) 0 && decide (1 = 0)) = Nat.beq (List.length (uE b er x6.1 (Int.toNat n) x3.1)) 0 ∧ List.length (uE b er x6.1 (Int.toNat n) x3.1) ≤ List.length (uE b er x5.1 (Int.toNat n) x3.1) + 1
      ∧ List.length (uE b er x6.1 (Int.toNat n) x3.1) ≤ x6.2.2.2 ∧ x6.2.2.2 ≤ b6) ∧ ∀ (i2 : Nat), i2 < List.length (uE b er x6.1 (Int.toNat n) x3.1) → (if i2 < List.length (uE b er x5.1 (Int.toNat n) x3.1) then gL (uE b er x5.1 (Int.toNat n) x3.1) i2 else v10) = gL (uE b er x6.1 (Int.toNat n) x3.1) i2) ∧ (x6.1 ≤ m ∧ List.length (uE b er x6.1 (Int.toNat n) x3.1) ≤ x6.2.2.2 ∧ x6.2.2.2 ≤ 9223372036854775807
      ∧ (List.length (uE b er x6.1 (Int.toNat n) x3.1) = 0 → x6.2.2.2 = 0)) ∧ m - x6.1 < m - x5.1) ∧ (t6 = false → ∀ (v11 : Int), v11 = IntKind.i64.wrap (er x5.1 - v7) → (decide (er x5.1 ≥ v7) = true → n ≠ (0 : Int)) ∧ ∀ (v12 : Int), v12 = Int.tmod v11 n → ∀ (t7 : Bool), (t7 = if decide (er x5.1 ≥ v7) = true then v12 == (↑x3.1 : Int) else false) → (t7 = true → (0 : Int) ≤ (↑x3.1 : Int) ∧ (↑x3.1 : Int) <
      (↑(Int.toNat ((Prod.snd x'1).1)) : Int) ∧ (y1.1.1 = y1.1.1 ∧ y1.1.2 = y1.1.2) ∧ Int.toNat (↑x3.1 : Int) < Int.toNat ((Prod.snd x'1).1) ∧ ∀ (v13 : Int), v13 = (↑(partN (List.length (Prod.fst x'1)) x3.1 (Int.toNat ((Prod.snd x'1).1))) : Int) → ∀ (v14 : Int), v14 = IntKind.i64.wrap (er x5.1 - v7) → n ≠ (0 : Int) ∧ ∀ (v15 : Int), v15 = IntKind.i64.wrap (Int.tdiv v14 n) → ∀ (v16 : Int), v16 =
      IntKind.i64.wrap (v13 + v15) → (∀ (b3 : Nat), ((x5.2.1 = x5.2.1 ∧ x5.2.2.1 = x5.2.2.1) ∧ (Nat.beq (List.length (uE b er x5.1 (Int.toNat n) x3.1)) 0 = true → Nat.beq (List.length (uE b er x5.1 (Int.toNat n) x3.1)) 0 = true) ∧ 0 = 0 ∧ List.length (uE b er x5.1 (Int.toNat n) x3.1) ≤ List.length (uE b er x5.1 (Int.toNat n) x3.1) ∧ x5.2.2.2 ≤ x5.2.2.2 ∧ (List.length (uE b er x5.1 (Int.toNat n) x3.1) +
      1) * 8 ≤ 140737488355328 ∧ List.length (uE b er x5.1 (Int.toNat n) x3.1) + 1 ≤ 9223372036854775807 ∧ 1 ≤ 1 ∧ (b3 = b3 ∧ 0 = 0) ∧ ∀ (b4 b5 b6 : Nat), List.length (uE b er x5.1 (Int.toNat n) x3.1) + 1 ≤ b6 → b6 ≤ 9223372036854775807 → (Nat.beq (List.length (uE b er x5.1 (Int.toNat n) x3.1)) 0 = true → 1 = 0 → b6 = 0) → ∀ (v17 : Int), v17 = IntKind.i64.wrap ((↑x5.1 : Int) + (1 : Int)) → ∃ (x6 : Nat ×
      Nat × Nat × Nat), v17 = (↑x6.1 : Int) ∧ (b4 = x6.2.1 ∧ b5 = x6.2.2.1 ∧ 0 = 0 ∧ List.length (uE b er x5.1 (Int.toNat n) x3.1) + 1 = List.length (uE b er x6.1 (Int.toNat n) x3.1) ∧ b6 = x6.2.2.2 ∧ (Nat.beq (List.length (uE b er x5.1 (Int.toNat n) x3.1)) 0 && decide (1 = 0)) = Nat.beq (List.length (uE b er x6.1 (Int.toNat n) x3.1)) 0) ∧ ((b4 = x6.2.1 ∧ b5 = x6.2.2.1 ∧ (Nat.beq (List.length (uE b er
      x5.1 (Int.toNat n) x3.1)) 0 && decide (1 = 0)) = Nat.beq (List.length (uE b er x6.1 (Int.toNat n) x3.1)) 0 ∧ List.length (uE b er x6.1 (Int.toNat n) x3.1) ≤ List.length (uE b er x5.1 (Int.toNat n) x3.1) + 1 ∧ List.length (uE b er x6.1 (Int.toNat n) x3.1) ≤ x6.2.2.2 ∧ x6.2.2.2 ≤ b6) ∧ ∀ (i2 : Nat), i2 < List.length (uE b er x6.1 (Int.toNat n) x3.1) → (if i2 < List.length (uE b er x5.1 (Int.toNat n)
      x3.1) then gL (uE b er x5.1 (Int.toNat n) x3.1) i2 else v16) = gL (uE b er x6.1 (Int.toNat n) x3.1) i2) ∧ (x6.1 ≤ m ∧ List.length (uE b er x6.1 (Int.toNat n) x3.1) ≤ x6.2.2.2 ∧ x6.2.2.2 ≤ 9223372036854775807 ∧ (List.length (uE b er x6.1 (Int.toNat n) x3.1) = 0 → x6.2.2.2 = 0)) ∧ m - x6.1 < m - x5.1) ∧ True) ∧ True) ∧ (t7 = false → ∀ (v14 : Int), v14 = IntKind.i64.wrap ((↑x5.1 : Int) + (1 : Int)) →
      ∃ (x6 : Nat × Nat × Nat × Nat), v14 = (↑x6.1 : Int) ∧ (x5.2.1 = x6.2.1 ∧ x5.2.2.1 = x6.2.2.1 ∧ 0 = 0 ∧ List.length (uE b er x5.1 (Int.toNat n) x3.1) = List.length (uE b er x6.1 (Int.toNat n) x3.1) ∧ x5.2.2.2 = x6.2.2.2 ∧ Nat.beq (List.length (uE b er x5.1 (Int.toNat n) x3.1)) 0 = Nat.beq (List.length (uE b er x6.1 (Int.toNat n) x3.1)) 0) ∧ ((x5.2.1 = x6.2.1 ∧ x5.2.2.1 = x6.2.2.1 ∧ Nat.beq
      (List.length (uE b er x5.1 (Int.toNat n) x3.1)) 0 = Nat.beq (List.length (uE b er x6.1 (Int.toNat n) x3.1)) 0 ∧ List.length (uE b er x6.1 (Int.toNat n) x3.1) ≤ List.length (uE b er x5.1 (Int.toNat n) x3.1) ∧ List.length (uE b er x6.1 (Int.toNat n) x3.1) ≤ x6.2.2.2 ∧ x6.2.2.2 ≤ x5.2.2.2) ∧ ∀ (i2 : Nat), i2 < List.length (uE b er x6.1 (Int.toNat n) x3.1) → gL (uE b er x5.1 (Int.toNat n) x3.1) i2 = gL
      (uE b er x6.1 (Int.toNat n) x3.1) i2) ∧ (x6.1 ≤ m ∧ List.length (uE b er x6.1 (Int.toNat n) x3.1) ≤ x6.2.2.2 ∧ x6.2.2.2 ≤ 9223372036854775807 ∧ (List.length (uE b er x6.1 (Int.toNat n) x3.1) = 0 → x6.2.2.2 = 0)) ∧ m - x6.1 < m - x5.1))) ∧ (decide ((↑x5.1 : Int) < v8) = false → (0 : Int) ≤ (↑x3.1 : Int) ∧ (↑x3.1 : Int) < (↑(Int.toNat ((Prod.snd x'1).1)) : Int) ∧ (y1.1.1 = y1.1.1 ∧ y1.1.2 = y1.1.2) ∧
      Int.toNat (↑x3.1 : Int) < Int.toNat ((Prod.snd x'1).1) ∧ (0 : Int) ≤ (↑x3.1 : Int) ∧ (↑x3.1 : Int) < (↑(Int.toNat ((Prod.snd x'2).1)) : Int) ∧ (y2.1.1 = y2.1.1 ∧ y2.1.2 = y2.1.2) ∧ Int.toNat (↑x3.1 : Int) < Int.toNat ((Prod.snd x'2).1) ∧ (∀ (b3 : Nat), ((0 : Int) ≤ (0 : Int) ∧ (0 : Int) < (↑(2 : Nat) : Int) ∧ (b3 = b3 ∧ 0 = 0) ∧ 0 < 2 ∧ ∀ (v10 : Int), v10 = (↑(partN (List.length (Prod.fst x'1))
      x3.1 (Int.toNat ((Prod.snd x'1).1))) : Int) → ∀ (v11 : Int), v11 = IntKind.i64.wrap ((0 : Int) + v10) → (decide (v11 < (0 : Int)) = true → False) ∧ (decide (v11 < (0 : Int)) = false → (0 : Int) ≤ IntKind.i64.wrap ((0 : Int) + (1 : Int)) ∧ IntKind.i64.wrap ((0 : Int) + (1 : Int)) < (↑(2 : Nat) : Int) ∧ (b3 = b3 ∧ 0 = 0) ∧ 1 < 2 ∧ ∀ (v12 : Int), v12 = (↑(partN (List.length (Prod.fst x'2)) x3.1
      (Int.toNat ((Prod.snd x'2).1))) : Int) → ∀ (v13 : Int), v13 = IntKind.i64.wrap (v11 + v12) → (decide (v13 < (0 : Int)) = true → False) ∧ (decide (v13 < (0 : Int)) = false → (decide (v13 < (0 : Int)) = true → False) ∧ (decide (v13 < (0 : Int)) = false → (∀ (v14 : Int), v14 = (↑(0 : Nat) : Int) → ∀ (v15 : Int), v15 = (↑(0 : Nat) : Int) → ∀ (v16 : Int), v16 = IntKind.i64.wrap (v14 - v15) → ∀ (v17 :
      Int), v17 = IntKind.i64.wrap (v13 - v16) → (decide (v17 > (0 : Int)) = true → ∀ (v18 : Int), v18 = (↑(0 : Nat) : Int) → 0 ≤ v18 ∧ v18 ≤ (↑(0 : Nat) : Int) ∧ true = true ∧ Int.toNat v17 * 1 ≤ 140737488355328 ∧ Int.toNat v17 ≤ 9223372036854775807 ∧ 0 ≤ v17 ∧ v17 ≤ 9223372036854775807 ∧ ∀ (b4 b5 : Nat), Int.toNat v17 ≤ b5 → b5 ≤ 9223372036854775807 → (Int.toNat v17 = 0 → b5 = 0) → ∀ (v19 : Int), v19 =
      (↑(0 : Nat) : Int) → 0 ≤ v19 ∧ v19 ≤ (↑b5 : Int) ∧ ∃ (x6 : Nat × Nat × Nat), (b4 = x6.1 ∧ 0 = x6.2.1 ∧ 0 = 0 ∧ Int.toNat v19 = 0 ∧ b5 = x6.2.2 ∧ decide (Int.toNat v17 = 0) = decide (v13 ≤ (0 : Int))) ∧ ((b4 = x6.1 ∧ 0 = x6.2.1 ∧ decide (Int.toNat v17 = 0) = decide (v13 ≤ (0 : Int)) ∧ 0 ≤ Int.toNat v17 ∧ 0 ≤ x6.2.2 ∧ x6.2.2 ≤ b5) ∧ ∀ (i2 : Nat), i2 < 0 → (0 : Int) = (0 : Int)) ∧ v13 ≤ (↑x6.2.2 :
      Int) ∧ x6.2.2 ≤ 9223372036854775807 ∧ (v13 ≤ (0 : Int) → x6.2.2 = 0)) ∧ (decide (v17 > (0 : Int)) = false → ∃ (x6 : Nat × Nat × Nat), SVeq (SV.slice 999999 0 0 [] 0 0 0 0 true) (SV.slice 400 x6.1 x6.2.1 [] 1 0 0 x6.2.2 (decide (v13 ≤ (0 : Int)))) ∧ (decide (v13 ≤ (0 : Int)) = true ∧ 0 = 0 ∧ x6.2.2 = 0) ∧ v13 ≤ (↑x6.2.2 : Int) ∧ x6.2.2 ≤ 9223372036854775807 ∧ (v13 ≤ (0 : Int) → x6.2.2 = 0))) ∧ ∀ (x6
      : Nat × Nat × Nat), v13 ≤ (↑x6.2.2 : Int) ∧ x6.2.2 ≤ 9223372036854775807 ∧ (v13 ≤ (0 : Int) → x6.2.2 = 0) → (0 : Int) ≤ (0 : Int) ∧ (0 : Int) < (↑(2 : Nat) : Int) ∧ (b3 = b3 ∧ 0 = 0) ∧ 0 < 2 ∧ (x6.1 = x6.1 ∧ x6.2.1 = x6.2.1) ∧ (decide (v13 ≤ (0 : Int)) = true → decide (v13 ≤ (0 : Int)) = true) ∧ 0 = 0 ∧ 0 ≤ 0 ∧ x6.2.2 ≤ x6.2.2 ∧ (0 + partN (List.length (Prod.fst x'1)) x3.1 (Int.toNat ((Prod.snd
      x'1).1))) * 1 ≤ 140737488355328 ∧ 0 + partN (List.length (Prod.fst x'1)) x3.1 (Int.toNat ((Prod.snd x'1).1)) ≤ 9223372036854775807 ∧ partN (List.length (Prod.fst x'1)) x3.1 (Int.toNat ((Prod.snd x'1).1)) ≤ partN (List.length (Prod.fst x'1)) x3.1 (Int.toNat ((Prod.snd x'1).1)) ∧ ((y1.2 x3.1).1, ((y1.2 x3.1).2).1) = ((y1.2 x3.1).1, ((y1.2 x3.1).2).1) ∧ Int.toNat (↑x3.1 : Int) < Int.toNat ((Prod.snd
      x'1).1) ∧ ∀ (b4 b5 b6 : Nat), 0 + partN (List.length (Prod.fst x'1)) x3.1 (Int.toNat ((Prod.snd x'1).1)) ≤ b6 → b6 ≤ 9223372036854775807 → (decide (v13 ≤ (0 : Int)) = true → partN (List.length (Prod.fst x'1)) x3.1 (Int.toNat ((Prod.snd x'1).1)) = 0 → b6 = 0) → (0 : Int) ≤ IntKind.i64.wrap ((0 : Int) + (1 : Int)) ∧ IntKind.i64.wrap ((0 : Int) + (1 : Int)) < (↑(2 : Nat) : Int) ∧ (b3 = b3 ∧ 0 = 0) ∧ 1
      < 2 ∧ (b4 = b4 ∧ b5 = b5) ∧ ((decide (v13 ≤ (0 : Int)) && decide (partN (List.length (Prod.fst x'1)) x3.1 (Int.toNat ((Prod.snd x'1).1)) = 0)) = true → (decide (v13 ≤ (0 : Int)) && decide (partN (List.length (Prod.fst x'1)) x3.1 (Int.toNat ((Prod.snd x'1).1)) = 0)) = true) ∧ 0 = 0 ∧ 0 + partN (List.length (Prod.fst x'1)) x3.1 (Int.toNat ((Prod.snd x'1).1)) ≤ 0 + partN (List.length (Prod.fst x'1))
      x3.1 (Int.toNat ((Prod.snd x'1).1)) ∧ b6 ≤ b6 ∧ (0 + partN (List.length (Prod.fst x'1)) x3.1 (Int.toNat ((Prod.snd x'1).1)) + partN (List.length (Prod.fst x'2)) x3.1 (Int.toNat ((Prod.snd x'2).1))) * 1 ≤ 140737488355328 ∧ 0 + partN (List.length (Prod.fst x'1)) x3.1 (Int.toNat ((Prod.snd x'1).1)) + partN (List.length (Prod.fst x'2)) x3.1 (Int.toNat ((Prod.snd x'2).1)) ≤ 9223372036854775807 ∧ partN
      (List.length (Prod.fst x'2)) x3.1 (Int.toNat ((Prod.snd x'2).1)) ≤ partN (List.length (Prod.fst x'2)) x3.1 (Int.toNat ((Prod.snd x'2).1)) ∧ ((y2.2 x3.1).1, ((y2.2 x3.1).2).1) = ((y2.2 x3.1).1, ((y2.2 x3.1).2).1) ∧ Int.toNat (↑x3.1 : Int) < Int.toNat ((Prod.snd x'2).1) ∧ ∀ (b7 b8 b9 : Nat), 0 + partN (List.length (Prod.fst x'1)) x3.1 (Int.toNat ((Prod.snd x'1).1)) + partN (List.length (Prod.fst
      x'2)) x3.1 (Int.toNat ((Prod.snd x'2).1)) ≤ b9 → b9 ≤ 9223372036854775807 → ((decide (v13 ≤ (0 : Int)) && decide (partN (List.length (Prod.fst x'1)) x3.1 (Int.toNat ((Prod.snd x'1).1)) = 0)) = true → partN (List.length (Prod.fst x'2)) x3.1 (Int.toNat ((Prod.snd x'2).1)) = 0 → b9 = 0) → (0 + partN (List.length (Prod.fst x'1)) x3.1 (Int.toNat ((Prod.snd x'1).1)) + partN (List.length (Prod.fst x'2))
      x3.1 (Int.toNat ((Prod.snd x'2).1)) ≤ 0 + partN (List.length (Prod.fst x'1)) x3.1 (Int.toNat ((Prod.snd x'1).1)) + partN (List.length (Prod.fst x'2)) x3.1 (Int.toNat ((Prod.snd x'2).1)) ∧ (∀ (k2 : Nat), k2 < 0 + partN (List.length (Prod.fst x'1)) x3.1 (Int.toNat ((Prod.snd x'1).1)) + partN (List.length (Prod.fst x'2)) x3.1 (Int.toNat ((Prod.snd x'2).1)) → true = true) ∧ (b7 = b7 ∧ b8 = b8) ∧ ∀ (s1
      : List UInt8), s1 = Byt.of (fun (k : Nat) ↦ if k < 0 + partN (List.length (Prod.fst x'1)) x3.1 (Int.toNat ((Prod.snd x'1).1)) then if k < 0 then (0 : Int) else (↑(UInt8.toNat (List.getD (Prod.fst x'1) (Int.toNat (↑x3.1 : Int) + (k - 0) * Int.toNat ((Prod.snd x'1).1)) 0)) : Int) else (↑(UInt8.toNat (List.getD (Prod.fst x'2) (Int.toNat (↑x3.1 : Int) + (k - (0 + partN (List.length (Prod.fst x'1)) x3.1
      (Int.toNat ((Prod.snd x'1).1)))) * Int.toNat ((Prod.snd x'2).1)) 0)) : Int)) (0 + partN (List.length (Prod.fst x'1)) x3.1 (Int.toNat ((Prod.snd x'1).1)) + partN (List.length (Prod.fst x'2)) x3.1 (Int.toNat ((Prod.snd x'2).1))) → List.length (uE b er x5.1 (Int.toNat n) x3.1) ≤ List.length (uE b er x5.1 (Int.toNat n) x3.1) ∧ (∀ (k3 : Nat), k3 < List.length (uE b er x5.1 (Int.toNat n) x3.1) → true =
      true) ∧ (x5.2.1 = x5.2.1 ∧ x5.2.2.1 = x5.2.2.1) ∧ List.length (uE b er x5.1 (Int.toNat n) x3.1) ≤ 1000000 ∧ ∀ (s2 : List UInt8), s2 = decL s1 (gL (uE b er x5.1 (Int.toNat n) x3.1)) (List.length (uE b er x5.1 (Int.toNat n) x3.1)) → ∀ (v15 : Int), v15 = decN s1 (gL (uE b er x5.1 (Int.toNat n) x3.1)) (List.length (uE b er x5.1 (Int.toNat n) x3.1)) → ∀ (v16 : Int), v16 = decE s1 (gL (uE b er x5.1
      (Int.toNat n) x3.1)) (List.length (uE b er x5.1 (Int.toNat n) x3.1)) → ((v16 != (0 : Int)) = true → ∀ (b10 : Nat), (x3.2.1 = x3.2.1 ∧ x3.2.2.1 = x3.2.2.1) ∧ (Nat.beq x3.1 0 = true → Nat.beq x3.1 0 = true) ∧ 0 = 0 ∧ x3.1 ≤ x3.1 ∧ x3.2.2.2 ≤ x3.2.2.2 ∧ (x3.1 + 1) * 8 ≤ 140737488355328 ∧ x3.1 + 1 ≤ 9223372036854775807 ∧ 1 ≤ 1 ∧ (b10 = b10 ∧ 0 = 0) ∧ ∀ (b11 b12 b13 : Nat), x3.1 + 1 ≤ b13 → b13 ≤
      9223372036854775807 → (Nat.beq x3.1 0 = true → 1 = 0 → b13 = 0) → ∀ (v17 : Int), v17 = (↑(List.length s2) : Int) → (∃ (x7 : Nat), (0 : Int) = (↑x7 : Int) ∧ ((b2 = b2 ∧ 0 = 0 ∧ false = false ∧ Int.toNat v7 ≤ Int.toNat v7 ∧ Int.toNat v7 ≤ Int.toNat v7 ∧ Int.toNat v7 ≤ Int.toNat v7) ∧ ∀ (i2 : Nat), i2 < Int.toNat v7 → uxF b er m (Int.toNat n) x3.1 0 i2 = uxF b er m (Int.toNat n) x3.1 x7 i2) ∧ Nat.le
      x7 (List.length (uxD b er m (Int.toNat n) x3.1))) ∧ ∀ (b14 : Nat), b14 ≤ List.length (uxD b er m (Int.toNat n) x3.1) → (decide ((↑b14 : Int) < v17) = true → ∀ (v18 : Int), v18 = IntKind.i64.wrap ((↑b14 : Int) * n) → ∀ (v19 : Int), v19 = IntKind.i64.wrap (v18 + (↑x3.1 : Int)) → (0 : Int) ≤ (↑b14 : Int) ∧ (↑b14 : Int) < (↑(List.length s2) : Int) ∧ 0 ≤ v19 ∧ v19 < (↑(Int.toNat v7) : Int) ∧ (b2 = b2 ∧
      0 = 0) ∧ Int.toNat v19 < Int.toNat v7 ∧ ∀ (v20 : Int), v20 = IntKind.i64.wrap ((↑b14 : Int) + (1 : Int)) → ∃ (x8 : Nat), v20 = (↑x8 : Int) ∧ ((b2 = b2 ∧ 0 = 0 ∧ false = false ∧ Int.toNat v7 ≤ Int.toNat v7 ∧ Int.toNat v7 ≤ Int.toNat v7 ∧ Int.toNat v7 ≤ Int.toNat v7) ∧ ∀ (i3 : Nat), i3 < Int.toNat v7 → (if i3 = Int.toNat v19 then (↑(UInt8.toNat (List.getD s2 b14 0)) : Int) else uxF b er m (Int.toNat
      n) x3.1 b14 i3) = uxF b er m (Int.toNat n) x3.1 x8 i3) ∧ x8 ≤ List.length (uxD b er m (Int.toNat n) x3.1) ∧ List.length (uxD b er m (Int.toNat n) x3.1) - x8 < List.length (uxD b er m (Int.toNat n) x3.1) - b14) ∧ (decide ((↑b14 : Int) < v17) = false → ∀ (v19 : Int), v19 = IntKind.i64.wrap ((↑x3.1 : Int) + (1 : Int)) → ∃ (x8 : Nat × Nat × Nat × Nat), v19 = (↑x8.1 : Int) ∧ (b11 = x8.2.1 ∧ b12 =
      x8.2.2.1 ∧ 0 = 0 ∧ x3.1 + 1 = x8.1 ∧ b13 = x8.2.2.2 ∧ (Nat.beq x3.1 0 && decide (1 = 0)) = Nat.beq x8.1 0) ∧ ((b2 = b2 ∧ 0 = 0 ∧ false = false ∧ Int.toNat v7 ≤ Int.toNat v7 ∧ Int.toNat v7 ≤ Int.toNat v7 ∧ Int.toNat v7 ≤ Int.toNat v7) ∧ ∀ (i3 : Nat), i3 < Int.toNat v7 → uxF b er m (Int.toNat n) x3.1 b14 i3 = uxF b er m (Int.toNat n) x8.1 0 i3) ∧ ((b11 = x8.2.1 ∧ b12 = x8.2.2.1 ∧ (Nat.beq x3.1 0 &&
      decide (1 = 0)) = Nat.beq x8.1 0 ∧ x8.1 ≤ x3.1 + 1 ∧ x8.1 ≤ x8.2.2.2 ∧ x8.2.2.2 ≤ b13) ∧ ∀ (i4 : Nat), i4 < x8.1 → (if i4 < x3.1 then uxC b er m (Int.toNat n) i4 else (-1 : Int)) = uxC b er m (Int.toNat n) i4) ∧ (x8.1 ≤ Int.toNat n ∧ x8.1 ≤ x8.2.2.2 ∧ x8.2.2.2 ≤ 9223372036854775807 ∧ (x8.1 = 0 → x8.2.2.2 = 0)) ∧ Int.toNat n - x8.1 < Int.toNat n - x3.1)) ∧ ((v16 != (0 : Int)) = false → ∀ (b11 :
      Nat), (x3.2.1 = x3.2.1 ∧ x3.2.2.1 = x3.2.2.1) ∧ (Nat.beq x3.1 0 = true → Nat.beq x3.1 0 = true) ∧ 0 = 0 ∧ x3.1 ≤ x3.1 ∧ x3.2.2.2 ≤ x3.2.2.2 ∧ (x3.1 + 1) * 8 ≤ 140737488355328 ∧ x3.1 + 1 ≤ 9223372036854775807 ∧ 1 ≤ 1 ∧ (b11 = b11 ∧ 0 = 0) ∧ ∀ (b12 b13 b14 : Nat), x3.1 + 1 ≤ b14 → b14 ≤ 9223372036854775807 → (Nat.beq x3.1 0 = true → 1 = 0 → b14 = 0) → ∀ (v17 : Int), v17 = (↑(List.length s2) : Int) →
      (∃ (x7 : Nat), (0 : Int) = (↑x7 : Int) ∧ ((b2 = b2 ∧ 0 = 0 ∧ false = false ∧ Int.toNat v7 ≤ Int.toNat v7 ∧ Int.toNat v7 ≤ Int.toNat v7 ∧ Int.toNat v7 ≤ Int.toNat v7) ∧ ∀ (i2 : Nat), i2 < Int.toNat v7 → uxF b er m (Int.toNat n) x3.1 0 i2 = uxF b er m (Int.toNat n) x3.1 x7 i2) ∧ Nat.le x7 (List.length (uxD b er m (Int.toNat n) x3.1))) ∧ ∀ (b15 : Nat), b15 ≤ List.length (uxD b er m (Int.toNat n) x3.1)
      → (decide ((↑b15 : Int) < v17) = true → ∀ (v18 : Int), v18 = IntKind.i64.wrap ((↑b15 : Int) * n) → ∀ (v19 : Int), v19 = IntKind.i64.wrap (v18 + (↑x3.1 : Int)) → (0 : Int) ≤ (↑b15 : Int) ∧ (↑b15 : Int) < (↑(List.length s2) : Int) ∧ 0 ≤ v19 ∧ v19 < (↑(Int.toNat v7) : Int) ∧ (b2 = b2 ∧ 0 = 0) ∧ Int.toNat v19 < Int.toNat v7 ∧ ∀ (v20 : Int), v20 = IntKind.i64.wrap ((↑b15 : Int) + (1 : Int)) → ∃ (x8 :
      Nat), v20 = (↑x8 : Int) ∧ ((b2 = b2 ∧ 0 = 0 ∧ false = false ∧ Int.toNat v7 ≤ Int.toNat v7 ∧ Int.toNat v7 ≤ Int.toNat v7 ∧ Int.toNat v7 ≤ Int.toNat v7) ∧ ∀ (i3 : Nat), i3 < Int.toNat v7 → (if i3 = Int.toNat v19 then (↑(UInt8.toNat (List.getD s2 b15 0)) : Int) else uxF b er m (Int.toNat n) x3.1 b15 i3) = uxF b er m (Int.toNat n) x3.1 x8 i3) ∧ x8 ≤ List.length (uxD b er m (Int.toNat n) x3.1) ∧
      List.length (uxD b er m (Int.toNat n) x3.1) - x8 < List.length (uxD b er m (Int.toNat n) x3.1) - b15) ∧ (decide ((↑b15 : Int) < v17) = false → ∀ (v19 : Int), v19 = IntKind.i64.wrap ((↑x3.1 : Int) + (1 : Int)) → ∃ (x8 : Nat × Nat × Nat × Nat), v19 = (↑x8.1 : Int) ∧ (b12 = x8.2.1 ∧ b13 = x8.2.2.1 ∧ 0 = 0 ∧ x3.1 + 1 = x8.1 ∧ b14 = x8.2.2.2 ∧ (Nat.beq x3.1 0 && decide (1 = 0)) = Nat.beq x8.1 0) ∧ ((b2
      = b2 ∧ 0 = 0 ∧ false = false ∧ Int.toNat v7 ≤ Int.toNat v7 ∧ Int.toNat v7 ≤ Int.toNat v7 ∧ Int.toNat v7 ≤ Int.toNat v7) ∧ ∀ (i3 : Nat), i3 < Int.toNat v7 → uxF b er m (Int.toNat n) x3.1 b15 i3 = uxF b er m (Int.toNat n) x8.1 0 i3) ∧ ((b12 = x8.2.1 ∧ b13 = x8.2.2.1 ∧ (Nat.beq x3.1 0 && decide (1 = 0)) = Nat.beq x8.1 0 ∧ x8.1 ≤ x3.1 + 1 ∧ x8.1 ≤ x8.2.2.2 ∧ x8.2.2.2 ≤ b14) ∧ ∀ (i4 : Nat), i4 < x8.1 →
      (if i4 < x3.1 then uxC b er m (Int.toNat n) i4 else v15) = uxC b er m (Int.toNat n) i4) ∧ (x8.1 ≤ Int.toNat n ∧ x8.1 ≤ x8.2.2.2 ∧ x8.2.2.2 ≤ 9223372036854775807 ∧ (x8.1 = 0 → x8.2.2.2 = 0)) ∧ Int.toNat n - x8.1 < Int.toNat n - x3.1))) ∧ True)))) ∧ True) ∧ True)) ∧ (decide ((↑x3.1 : Int) < n) = false → x3.1 ≤ x3.1 ∧ (∀ (k2 : Nat), k2 < x3.1 → true = true) ∧ (x3.2.1 = x3.2.1 ∧ x3.2.2.1 = x3.2.2.1) ∧
      ∀ (t6 : Bool), t6 = inB (uxC b er m (Int.toNat n)) x3.1 (-1 : Int) → (t6 = true → ∃ (x4 : Nat × Nat × Nat), ([] = uxL b er m n ∧ (x3.2.1 = x4.1 ∧ x3.2.2.1 = x4.2.1 ∧ 0 = 0 ∧ x3.1 = uxN b er m n ∧ x3.2.2.2 = x4.2.2 ∧ Nat.beq x3.1 0 = Nat.beq (uxN b er m n) 0) ∧ (50 : Int) = uxE b er m n) ∧ ((x3.2.1 = x4.1 ∧ x3.2.2.1 = x4.2.1 ∧ Nat.beq x3.1 0 = Nat.beq (uxN b er m n) 0 ∧ uxN b er m n ≤ x3.1 ∧ uxN b
      er m n ≤ x4.2.2 ∧ x4.2.2 ≤ x3.2.2.2) ∧ ∀ (i2 : Nat), i2 < uxN b er m n → uxC b er m (Int.toNat n) i2 = uxC b er m (Int.toNat n) i2) ∧ uxN b er m n ≤ x4.2.2 ∧ x4.2.2 ≤ 9223372036854775807 ∧ (uxN b er m n = 0 → x4.2.2 = 0)) ∧ (t6 = false → Int.toNat v7 ≤ Int.toNat v7 ∧ (∀ (k3 : Nat), k3 < Int.toNat v7 → true = true) ∧ (b2 = b2 ∧ 0 = 0) ∧ ∀ (s1 : List UInt8), s1 = Byt.of (uxF b er m (Int.toNat n) x3.1
      0) (Int.toNat v7) → ∃ (x5 : Nat × Nat × Nat), (s1 = uxL b er m n ∧ (x3.2.1 = x5.1 ∧ x3.2.2.1 = x5.2.1 ∧ 0 = 0 ∧ x3.1 = uxN b er m n ∧ x3.2.2.2 = x5.2.2 ∧ Nat.beq x3.1 0 = Nat.beq (uxN b er m n) 0) ∧ (0 : Int) = uxE b er m n) ∧ ((x3.2.1 = x5.1 ∧ x3.2.2.1 = x5.2.1 ∧ Nat.beq x3.1 0 = Nat.beq (uxN b er m n) 0 ∧ uxN b er m n ≤ x3.1 ∧ uxN b er m n ≤ x5.2.2 ∧ x5.2.2 ≤ x3.2.2.2) ∧ ∀ (i3 : Nat), i3 < uxN b
      er m n → uxC b er m (Int.toNat n) i3 = uxC b er m (Int.toNat n) i3) ∧ uxN b er m n ≤ x5.2.2 ∧ x5.2.2 ≤ 9223372036854775807 ∧ (uxN b er m n = 0 → x5.2.2 = 0)))) ∧ True) ∧ True)) (by kernel_rfl) ?_
  try simp only [eq_self, true_and, and_true, Nat.le_refl, implies_true, forall_const, Bool.false_eq_true, Bool.true_eq_false, reduceCtorEq, false_imp_iff, true_imp_iff, Int.toNat_zero, Int.toNat_natCast, Nat.zero_lt_one, Int.le_refl, allGet]
  intro t1 ht1 v1 h1 v2 h2 t2 ht2 v3 h3 v4 h4 t3 ht3 t4 ht4 t5 ht5
  have hb : t5 = uxB b er m n := by
    rw [ht5, u0B_eq ht1 h1 h2 ht2 h3 h4 ht3, ht4]
    unfold uxB
    cases u0B b n <;> rfl
  subst hb
  refine ⟨fun h => ?_, fun h => ?_⟩
  · have e0 : uxN b er m n = 0 := by unfold uxN; rw [h]; rfl
    rw [e0]
    refine ⟨(0, 0, 0), ⟨?_, nil_eqv rfl rfl rfl, ?_⟩, ⟨rfl, rfl, rfl⟩, Nat.le_refl _, by dsimp only; omega, fun _ => rfl⟩
    · unfold uxL; rw [h]; rfl
    · unfold uxE; rw [h]; rfl
  obtain ⟨g1, g2, g3, g4, g5⟩ := uxB_false h
  have eN : uxN b er m n = n.toNat := by unfold uxN; rw [h]; rfl
  have eL : uxL b er m n = if uxBad b er m n.toNat then [] else Byt.of (uxX b er m n.toNat) (b.length - 8 * n.toNat) := by unfold uxL; rw [h]; rfl
  have eE : uxE b er m n = if uxBad b er m n.toNat then 50 else 0 := by unfold uxE; rw [h]; rfl
  rw [eN, eL, eE]
  have hN : ((n.toNat : Nat) : Int) = n := Int.toNat_of_nonneg (by omega)
  generalize hNN : n.toNat = N at *
  intro v5 h5 v6 h6 v7 h7
  have e7 : v7 = ((b.length - 8 * N : Nat) : Int) := by
    rw [h7, h5, h6, w64_id (x := 8 * n) (by omega) (by omega), w64_id (by omega) (by omega)]
    omega
  generalize hM : b.length - 8 * N = M at *
  subst e7
  have hlD : (b.take M).length = M := by rw [List.length_take]; omega
  have hlP : (b.drop M).length = 8 * N := by rw [List.length_drop]; omega
  have hD : List.drop 0 (List.take ((M : Nat) : Int).toNat b) = b.take M := by rw [Int.toNat_natCast]; rfl
  have hP : List.drop ((M : Nat) : Int).toNat (List.take b.length b) = b.drop M := by rw [Int.toNat_natCast, List.take_length]
  refine ⟨by omega, by omega, by omega, by omega, by omega, by omega, fun x1 hx1 => ?_⟩
  rw [hD] at hx1
  subst hx1
  dsimp only
  rw [hlD]
  refine ⟨g1, g2, by omega, by omega, fun y1 hy1 x2 hx2 => ?_⟩
  rw [hP] at hx2
  subst hx2
  dsimp only
  rw [hlP, hNN]
  refine ⟨g1, g2, by omega, by omega, fun y2 hy2 => ⟨by omega, by omega, by omega, ⟨(0, 0, 0, 0), rfl, nil_eqv rfl rfl rfl, fun k hk => uxF_zero.symm, ⟨rfl, rfl, rfl⟩, Nat.zero_le _, Nat.le_refl _, by dsimp only; omega, fun _ => rfl⟩, ?_⟩⟩
  rintro ⟨j, a1, a2, cap⟩ ⟨j1, j2, j4, j3⟩
  dsimp only at j1 j2 j3 j4 ⊢
  refine ⟨fun hjn => ?_, fun hjn => ?_⟩
  · have hjn := of_decide_eq_true hjn
    have hjN : j < N := by omega
    intro v8 h8
    subst h8
    refine ⟨⟨(0, 0, 0, 0), rfl, nil_eqv rfl rfl rfl, ⟨rfl, rfl, rfl⟩, Nat.zero_le _, Nat.le_refl _, by dsimp only; omega, fun _ => rfl⟩, ?_⟩
    rintro ⟨k, c1, c2, c3⟩ ⟨k1, k2, k3, k4⟩
    dsimp only at k1 k2 k3 k4 ⊢
    refine ⟨fun hlt => ?_, fun hge => ?_⟩
    · have hlt : k < m := by have := of_decide_eq_true hlt; omega
      obtain ⟨r1, r2⟩ := g5 k hlt
      have hU : (uE b er k N j).length ≤ k := uP_len _ _ _ _ _ _
      have hS : uE b er (k + 1) N j = if (er k).toNat < b.length - 8 * N then (if (er k).toNat % N = j then uE b er k N j ++ [(((er k).toNat / N : Nat) : Int)] else uE b er k N j)
        else (if ((er k).toNat - (b.length - 8 * N)) % N = j then uE b er k N j ++ [((partN (b.length - 8 * N) j N + ((er k).toNat - (b.length - 8 * N)) / N : Nat) : Int)] else uE b er k N j) := rfl
      rw [hM] at hS
      obtain ⟨U, hUe⟩ : ∃ U, uE b er k N j = U := ⟨_, rfl⟩
      simp only [hUe] at hU hS k2 k4 ⊢
      have hmod : ∀ a : Nat, Int.tmod (a : Int) n = ((a % N : Nat) : Int) := fun a => by rw [← hN]; rfl
      have hdiv : ∀ a : Nat, Int.tdiv (a : Int) n = ((a / N : Nat) : Int) := fun a => by rw [← hN]; rfl
      obtain ⟨e, he⟩ : ∃ e : Nat, er k = (e : Int) := ⟨(er k).toNat, by omega⟩
      rw [he, Int.toNat_natCast] at hS
      simp only [he] at r1 r2 ⊢
      have hdl := Nat.div_le_self e N
      have hdl2 := Nat.div_le_self (e - M) N
      have app : ∀ x : Int, uE b er (k + 1) N j = U ++ [x] → ∀ v10 : Int, v10 = x → ∀ (b4 b5 b6 : Nat), U.length + 1 ≤ b6 → b6 ≤ 9223372036854775807 → ∀ v11 : Int, v11 = IntKind.i64.wrap ((k : Int) + 1) → ∃ x6 : Nat × Nat × Nat × Nat, v11 = (x6.1 : Int) ∧ (b4 = x6.2.1 ∧ b5 = x6.2.2.1 ∧ U.length + 1 = (uE b er x6.1 N j).length ∧ b6 = x6.2.2.2 ∧ (Nat.beq U.length 0 && decide False) = Nat.beq (uE b er x6.1 N j).length 0) ∧ ((b4 = x6.2.1 ∧ b5 = x6.2.2.1 ∧ (Nat.beq U.length 0 && decide False) = Nat.beq (uE b er x6.1 N j).length 0 ∧ (uE b er x6.1 N j).length ≤ U.length + 1 ∧ (uE b er x6.1 N j).length ≤ x6.2.2.2 ∧ x6.2.2.2 ≤ b6) ∧ ∀ i2, i2 < (uE b er x6.1 N j).length → (if i2 < U.length then gL U i2 else v10) = gL (uE b er x6.1 N j) i2) ∧ (x6.1 ≤ m ∧ (uE b er x6.1 N j).length ≤ x6.2.2.2 ∧ x6.2.2.2 ≤ 9223372036854775807 ∧ ((uE b er x6.1 N j).length = 0 → x6.2.2.2 = 0)) ∧ m - x6.1 < m - k := by
        intro x hx v10 h10 b4 b5 b6 q1 q2 v11 h11
        have hl : (uE b er (k + 1) N j).length = U.length + 1 := by rw [hx, List.length_append]; rfl
        refine ⟨(k + 1, b4, b5, b6), h11.trans (l_succ (by omega)), ?_⟩
        dsimp only
        rw [hl]
        refine ⟨⟨rfl, rfl, rfl, rfl, pt_beq _⟩, ⟨⟨rfl, rfl, pt_beq _, Nat.le_refl _, q1, Nat.le_refl _⟩, fun i hi => ?_⟩, ⟨by omega, q1, q2, fun q => by cases q⟩, by omega⟩
        rw [hx]
        by_cases q : i < U.length
        · rw [if_pos q, gL, gL, List.getD_eq_getElem?_getD, List.getD_eq_getElem?_getD, List.getElem?_append_left q]
        · rw [if_neg q, show i = U.length by omega, h10, gL, List.getD_eq_getElem?_getD, List.getElem?_append_right (Nat.le_refl _), Nat.sub_self]
          rfl
      have hn0 : n ≠ 0 := by omega
      have w : ∀ a : Nat, a ≤ 1000000 → IntKind.i64.wrap (a : Int) = (a : Int) := fun a ha => w64_id (by omega) (by omega)
      refine ⟨by omega, by omega, hlt, fun _ => hn0, fun v9 h9 t6 ht6 => ⟨fun h6 => ⟨hn0, fun v10 h10 => ?_⟩, fun h6 v11 h11 => ⟨fun _ => hn0, fun v12 h12 t7 ht7 => ⟨fun h7 => ?_, fun h7 v14 h14 => ?_⟩⟩⟩⟩
      · rw [hmod] at h9
        rw [h6] at ht6
        have q : e < M ∧ e % N = j := by
          by_cases q : (e : Int) < (M : Int)
          · rw [if_pos (decide_eq_true q), h9] at ht6
            have := eq_of_beq ht6.symm
            omega
          · rw [if_neg (by rw [decide_eq_false q]; decide)] at ht6; cases ht6
        rw [if_pos q.1, if_pos q.2] at hS
        rw [hdiv, w _ (by omega)] at h10
        exact ⟨fun q => q, by omega, by omega, app _ hS v10 h10⟩
      · rw [w64_id (by omega) (by omega)] at h11
        rw [h7] at ht7
        have q : M ≤ e ∧ (e - M) % N = j := by
          by_cases q : (e : Int) ≥ (M : Int)
          · rw [if_pos (decide_eq_true q), h12, h11, show (e : Int) - (M : Int) = ((e - M : Nat) : Int) by omega, hmod] at ht7
            have := eq_of_beq ht7.symm
            omega
          · rw [if_neg (by rw [decide_eq_false q]; decide)] at ht7; cases ht7
        rw [if_neg (by omega), if_pos q.2] at hS
        refine ⟨by omega, by omega, hjN, fun v13 h13 v14 h14 => ⟨hn0, fun v15 h15 v16 h16 => ?_⟩⟩
        have hA := partN_le M j N
        rw [show (e : Int) - (M : Int) = ((e - M : Nat) : Int) by omega, w _ (by omega)] at h14
        rw [h14, hdiv, w _ (by omega)] at h15
        rw [h13, h15, ← Int.natCast_add, w _ (by omega)] at h16
        exact ⟨fun q => q, by omega, by omega, app _ hS v16 h16⟩
      · have hno : uE b er (k + 1) N j = U := by
          rw [hS]
          rw [h6] at ht6
          rw [h7] at ht7
          rw [w64_id (by omega) (by omega)] at h11
          by_cases q : e < M
          · rw [if_pos (decide_eq_true (by omega)), h9, hmod] at ht6
            rw [if_pos q, if_neg]
            intro q2
            rw [q2] at ht6
            simp at ht6
          · rw [if_pos (decide_eq_true (by omega)), h12, h11, show (e : Int) - (M : Int) = ((e - M : Nat) : Int) by omega, hmod] at ht7
            rw [if_neg q, if_neg]
            intro q2
            rw [q2] at ht7
            simp at ht7
        refine ⟨(k + 1, c1, c2, c3), h14.trans (l_succ (by omega)), ?_⟩
        dsimp only
        rw [hno]
        repeat' apply And.intro
        all_goals first | rfl | exact Nat.le_refl _ | assumption | omega | (intro i hi; rfl)
    have hge : m = k := by have := of_decide_eq_false hge; omega
    subst hge
    have hUl : (uE b er m N j).length ≤ m := uP_len _ _ _ _ _ _
    have hA := partN_le M j N
    rw [partN_8 hjN]
    obtain ⟨A, hAe⟩ : ∃ A, partN M j N = A := ⟨_, rfl⟩
    simp only [hAe] at hA ⊢
    refine ⟨by omega, by omega, hjN, by omega, by omega, hjN, by omega, by omega, fun v8 hv8 v9 hv9 => ?_⟩
    have e9 : v9 = (A : Int) := by rw [hv9, hv8, w64_id (by omega) (by omega)]; omega
    subst e9
    refine ⟨fun q => by have := of_decide_eq_true q; omega, fun _ => ⟨by decide, by decide, by omega, fun v10 hv10 v11 hv11 => ?_⟩⟩
    have e11 : v11 = ((A + 8 : Nat) : Int) := by rw [hv11, hv10, w64_id (by omega) (by omega)]; omega
    subst e11
    refine ⟨fun q => by have := of_decide_eq_true q; omega, fun _ => ⟨fun q => by have := of_decide_eq_true q; omega, fun _ => ⟨fun v12 hv12 v13 hv13 v14 hv14 v15 hv15 => ?_, fun x4 hx4 => ?_⟩⟩⟩
    · have e14 : v14 = 0 := by rw [hv14, hv12, hv13]; decide
      have e15 : v15 = ((A + 8 : Nat) : Int) := by rw [hv15, e14, w64_id (by omega) (by omega)]; omega
      subst e15
      refine ⟨fun hgt v16 hv16 => ?_, fun hgt => by have := of_decide_eq_false hgt; omega⟩
      have h16 : v16 = 0 := hv16
      subst h16
      refine ⟨Int.le_refl _, Int.le_refl _, by omega, by omega, by omega, by omega, fun c1 c2 q1 q2 _ v17 hv17 => ?_⟩
      have h17 : v17 = 0 := hv17
      subst h17
      have hd1 : decide (((A + 8 : Nat) : Int).toNat = 0) = decide (((A + 8 : Nat) : Int) ≤ 0) := by
        rw [decide_eq_false (show ¬ ((A + 8 : Nat) : Int).toNat = 0 by omega), decide_eq_false (show ¬ ((A + 8 : Nat) : Int) ≤ 0 by omega)]
      exact ⟨Int.le_refl _, by omega, ⟨(c1, 0, c2), ⟨rfl, rfl, rfl, rfl, hd1⟩, ⟨rfl, rfl, hd1, by omega, Nat.zero_le _, Nat.le_refl _⟩, by dsimp only; omega, q2, fun q => by omega⟩⟩
    · obtain ⟨f1, f2, f3⟩ := hx4
      refine ⟨by omega, by omega, fun q => q, by omega, by omega, hjN, fun b6 q1 q2 _ => ⟨by decide, by decide, by omega, fun q => q, by omega, by omega, hjN, fun b9 q3 q4 _ s1 hs1 => ?_⟩⟩
      have hs : s1 = uW b N j := by
        rw [hs1]
        unfold uW partL
        rw [hM, hlD, hlP, hAe, partN_8 hjN, ← bof_app, Nat.zero_add]
        refine bof_congr fun k hk => ?_
        simp
      refine ⟨by omega, fun s2 hs2 v13 hv13 v14 hv14 => ?_⟩
      rw [hs] at hs2 hv13 hv14
      have hs2 : s2 = uxD b er m N j := hs2
      have hlen := uxD_len (b := b) (er := er) (m := m) hjN (by omega)
      rw [hM, hAe] at hlen
      subst hs2
      refine ⟨fun hne => ?_, fun heq => ?_⟩
      · have hne : decE (uW b N j) (gL (uE b er m N j)) (uE b er m N j).length ≠ 0 := by rw [← hv14]; simpa using hne
        refine ⟨fun q => q, by omega, by omega, fun b11 b12 b13 q5 q6 v15 hv15 => ⟨⟨0, rfl, fun k hk => rfl, Nat.zero_le _⟩, fun p hp => ⟨fun hlt v16 hv16 v17 hv17 => ?_, fun hge v17 hv17 => ?_⟩⟩⟩
        · have hlt := of_decide_eq_true hlt
          have hpA : p < partN M j N := by omega
          have hpm : j + p * N < M := (partN_iff (by omega) p).1 hpA
          have hpI : (p : Int) * n = ((p * N : Nat) : Int) := by rw [← hN, Int.natCast_mul]
          have e16 : v16 = ((p * N : Nat) : Int) := by rw [hv16, hpI, w64_id (by omega) (by omega)]
          have e17 : v17 = ((p * N + j : Nat) : Int) := by rw [hv17, e16, w64_id (by omega) (by omega)]; omega
          subst e17
          rw [Int.toNat_natCast, Int.toNat_natCast]
          refine ⟨by omega, by omega, by omega, by omega, by omega, fun v18 hv18 => ⟨p + 1, by rw [hv18, w64_id (by omega) (by omega)]; omega, fun k hk => uxF_put hjN, by omega, by omega⟩⟩
        · have hge := of_decide_eq_false hge
          have ep : (uxD b er m N j).length ≤ p := by omega
          refine ⟨(j + 1, b11, b12, b13), by rw [hv17, w64_id (by omega) (by omega)]; dsimp only; omega, ⟨rfl, rfl, rfl, rfl, pt_beq _⟩, fun k hk => uxF_next ep, ⟨⟨rfl, rfl, pt_beq _, Nat.le_refl _, q5, Nat.le_refl _⟩, fun k hk => ?_⟩, ⟨by dsimp only; omega, q5, q6, fun q => by cases q⟩, by dsimp only; omega⟩
          dsimp only at hk
          by_cases q : k < j
          · rw [if_pos q]
          · rw [if_neg q, show k = j by omega]
            unfold uxC
            rw [if_neg hne]
      · have heq : decE (uW b N j) (gL (uE b er m N j)) (uE b er m N j).length = 0 := by rw [← hv14]; simpa using heq
        refine ⟨fun q => q, by omega, by omega, fun b11 b12 b13 q5 q6 v15 hv15 => ⟨⟨0, rfl, fun k hk => rfl, Nat.zero_le _⟩, fun p hp => ⟨fun hlt v16 hv16 v17 hv17 => ?_, fun hge v17 hv17 => ?_⟩⟩⟩
        · have hlt := of_decide_eq_true hlt
          have hpA : p < partN M j N := by omega
          have hpm : j + p * N < M := (partN_iff (by omega) p).1 hpA
          have hpI : (p : Int) * n = ((p * N : Nat) : Int) := by rw [← hN, Int.natCast_mul]
          have e16 : v16 = ((p * N : Nat) : Int) := by rw [hv16, hpI, w64_id (by omega) (by omega)]
          have e17 : v17 = ((p * N + j : Nat) : Int) := by rw [hv17, e16, w64_id (by omega) (by omega)]; omega
          subst e17
          rw [Int.toNat_natCast, Int.toNat_natCast]
          refine ⟨by omega, by omega, by omega, by omega, by omega, fun v18 hv18 => ⟨p + 1, by rw [hv18, w64_id (by omega) (by omega)]; omega, fun k hk => uxF_put hjN, by omega, by omega⟩⟩
        · have hge := of_decide_eq_false hge
          have ep : (uxD b er m N j).length ≤ p := by omega
          refine ⟨(j + 1, b11, b12, b13), by rw [hv17, w64_id (by omega) (by omega)]; dsimp only; omega, ⟨rfl, rfl, rfl, rfl, pt_beq _⟩, fun k hk => uxF_next ep, ⟨⟨rfl, rfl, pt_beq _, Nat.le_refl _, q5, Nat.le_refl _⟩, fun k hk => ?_⟩, ⟨by dsimp only; omega, q5, q6, fun q => by cases q⟩, by dsimp only; omega⟩
          dsimp only at hk
          by_cases q : k < j
          · rw [if_pos q]
          · rw [if_neg q, show k = j by omega]
            unfold uxC
            rw [if_pos heq, hv13]
  · have hjn := of_decide_eq_false hjn
    obtain rfl : j = N := by omega
    intro t6 ht6
    have ht : t6 = uxBad b er m j := ht6
    subst ht
    rw [Int.toNat_natCast]
    refine ⟨fun q => ⟨(a1, a2, cap), ⟨by rw [if_pos q], ⟨rfl, rfl, rfl, rfl, rfl⟩, by rw [if_pos q]⟩, ⟨rfl, rfl, rfl, Nat.le_refl _, j2, Nat.le_refl _⟩, j2, j4, j3⟩, fun q s1 hs1 => ⟨(a1, a2, cap), ⟨?_, ⟨rfl, rfl, rfl, rfl, rfl⟩, by rw [q]; rfl⟩, ⟨rfl, rfl, rfl, Nat.le_refl _, j2, Nat.le_refl _⟩, j2, j4, j3⟩⟩
    rw [q, hs1]
    exact bof_congr fun k hk => uxF_end (by omega)
end Galois
