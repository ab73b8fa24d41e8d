/-
  OWN WORK. Block: the law BlockBursts (under way).
-/
import Derived.Test.YtoefjmachoakpaaDoorBZ
import Derived.Test.YtoefjmachoakpaaDoorBY
namespace Galois
open Go Go.Proofs Eng
set_option linter.unusedVariables false
set_option linter.unusedSimpArgs false
set_option maxHeartbeats 8000000
set_option maxRecDepth 100000

noncomputable def EL4 : Env := EL1.addP 14 pick
theorem EL4_ok : EnvOk Tryd.prog EL4 := EL1_ok.addP pick_ok
abbrev BurD := List UInt8 × Int × (Int × List UInt8 × Unit) × Unit
abbrev aBur : ArgL BurD := .cons (.elt .str) (.cons (.elt (.int .i64)) (.cons (.agg (.cons (.elt (.int .i64)) (.cons (.elt .str) .nil))) .nil))
/-- The word, i places of the burst done. -/
noncomputable def buF (c s : List UInt8) (t0 i k : Nat) : Nat := if t0 ≤ k ∧ k < t0 + i then Nat.xor (co c k) (co s (k - t0)) else co c k
/-- Where the burst begins. -/
noncomputable def buP (x : BurD) : Nat := (pickF x.2.2.1.1 ((wrapL x.1 x.2.1).length : Nat)).toNat
/-- The first i places of the burst lie in the word, on one side. -/
noncomputable def buI (x : BurD) (i : Nat) : Prop := i ≤ x.2.2.1.2.1.length ∧ i ≤ 4 * x.2.1.toNat ∧ buP x + i ≤ (wrapL x.1 x.2.1).length ∧ (buP x < x.1.length → buP x + i ≤ x.1.length)
/-- The word, i places of the burst done. -/
noncomputable def buW (x : BurD) (i k : Nat) : Nat := buF (wrapL x.1 x.2.1) x.2.2.1.2.1 (buP x) i k
noncomputable def burA (x : BurD) : List An :=
  [.loopD 12 (fun fr H => ⟨12, Nat, [12], fun i => [.int .i64 (i : Nat)], [1], fun i => [{ entG H 1 with get := fun k => .int .u8 (buW x i k : Nat) }], fun i => buI x i, fun i => x.2.2.1.2.1.length - i⟩),
   .draw 15 ((.take 0 (.take 1 (.take 2 (.take 3 (.take 4 (.take 5 (.take 6 (.take 7 (.take 8 (.take 10 (.take 11 (.take 12 (.br 9 (.take 13 (.take 14 (.br 15 .fin .stop))) .stop)))))))))))))) [10, 100001]]
theorem buF_lt (c s : List UInt8) (t0 i k : Nat) : buF c s t0 i k < 256 := by
  unfold buF
  split
  · exact xor_lt (co_lt _ _) (co_lt _ _)
  · exact co_lt _ _
/-- The burst is corrected. -/
theorem bur_end {d s : List UInt8} {n a : Int} {i : Nat} (h : wB d n = false) (hi : buI (d, n, (a, s, ()), ()) i) :
    uwL (ofN (buW (d, n, (a, s, ()), ()) i) (wrapL d n).length) n = d ∧ uwE (ofN (buW (d, n, (a, s, ()), ()) i) (wrapL d n).length) n = 0 ∧ uwN (ofN (buW (d, n, (a, s, ()), ()) i) (wrapL d n).length) n = n.toNat := by
  obtain ⟨h1, h2, h3, h4⟩ := hi
  have hl : (wrapL d n).length = d.length + 8 * n.toNat := by rw [wrapL_of h, List.length_append, bofl_len]
  have hb : ∀ k, k < d.length + 8 * n.toNat → co (ofN (buW (d, n, (a, s, ()), ()) i) (wrapL d n).length) k = buW (d, n, (a, s, ()), ()) i k := fun k hk => byt_get (fun k => buF_lt _ _ _ _ k) (by omega)
  have hne : ∀ k, k < d.length + 8 * n.toNat → co (ofN (buW (d, n, (a, s, ()), ()) i) (wrapL d n).length) k ≠ co (wrapL d n) k → buP (d, n, (a, s, ()), ()) ≤ k ∧ k < buP (d, n, (a, s, ()), ()) + i := fun k hk hne => by
    rw [hb k hk] at hne
    unfold buW buF at hne
    by_cases q : buP (d, n, (a, s, ()), ()) ≤ k ∧ k < buP (d, n, (a, s, ()), ()) + i
    · exact q
    · rw [if_neg q] at hne
      exact absurd rfl hne
  dsimp only at h2 h4
  refine bursts (t0 := buP (d, n, (a, s, ()), ())) h (by rw [ofN_len, hl]) (fun k hk hk' => by have := hne k hk hk'; omega) ?_
  by_cases q : buP (d, n, (a, s, ()), ()) < d.length
  · have := h4 q
    exact .inl fun k hk hk' => by have := hne k hk hk'; omega
  · exact .inr fun k hk hk' => by have := hne k hk hk'; omega
theorem bur_walk : ∀ (x : BurD) (hR : x.1.length ≤ 140737488351232 ∧ inKind .i64 x.2.1 ∧ (inKind .i64 x.2.2.1.1 ∧ x.2.2.1.2.1.length ≤ 140737488351232 ∧ True) ∧ True) (hw : ∀ v ∈ aBur.svs 0 x, v.wf), exCode EL4 Tryd.f6.ntmps (burA x) (match Tryd.f6.body with | some c => c | none => .skip) (argFr 0 (aBur.svs 0 x)) (aBur.hp 0 x) aBur.tags (atEnd EL4 Tryd.f6.results.toList fun r _ _ => eqv r (.bool true)) := by
  refine fun ⟨d, n, ⟨a, s, ()⟩, ()⟩ hR hw => ?_
  refine vc_of (q :=
      ∀ (b1 : Nat) (v1 : Int), v1 = (↑(List.length d) : Int) → ∀ (t1 : Bool), (t1 = if decide (v1 > (900 : Int)) = true then true else decide (n < (1 : Int))) → ∀ (t2 : Bool), (t2 = if t1 = true then true else decide (n > (4 : Int))) → (t2 = true → ∀ (t3 : Bool), t3 = true → t3 = true) ∧ (t2 = false → (b1 = b1 ∧ 0 = 0) ∧ ∀ (s1 : List UInt8), s1 = wrapL d n → ∀ (v2 : Int), v2 = wrapE d n → ((v2 != (0 :
      Int)) = true → ∀ (v3 : Int), v3 = (↑(List.length d) : Int) → ∀ (v4 : Int), v4 = (↑(List.length d) : Int) → ∀ (v5 : Int), v5 = IntKind.i64.wrap ((223 : Int) * n) → ∀ (t4 : Bool), (t4 = if decide (v3 < n) = true then true else decide (v4 > v5)) → ∀ (t5 : Bool), t5 = true → ∀ (t6 : Bool), (t6 = if t4 = true then t5 else false) → t6 = true) ∧ ((v2 != (0 : Int)) = false → ∀ (v4 : Int), v4 =
      (↑(List.length s1) : Int) → ∀ (v5 : Int), v5 = (↑(List.length d) : Int) → ∀ (v6 : Int), v6 = IntKind.i64.wrap ((8 : Int) * n) → ∀ (v7 : Int), v7 = IntKind.i64.wrap (v5 + v6) → ∀ (v8 : Int), v8 = (↑(List.length d) : Int) → ((v4 != v7) = false → 0 ≤ v8) ∧ ((v4 != v7) = false → v8 ≤ (↑(List.length s1) : Int)) ∧ ((v4 != v7) = false → (0 : Int) ≤ (0 : Int)) ∧ ((v4 != v7) = false → 0 ≤ v8) ∧ ∀ (t4 :
      Bool), (t4 = if (v4 != v7) = true then true else !List.drop (Int.toNat (0 : Int)) (List.take (Int.toNat v8) s1) == d) → (t4 = true → false = true) ∧ (t4 = false → ∀ (b2 b3 : Nat), List.length s1 ≤ b3 → b3 ≤ 9223372036854775807 → (b1 = b1 ∧ 0 = 0) ∧ ∀ (v9 : Int), v9 = (↑(List.length s1) : Int) → 0 < v9 ∧ v9 ≤ 1000000 ∧ ∀ (v10 : Int), v10 = pickF a v9 → (∃ (x1 : Nat), (0 : Int) = (↑x1 : Int) ∧ ((b2 =
      b2 ∧ 0 = 0 ∧ false = false ∧ List.length s1 ≤ List.length s1 ∧ List.length s1 ≤ b3 ∧ b3 ≤ b3) ∧ ∀ (i1 : Nat), i1 < List.length s1 → (↑(UInt8.toNat (List.getD s1 i1 (0 : UInt8))) : Int) = (↑(buW (d, n, (a, s, ()), ()) x1 i1) : Int)) ∧ x1 ≤ List.length s ∧ x1 ≤ 4 * Int.toNat n ∧ buP (d, n, (a, s, ()), ()) + x1 ≤ List.length (wrapL d n) ∧ (buP (d, n, (a, s, ()), ()) < List.length d → buP (d, n, (a, s,
      ()), ()) + x1 ≤ List.length d)) ∧ ∀ (b4 : Nat), buI (d, n, (a, s, ()), ()) b4 → ∀ (v11 : Int), v11 = (↑(List.length s) : Int) → ∀ (v12 : Int), v12 = IntKind.i64.wrap ((4 : Int) * n) → ∀ (t5 : Bool), (t5 = if decide ((↑b4 : Int) < v11) = true then decide ((↑b4 : Int) < v12) else false) → ∀ (v13 : Int), v13 = IntKind.i64.wrap (v10 + (↑b4 : Int)) → ∀ (v14 : Int), v14 = (↑(List.length s1) : Int) → ∀
      (t6 : Bool), (t6 = if t5 = true then decide (v13 < v14) else false) → (t6 = true → ∀ (v15 : Int), v15 = (↑(List.length d) : Int) → ∀ (v16 : Int), v16 = IntKind.i64.wrap (v10 + (↑b4 : Int)) → ∀ (v17 : Int), v17 = (↑(List.length d) : Int) → ∀ (t7 : Bool), (t7 = if decide (v10 < v15) = true then decide (v16 ≥ v17) else false) → (t7 = true → List.length s1 ≤ List.length s1 ∧ (∀ (k1 : Nat), k1 <
      List.length s1 → true = true) ∧ (b2 = b2 ∧ 0 = 0) ∧ ∀ (s2 : List UInt8), s2 = Byt.of (fun (k : Nat) ↦ (↑(buW (d, n, (a, s, ()), ()) b4 k) : Int)) (List.length s1) → true = true ∧ ∀ (x'1 : List UInt8 × Int × Unit × Unit), x'1 = (s2, n, (), ()) → ∀ (y1 : Nat × Nat × Nat), uwN (Prod.fst x'1) (Prod.fst (Prod.snd x'1)) ≤ y1.2.2 ∧ y1.2.2 ≤ 9223372036854775807 ∧ (uwN (Prod.fst x'1) (Prod.fst (Prod.snd
      x'1)) = 0 → y1.2.2 = 0) → ∀ (s3 : List UInt8), s3 = uwL (Prod.fst x'1) (Prod.fst (Prod.snd x'1)) → ∀ (v18 : Int), v18 = uwE (Prod.fst x'1) (Prod.fst (Prod.snd x'1)) → ∀ (t8 : Bool), (t8 = if (v18 == (0 : Int)) = true then s3 == d else false) → ∀ (v19 : Int), v19 = (↑(uwN (Prod.fst x'1) (Prod.fst (Prod.snd x'1))) : Int) → ∀ (t9 : Bool), (t9 = if t8 = true then v19 == n else false) → ∀ (t10 : Bool),
      t10 = true → ∀ (t11 : Bool), (t11 = if t9 = true then t10 else false) → t11 = true) ∧ (t7 = false → ∀ (v18 : Int), v18 = IntKind.i64.wrap (v10 + (↑b4 : Int)) → ∀ (v19 : Int), v19 = IntKind.i64.wrap (v10 + (↑b4 : Int)) → 0 ≤ v19 ∧ v19 < (↑(List.length s1) : Int) ∧ (0 : Int) ≤ (↑b4 : Int) ∧ (↑b4 : Int) < (↑(List.length s) : Int) ∧ ((b2 = b2 ∧ 0 = 0) ∧ Int.toNat v19 < List.length s1 ∧ ∀ (v20 : Int),
      v20 = IntKind.u8.wrap (↑(BitVec.toNat (BitVec.ofInt (IntKind.u8.bits) (↑(buW (d, n, (a, s, ()), ()) b4 (Int.toNat v19)) : Int) ^^^ BitVec.ofInt (IntKind.u8.bits) (↑(UInt8.toNat (List.getD s (Int.toNat (↑b4 : Int)) (0 : UInt8))) : Int))) : Int) → 0 ≤ v18 ∧ v18 < (↑(List.length s1) : Int) ∧ ((b2 = b2 ∧ 0 = 0) ∧ Int.toNat v18 < List.length s1 ∧ ∀ (v21 : Int), v21 = IntKind.i64.wrap ((↑b4 : Int) + (1 :
      Int)) → ∃ (x2 : Nat), v21 = (↑x2 : Int) ∧ ((b2 = b2 ∧ 0 = 0 ∧ false = false ∧ List.length s1 ≤ List.length s1 ∧ List.length s1 ≤ b3 ∧ b3 ≤ b3) ∧ ∀ (i2 : Nat), i2 < List.length s1 → (if i2 = Int.toNat v18 then v20 else (↑(buW (d, n, (a, s, ()), ()) b4 i2) : Int)) = (↑(buW (d, n, (a, s, ()), ()) x2 i2) : Int)) ∧ buI (d, n, (a, s, ()), ()) x2 ∧ List.length s - x2 < List.length s - b4) ∧ True) ∧ True))
      ∧ (t6 = false → List.length s1 ≤ List.length s1 ∧ (∀ (k1 : Nat), k1 < List.length s1 → true = true) ∧ (b2 = b2 ∧ 0 = 0) ∧ ∀ (s2 : List UInt8), s2 = Byt.of (fun (k : Nat) ↦ (↑(buW (d, n, (a, s, ()), ()) b4 k) : Int)) (List.length s1) → true = true ∧ ∀ (x'1 : List UInt8 × Int × Unit × Unit), x'1 = (s2, n, (), ()) → ∀ (y1 : Nat × Nat × Nat), uwN (Prod.fst x'1) (Prod.fst (Prod.snd x'1)) ≤ y1.2.2 ∧
      y1.2.2 ≤ 9223372036854775807 ∧ (uwN (Prod.fst x'1) (Prod.fst (Prod.snd x'1)) = 0 → y1.2.2 = 0) → ∀ (s3 : List UInt8), s3 = uwL (Prod.fst x'1) (Prod.fst (Prod.snd x'1)) → ∀ (v16 : Int), v16 = uwE (Prod.fst x'1) (Prod.fst (Prod.snd x'1)) → ∀ (t7 : Bool), (t7 = if (v16 == (0 : Int)) = true then s3 == d else false) → ∀ (v17 : Int), v17 = (↑(uwN (Prod.fst x'1) (Prod.fst (Prod.snd x'1))) : Int) → ∀ (t8 :
      Bool), (t8 = if t7 = true then v17 == n else false) → ∀ (t9 : Bool), t9 = true → ∀ (t10 : Bool), (t10 = if t8 = true then t9 else false) → t10 = true))))) (by kernel_rfl) ?_
  try simp only [eq_self, true_and, and_true, Nat.le_refl, implies_true, forall_const, Bool.false_eq_true, Bool.true_eq_false, reduceCtorEq, false_imp_iff, true_imp_iff, Int.toNat_zero, Int.toNat_natCast, Nat.zero_lt_one, Int.le_refl, allGet]
  obtain ⟨-, -, ⟨-, R1, -⟩, -⟩ := hR
  dsimp only at R1
  intro v1 h1 t1 ht1 t2 ht2
  refine ⟨fun _ t h => h, fun hf s1 hs1 v2 h2 => ?_⟩
  have kn : d.length ≤ 900 ∧ 1 ≤ n ∧ n ≤ 4 := by
    rw [hf] at ht2
    cases t1 with
    | true => cases ht2
    | false =>
      have q2 : ¬ n > 4 := of_decide_eq_false ht2.symm
      by_cases q : v1 > 900
      · rw [if_pos (decide_eq_true q)] at ht1; cases ht1
      · rw [if_neg (by rw [decide_eq_false q]; decide)] at ht1
        have := of_decide_eq_false ht1.symm
        omega
  obtain ⟨k1, k2, k3⟩ := kn
  clear ht1 ht2
  refine ⟨fun hne v3 h3 v4 h4 v5 h5 t3 ht3 t4 ht4 t5 ht5 => ?_, fun heq v4 h4 v5 h5 v6 h6 v7 h7 v8 h8 => ?_⟩
  · have hB : wB d n = true := by
      cases q : wB d n with
      | true => rfl
      | false => rw [h2] at hne; unfold wrapE at hne; rw [q] at hne; cases hne
    have e5 : v5 = 223 * n := by rw [h5, w64_id (by omega) (by omega)]
    have e3 : t3 = true := by
      rw [ht3]
      by_cases q : v3 < n
      · rw [if_pos (decide_eq_true q)]
      · rw [if_neg (by rw [decide_eq_false q]; decide)]
        refine decide_eq_true ?_
        unfold wB at hB
        simp only [Bool.or_eq_true, decide_eq_true_eq] at hB
        omega
    rw [ht5, e3, ht4]; rfl
  have hB : wB d n = false := by
    cases q : wB d n with
    | false => rfl
    | true => rw [h2] at heq; unfold wrapE at heq; rw [q] at heq; cases heq
  clear h2 heq
  have hl : s1.length = d.length + 8 * n.toNat := by rw [hs1, wrapL_of hB, List.length_append, bofl_len]
  have e6 : v6 = 8 * n := by rw [h6, w64_id (by omega) (by omega)]
  have e7 : v7 = (d.length : Int) + 8 * n := by rw [h7, e6, h5, w64_id (by omega) (by omega)]
  have e47 : v4 = v7 := by rw [h4, e7, hl]; omega
  have hne : (v4 != v7) = false := by rw [e47]; simp
  have hW : wrapL d n = s1 := hs1.symm
  refine ⟨fun _ => by omega, fun _ => by omega, fun _ => by omega, fun t4 ht4 => ?_⟩
  have f4 : t4 = false := by
    rw [ht4, if_neg (by rw [hne]; decide), h8, hs1, wrapL_of hB]
    simp
  refine ⟨fun q => (by rw [f4] at q; cases q), fun _ b3 hb1 hb2 v9 h9 => ⟨by omega, by omega, fun v10 h10 => ?_⟩⟩
  have hP : buP (d, n, (a, s, ()), ()) = v10.toNat := by unfold buP; rw [h10, h9, hs1]
  obtain ⟨r1, r2⟩ := pick_range a (n := v9) (by omega) (by omega)
  rw [← h10] at r1 r2
  have fin : ∀ (i : Nat), buI (d, n, (a, s, ()), ()) i → ∀ (s2 : List UInt8), s2 = Byt.of (fun k => ((buW (d, n, (a, s, ()), ()) i k : Nat) : Int)) s1.length → ∀ x' : List UInt8 × Int × Unit × Unit, x' = (s2, n, (), ()) → ∀ y1 : Nat × Nat × Nat, uwN x'.1 x'.2.1 ≤ y1.2.2 ∧ y1.2.2 ≤ 9223372036854775807 ∧ (uwN x'.1 x'.2.1 = 0 → y1.2.2 = 0) → ∀ s3 : List UInt8, s3 = uwL x'.1 x'.2.1 → ∀ v : Int, v = uwE x'.1 x'.2.1 → ∀ t : Bool, (t = if (v == 0) = true then s3 == d else false) → ∀ w : Int, w = ((uwN x'.1 x'.2.1 : Nat) : Int) → ∀ t1 : Bool, (t1 = if t = true then w == n else false) → ∀ t2 : Bool, t2 = true → ∀ t3 : Bool, (t3 = if t1 = true then t2 else false) → t3 = true := by
    intro i hi s2 hs2 x' hx' y1 _ s3 hs3 v hv t ht w hw t1 ht1 t2 ht2 t3 ht3
    subst hx'
    dsimp only at hs3 hv hw
    have e2 : s2 = ofN (buW (d, n, (a, s, ()), ()) i) (wrapL d n).length := by rw [hs2, hW]; rfl
    obtain ⟨g1, g2, g3⟩ := bur_end hB hi
    rw [← e2] at g1 g2 g3
    rw [g1] at hs3
    rw [g2] at hv
    rw [g3] at hw
    have a1 : t = true := by rw [ht, hv, hs3]; simp
    have a2 : t1 = true := by rw [ht1, a1, if_pos rfl, beq_iff_eq]; omega
    rw [ht3, a2, ht2]; rfl
  refine ⟨⟨0, rfl, ⟨hb1, fun k hk => ?_⟩, Nat.zero_le _, Nat.zero_le _, ?_, ?_⟩, fun i hi v11 h11 v12 h12 t5 ht5 v13 h13 v14 h14 t6 ht6 => ⟨fun hlt v15 h15 v16 h16 v17 h17 t7 ht7 => ⟨fun hbr => ?_, fun hgo v18 h18 v19 h19 => ?_⟩, fun hge => ?_⟩⟩
  · unfold buW buF
    rw [if_neg (by omega), hW]
    rfl
  · rw [hP, hW]; omega
  · rw [hP]; omega
  · exact fin i hi
  · have i1 : i ≤ s.length := hi.1
    have i2 : i ≤ 4 * n.toNat := hi.2.1
    have i3 := hi.2.2.1
    have i4 : buP (d, n, (a, s, ()), ()) < d.length → buP (d, n, (a, s, ()), ()) + i ≤ d.length := hi.2.2.2
    rw [hW] at i3
    rw [hP] at i3 i4
    have q13 : v13 = v10 + i := by rw [h13, w64_id (by omega) (by omega)]
    have q16 : v16 = v10 + i := by rw [h16, w64_id (by omega) (by omega)]
    have q18 : v18 = v10 + i := by rw [h18, w64_id (by omega) (by omega)]
    have q19 : v19 = v10 + i := by rw [h19, w64_id (by omega) (by omega)]
    have q12 : v12 = 4 * n := by rw [h12, w64_id (by omega) (by omega)]
    have hg : (i : Int) < v11 ∧ (i : Int) < v12 ∧ v13 < v14 := by
      rw [hlt] at ht6
      cases e5 : t5 with
      | false => rw [e5] at ht6; cases ht6
      | true =>
        rw [e5] at ht5 ht6
        have g3 : v13 < v14 := of_decide_eq_true ht6.symm
        by_cases q : (i : Int) < v11
        · rw [if_pos (decide_eq_true q)] at ht5
          exact ⟨q, of_decide_eq_true ht5.symm, g3⟩
        · rw [if_neg (by rw [decide_eq_false q]; decide)] at ht5; cases ht5
    obtain ⟨g1, g2, g3⟩ := hg
    have hno : ¬ (v10 < d.length ∧ (d.length : Int) ≤ v10 + i) := fun ⟨c1, c2⟩ => by
      rw [if_pos (decide_eq_true (by omega)), decide_eq_true (show v16 ≥ v17 by omega), hgo] at ht7
      cases ht7
    clear ht5 ht6 ht7
    refine ⟨by omega, by omega, by omega, by omega, by omega, fun v20 h20 => ⟨by omega, by omega, by omega, fun v21 h21 => ⟨i + 1, h21.trans (l_succ (by omega)), ⟨hb1, fun k hk => ?_⟩, ⟨by dsimp only; omega, by dsimp only; omega, by rw [hP, hW]; omega, fun q => by rw [hP] at q ⊢; dsimp only at q ⊢; omega⟩, by omega⟩⟩⟩
    have hx : v20 = ((Nat.xor (buW (d, n, (a, s, ()), ()) i v19.toNat) (co s i) : Nat) : Int) := by
      rw [h20]
      exact xor8 (buF_lt _ _ _ _ _) (co_lt _ _)
    clear h20
    have ev : v19.toNat = v10.toNat + i := by omega
    have ev8 : v18.toNat = v10.toNat + i := by omega
    rw [hx, ev, ev8]
    unfold buW buF
    rw [hP]
    dsimp only
    by_cases q : k = v10.toNat + i
    · rw [if_pos q, if_neg (by omega), if_pos (by omega), q, Nat.add_sub_cancel_left]
    · rw [if_neg q]
      by_cases q2 : v10.toNat ≤ k ∧ k < v10.toNat + i
      · rw [if_pos q2, if_pos (by omega)]
      · rw [if_neg q2, if_neg (by omega)]
  · exact fin i hi
section
variable {H : Type} {enc : TypeId × Value → H}
theorem burTop (W : World) (base : Nat) : OpTop enc Tryd.prog W base Tryd.f6.params.toList aBur (fun x => x.1.length ≤ 140737488351232 ∧ inKind .i64 x.2.1 ∧ (inKind .i64 x.2.2.1.1 ∧ x.2.2.1.2.1.length ≤ 140737488351232 ∧ True) ∧ True) :=
  .cons (.elt (ct := [9]) (.str (by kernel_rfl) (by kernel_rfl)) (by kernel_rfl)) (.inr ⟨notStruct (by kernel_rfl), notArray (by kernel_rfl), rfl, fun _ _ => rfl⟩)
    (.cons (.elt (ct := [3]) (.int (by kernel_rfl) (by kernel_rfl)) (by kernel_rfl)) (.inr ⟨notStruct (by kernel_rfl), notArray (by kernel_rfl), rfl, fun _ _ => rfl⟩)
      (.cons (.agg (ct := [3] ++ ([9] ++ [])) (tot := 2) (by kernel_rfl) (by kernel_rfl) rfl (.cons (off := 0) (.elt (ct := [3]) (.int (t := 3) (by kernel_rfl) (by kernel_rfl)) (by kernel_rfl)) rfl (.cons (off := 1) (.elt (ct := [9]) (.str (t := 9) (by kernel_rfl) (by kernel_rfl)) (by kernel_rfl)) rfl (.nil (ct := []))))) (.inl ⟨by kernel_rfl, by kernel_rfl, fun _ _ => rfl⟩) .nil))
end
end Galois
