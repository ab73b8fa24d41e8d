/-
  OWN WORK. Block: SameInts; the law BlockDecodes.
-/
import Derived.Test.YtoefjmachoakpaaGreatDoorCG
import Derived.Test.YtoefjmachoakpaaGreatDoorBI
namespace Galois
open Go Go.Proofs Eng
set_option linter.unusedVariables false
set_option linter.unusedSimpArgs false
set_option maxHeartbeats 8000000
set_option maxRecDepth 100000

/-- Are the first n pairs equal? -/
def eqTo (p : Nat → Bool) : Nat → Bool
  | 0 => true
  | n + 1 => eqTo p n && p n
theorem eqTo_no {p : Nat → Bool} {i : Nat} (h : p i = false) : ∀ {n : Nat}, i < n → eqTo p n = false
  | n + 1, hi => by
    simp only [eqTo]
    by_cases e : i = n
    · subst e; rw [h, Bool.and_false]
    · rw [eqTo_no h (by omega), Bool.false_and]
theorem eqTo_yes {p : Nat → Bool} : ∀ {n : Nat}, (∀ i, i < n → p i = true) → eqTo p n = true
  | 0, _ => rfl
  | n + 1, h => by simp only [eqTo]; rw [eqTo_yes fun i hi => h i (by omega), h n (by omega)]; rfl
abbrev aRows : ArgL (RowD Int × RowD Int × Unit) := .cons (.row (.int .i64)) (.cons (.row (.int .i64)) .nil)
def intsB (a b : RowD Int) : Bool := decide (a.n = b.n) && eqTo (fun i => a.f i == b.f i) a.n
def intsC := pcOf aRows (fun _ => []) (fun x => .bool (intsB x.1 x.2.1))
theorem ints_ok : PcOk Tryz.prog 14 intsC := by
  refine pcOf_run (fun _ => E0_ok) Tryz.func14 rfl (by kernel_rfl) (fun _ => trivial)
    (fun x => [.lp 4 Nat [5] (fun i => [.int .i64 (i : Nat)]) (fun i => i ≤ x.1.n ∧ eqTo (fun i => x.1.f i == x.2.1.f i) i = true) fun i => x.1.n - i, .draw 6 (.take 0 (.take 1 (.take 2 (.take 3 (.take 4 (.take 5 (.take 6 (.take 7 (.take 8 .fin))))))))) []])
    (fun _ => Nat.le_of_ble_eq_true rfl) (fun ⟨⟨b, o, n, c, z, f⟩, ⟨b2, o2, n2, c2, z2, f2⟩, ()⟩ hp hw => ?_)
  have hn : n ≤ c ∧ c ≤ 9223372036854775807 := (hw _ (List.mem_cons_self ..)).2
  refine vc_of (q :=
      ∀ (v1 : Int), v1 = (↑n : Int) → ∀ (v2 : Int), v2 = (↑n2 : Int) → ((v1 != v2) = true → false = intsB (Eng.RowD.mk b o n c z f) (Eng.RowD.mk b2 o2 n2 c2 z2 f2)) ∧ ((v1 != v2) = false → (∃ (x1 : Nat), (0 : Int) = (↑x1 : Int) ∧ x1 ≤ n ∧ eqTo (fun (i : Nat) ↦ f i == f2 i) x1 = true) ∧ ∀ (b1 : Nat), b1 ≤ n ∧ eqTo (fun (i : Nat) ↦ f i == f2 i) b1 = true → ∀ (v3 : Int), v3 = (↑n : Int) → (decide ((↑b1 :
      Int) < v3) = true → (0 : Int) ≤ (↑b1 : Int) ∧ (↑b1 : Int) < (↑n : Int) ∧ (b = b ∧ o = o) ∧ b1 < n ∧ (0 : Int) ≤ (↑b1 : Int) ∧ (↑b1 : Int) < (↑n2 : Int) ∧ (b2 = b2 ∧ o2 = o2) ∧ b1 < n2 ∧ ((f b1 != f2 b1) = true → false = intsB (Eng.RowD.mk b o n c z f) (Eng.RowD.mk b2 o2 n2 c2 z2 f2)) ∧ ((f b1 != f2 b1) = false → ∀ (v4 : Int), v4 = IntKind.i64.wrap ((↑b1 : Int) + (1 : Int)) → ∃ (x2 : Nat), v4 = (↑x2
      : Int) ∧ (x2 ≤ n ∧ eqTo (fun (i : Nat) ↦ f i == f2 i) x2 = true) ∧ n - x2 < n - b1)) ∧ (decide ((↑b1 : Int) < v3) = false → true = intsB (Eng.RowD.mk b o n c z f) (Eng.RowD.mk b2 o2 n2 c2 z2 f2)))) (by kernel_rfl) ?_
  try simp only [eq_self, true_and, and_true, Nat.le_refl, implies_true, forall_const, Bool.false_eq_true, Bool.true_eq_false, reduceCtorEq, false_imp_iff, true_imp_iff, Int.toNat_zero, Int.toNat_natCast, Nat.zero_lt_one, Int.le_refl, allGet]
  intro v1 h1 v2 h2
  subst h1 h2
  refine ⟨fun h => ?_, fun h => ⟨⟨0, rfl, Nat.zero_le _, rfl⟩, fun i hi v3 hv3 => ?_⟩⟩
  · have : ¬ n = n2 := fun q => by subst q; simp at h
    show false = (decide (n = n2) && _)
    rw [decide_eq_false this]; rfl
  have hnn : n = n2 := by
    have : (n : Int) = n2 := by simpa using h
    omega
  obtain ⟨hi, he⟩ := hi
  subst hv3
  refine ⟨fun hlt => ?_, fun hge => ?_⟩
  · have hlt := of_decide_eq_true hlt
    refine ⟨by omega, by omega, by omega, by omega, by omega, by omega, fun q => ?_, fun q v3 h3 => ⟨i + 1, h3.trans (l_succ (by omega)), ⟨by omega, ?_⟩, by omega⟩⟩
    · have q : (f i == f2 i) = false := by simpa using q
      show false = (_ && eqTo (fun i => f i == f2 i) n)
      rw [eqTo_no (p := fun i => f i == f2 i) q (by omega), Bool.and_false]
    · have q : (f i == f2 i) = true := by simpa using q
      rw [eqTo, he]
      exact q
  · have hge := of_decide_eq_false hge
    obtain rfl : i = n := by omega
    show true = (decide (i = n2) && eqTo (fun i => f i == f2 i) i)
    rw [decide_eq_true hnn, he]; rfl
noncomputable def EL5 : Env := ((((EL1.addP 8 decode).addP 14 intsC).addQ 22 eqSl).inl 6 Tryz.f6 fun _ _ => []).inl 9 Tryz.f9 fun _ _ => []
theorem EL5_ok : EnvOk Tryz.prog EL5 := ((((EL1_ok.addP decodeR_ok).addP ints_ok).addQ (eqSl_ok (e := 3) (by kernel_rfl))).inl _ Tryz.func6 rfl (by kernel_rfl)).inl _ Tryz.func9 rfl (by kernel_rfl)
/-- What LendInts has made. -/
def lendA (x : RowD Int) : List An :=
  [.join ⟨4, Nat × Nat × Nat, [5], fun y => [.slice 300 y.1 y.2.1 [] 1 0 x.n y.2.2 x.z], [], fun y => [⟨300, y.1, y.2.1, 1, if x.z then 0 else x.n + 1, fun k => .int .i64 (if k < x.n then x.f k else -77177), true, false, y.2.2, 3, x.z, none⟩], fun y => (x.z = false → x.n + 1 ≤ y.2.2) ∧ y.2.2 ≤ 9223372036854775807 ∧ (x.z = true → x.n = 0 ∧ y.2.2 = 0), fun _ => 0⟩ 500]
theorem fstL_congr {f g : Nat → Int} : ∀ n, (∀ k, k < n → f k = g k) → fstL f n = fstL g n
  | 0, _ => rfl
  | n + 1, h => by
    unfold fstL
    rw [fstL_congr n fun k hk => h k (by omega), h n (by omega)]
theorem decB_congr {b : List UInt8} {f g : Nat → Int} {n : Nat} (h : ∀ k, k < n → f k = g k) : decB b f n = decB b g n := by
  unfold decB
  rw [noneTo_congr (q := outP g b.length) n fun k hk => by unfold outP; rw [h k hk]]
/-- What Decode returns depends on the places alone that are told. -/
theorem dec_congr {b : List UInt8} {f g : Nat → Int} {n : Nat} (h : ∀ k, k < n → f k = g k) : decL b f n = decL b g n ∧ decN b f n = decN b g n ∧ decE b f n = decE b g n := by
  have hB := decB_congr (b := b) h
  have e : decB b g n = false → decR b (ownL f n) = decR b (ownL g n) := fun q => by
    obtain ⟨b1, b2, b3⟩ := decB_false (hB.trans q)
    obtain ⟨_, _, b4⟩ := decB_false q
    rw [← fst_own b1 b2 b3, ← fst_own b1 b2 b4, fstL_congr n h]
  unfold decL decN decE
  rw [hB]
  by_cases q : decB b g n = true
  · rw [if_pos q, if_pos q, if_pos q, if_pos q, if_pos q, if_pos q]
    exact ⟨rfl, rfl, rfl⟩
  · rw [if_neg q, if_neg q, if_neg q, if_neg q, if_neg q, if_neg q, e (by simpa using q)]
    exact ⟨rfl, rfl, rfl⟩
theorem decodes_walk : ∀ (x : List UInt8 × RowD Int × Unit) (hR : x.1.length ≤ 140737488351232 ∧ (x.2.1.n ≤ x.2.1.c ∧ x.2.1.c * 8 ≤ 140737488351232 ∧ ∀ i, i < x.2.1.n → inKind .i64 (x.2.1.f i)) ∧ True) (hw : ∀ v ∈ aMd.svs 0 x, v.wf), exCode EL5 Tryz.f3.ntmps (lendA x.2.1) (match Tryz.f3.body with | some c => c | none => .skip) (argFr 0 (aMd.svs 0 x)) (aMd.hp 0 x) aMd.tags (atEnd EL5 Tryz.f3.results.toList fun r _ _ => eqv r (.bool true)) := by
  refine fun ⟨b, ⟨eb, eo, n, c, z, er⟩, ()⟩ hR hw => ?_
  refine vc_of (q :=
      ∀ (v1 : Int), v1 = (↑(List.length b) : Int) → ∀ (v2 : Int), v2 = (↑n : Int) → ∀ (t1 : Bool), (t1 = if decide (v1 > (300 : Int)) = true then true else decide (v2 > (300 : Int))) → (t1 = true → ∀ (t2 : Bool), t2 = true → t2 = true) ∧ (t1 = false → ((z = true → ∃ (x1 : Nat × Nat × Nat), SVeq (SV.slice 999999 0 0 [] 0 0 0 0 true) (SV.slice 300 x1.1 x1.2.1 [] 1 0 n x1.2.2 z) ∧ (z = true ∧ (if z = true
      then 0 else n + 1) = 0 ∧ x1.2.2 = 0) ∧ (z = false → n + 1 ≤ x1.2.2) ∧ x1.2.2 ≤ 9223372036854775807 ∧ (z = true → n = 0 ∧ x1.2.2 = 0)) ∧ (z = false → ∀ (v3 : Int), v3 = (↑n : Int) → ∀ (v4 : Int), v4 = IntKind.i64.wrap (v3 + (1 : Int)) → (0 : Int) ≤ (0 : Int) ∧ 0 ≤ v4 ∧ v4 * (↑(8 : Nat) : Int) ≤ (140737488355328 : Int) ∧ v4 ≤ 9223372036854775807 ∧ ∀ (b1 : Nat), (b1 = b1 ∧ 0 = 0) ∧ (false = true →
      false = true) ∧ 0 = 0 ∧ Int.toNat (0 : Int) ≤ Int.toNat v4 ∧ Int.toNat v4 ≤ Int.toNat v4 ∧ (Int.toNat (0 : Int) + n) * 8 ≤ 140737488355328 ∧ Int.toNat (0 : Int) + n ≤ 9223372036854775807 ∧ n ≤ n ∧ (eb = eb ∧ eo = eo) ∧ ∀ (b2 b3 b4 : Nat), Int.toNat (0 : Int) + n ≤ b4 → b4 ≤ 9223372036854775807 → (false = true → n = 0 → b4 = 0) → ∀ (b5 : Nat), (b2 = b2 ∧ b3 = b3) ∧ ((false && decide (n = 0)) = true
      → (false && decide (n = 0)) = true) ∧ 0 = 0 ∧ Int.toNat (0 : Int) + n ≤ Int.toNat (0 : Int) + n ∧ b4 ≤ b4 ∧ (Int.toNat (0 : Int) + n + 1) * 8 ≤ 140737488355328 ∧ Int.toNat (0 : Int) + n + 1 ≤ 9223372036854775807 ∧ 1 ≤ 1 ∧ (b5 = b5 ∧ 0 = 0) ∧ ∀ (b6 b7 b8 : Nat), Int.toNat (0 : Int) + n + 1 ≤ b8 → b8 ≤ 9223372036854775807 → ((false && decide (n = 0)) = true → 1 = 0 → b8 = 0) → ∀ (v5 : Int), v5 = (↑n
      : Int) → 0 ≤ v5 ∧ v5 ≤ (↑b8 : Int) ∧ ∃ (x2 : Nat × Nat × Nat), (b6 = x2.1 ∧ b7 = x2.2.1 ∧ 0 = 0 ∧ Int.toNat v5 = n ∧ b8 = x2.2.2 ∧ (false && decide (n = 0) && decide (1 = 0)) = z) ∧ ((b6 = x2.1 ∧ b7 = x2.2.1 ∧ (false && decide (n = 0) && decide (1 = 0)) = z ∧ (if z = true then 0 else n + 1) ≤ Int.toNat (0 : Int) + n + 1 ∧ (if z = true then 0 else n + 1) ≤ x2.2.2 ∧ x2.2.2 ≤ b8) ∧ ∀ (i1 : Nat), (i1 <
      if z = true then 0 else n + 1) → (if i1 < Int.toNat (0 : Int) + n then if i1 < Int.toNat (0 : Int) then (0 : Int) else er (i1 - Int.toNat (0 : Int)) else (-77177 : Int)) = if i1 < n then er i1 else (-77177 : Int)) ∧ (z = false → n + 1 ≤ x2.2.2) ∧ x2.2.2 ≤ 9223372036854775807 ∧ (z = true → n = 0 ∧ x2.2.2 = 0))) ∧ ∀ (x2 : Nat × Nat × Nat), (z = false → n + 1 ≤ x2.2.2) ∧ x2.2.2 ≤ 9223372036854775807 ∧
      (z = true → n = 0 ∧ x2.2.2 = 0) → (n ≤ if z = true then 0 else n + 1) ∧ (∀ (k1 : Nat), k1 < n → true = true) ∧ (x2.1 = x2.1 ∧ x2.2.1 = x2.2.1) ∧ n ≤ 1000000 ∧ ∀ (s1 : List UInt8), s1 = decL b (fun (k : Nat) ↦ if k < n then er k else (-77177 : Int)) n → ∀ (v4 : Int), v4 = decN b (fun (k : Nat) ↦ if k < n then er k else (-77177 : Int)) n → ∀ (v5 : Int), v5 = decE b (fun (k : Nat) ↦ if k < n then er k
      else (-77177 : Int)) n → n ≤ n ∧ (∀ (k2 : Nat), k2 < n → true = true) ∧ (eb = eb ∧ eo = eo) ∧ n ≤ 1000000 ∧ ∀ (s2 : List UInt8), s2 = decL b er n → ∀ (v6 : Int), v6 = decN b er n → ∀ (v7 : Int), v7 = decE b er n → ∀ (t3 : Bool), (t3 = if (s1 == s2) = true then v4 == v6 else false) → ∀ (t4 : Bool), (t4 = if t3 = true then v5 == v7 else false) → (t4 = true → (n ≤ if z = true then 0 else n + 1) ∧ (∀
      (k3 : Nat), k3 < n → true = true) ∧ (x2.1 = x2.1 ∧ x2.2.1 = x2.2.1) ∧ n ≤ n ∧ (∀ (k4 : Nat), k4 < n → true = true) ∧ (eb = eb ∧ eo = eo) ∧ ∀ (t5 : Bool), t5 = intsB (Eng.RowD.mk x2.1 x2.2.1 n x2.2.2 z fun (k : Nat) ↦ if k < n then er k else (-77177 : Int)) (Eng.RowD.mk eb eo n c z er) → ∀ (v8 : Int), v8 = (↑n : Int) → ∀ (v9 : Int), v9 = IntKind.i64.wrap (v8 + (1 : Int)) → (z = false ∧ t5 = true → 0
      ≤ v9) ∧ (z = false ∧ t5 = true → v9 ≤ (↑x2.2.2 : Int)) ∧ ∀ (v10 : Int), v10 = (↑n : Int) → (z = false ∧ t5 = true → 0 ≤ v10) ∧ (z = false ∧ t5 = true → v10 < (↑(Int.toNat v9) : Int)) ∧ (z = false ∧ t5 = true → x2.1 = x2.1 ∧ x2.2.1 = x2.2.1) ∧ (z = false ∧ t5 = true → Int.toNat v10 < if z = true then 0 else n + 1) ∧ ∀ (t6 : Bool), (t6 = if z = true then true else (if Int.toNat v10 < n then er
      (Int.toNat v10) else (-77177 : Int)) == (-77177 : Int)) → ∀ (t7 : Bool), (t7 = if t5 = true then t6 else false) → ∀ (t8 : Bool), t8 = t7 → ∀ (t9 : Bool), (t9 = if t4 = true then t8 else false) → ∀ (t10 : Bool), t10 = true → ∀ (t11 : Bool), (t11 = if t9 = true then t10 else false) → t11 = true) ∧ ((t4 = true → False) → ∀ (t6 : Bool), (t6 = if t4 = true then false else false) → ∀ (t7 : Bool), t7 =
      true → ∀ (t8 : Bool), (t8 = if t6 = true then t7 else false) → t8 = true))) (by kernel_rfl) ?_
  try simp only [eq_self, true_and, and_true, Nat.le_refl, implies_true, forall_const, Bool.false_eq_true, Bool.true_eq_false, reduceCtorEq, false_imp_iff, true_imp_iff, Int.toNat_zero, Int.toNat_natCast, Nat.zero_lt_one, Int.le_refl, allGet]
  obtain ⟨-, ⟨R1, R2, R3⟩, -⟩ := hR
  dsimp only at R1 R2 R3
  have hz : z = true → n = 0 ∧ c = 0 := (hw _ (List.mem_cons_of_mem _ (List.mem_cons_self ..))).1
  intro v1 h1 v2 h2 t1 ht1
  refine ⟨fun _ t h => h, fun hf => ?_⟩
  have hn : n ≤ 300 := by
    rw [hf] at ht1
    by_cases q : v1 > 300
    · rw [if_pos (decide_eq_true q)] at ht1; cases ht1
    · rw [if_neg (by rw [decide_eq_false q]; decide)] at ht1
      have := of_decide_eq_false ht1.symm
      omega
  clear ht1 hf h1 h2
  refine ⟨⟨fun h => ?_, fun h v3 h3 v4 h4 => ?_⟩, ?_⟩
  · obtain ⟨n0, -⟩ := hz h
    refine ⟨(0, 0, 0), nil_eqv h n0 rfl, ⟨h, by rw [if_pos h], rfl⟩, fun q => (by rw [h] at q; cases q), by dsimp only; omega, fun _ => ⟨n0, rfl⟩⟩
  · have e4 : v4 = ((n + 1 : Nat) : Int) := by rw [h4, h3, w64_id (by omega) (by omega)]; rfl
    subst e4
    rw [h]
    refine ⟨by omega, by omega, by omega, by omega, by omega, by omega, fun b4 g1 g2 => ⟨fun q => q, by omega, by omega, fun b6 b7 b8 g3 g4 v5 h5 => ⟨by omega, by omega, (b6, b7, b8), ⟨rfl, rfl, by omega, rfl, rfl⟩, ⟨⟨rfl, rfl, rfl, by rw [if_neg (by decide)]; omega, by rw [if_neg (by decide)]; dsimp only; omega, Nat.le_refl _⟩, fun i hi => ?_⟩, fun _ => by dsimp only; omega, g4, fun q => by cases q⟩⟩⟩
    by_cases q : i < n
    · rw [if_pos (by omega), if_neg (Nat.not_lt_zero _), if_pos q, Nat.sub_zero]
    · rw [if_neg (by omega), if_neg q]
  rintro ⟨y1, y2, y3⟩ ⟨g1, g2, g3⟩
  dsimp only at g1 g2 g3 ⊢
  have hm : n ≤ if z = true then 0 else n + 1 := by
    cases hzz : z with
    | true => rw [if_pos rfl]; have := hz hzz; omega
    | false => rw [if_neg (by decide)]; omega
  obtain ⟨d1, d2, d3⟩ := dec_congr (b := b) (f := fun k => if k < n then er k else -77177) (g := er) (n := n) (fun k hk => if_pos hk)
  refine ⟨hm, by omega, fun s1 hs1 v4 h4 v5 h5 => ⟨by omega, fun s2 hs2 v6 h6 v7 h7 t3 ht3 t4 ht4 => ?_⟩⟩
  have e1 : s1 = s2 := by rw [hs1, hs2, d1]
  have e2 : v4 = v6 := by rw [h4, h6, d2]
  have e3 : v5 = v7 := by rw [h5, h7, d3]
  have f3 : t3 = true := by rw [ht3, e1, e2]; simp
  have f4 : t4 = true := by rw [ht4, f3, e3]; simp
  refine ⟨fun _ => ⟨hm, fun t5 ht5 v8 h8 v9 h9 => ?_⟩, fun q => absurd f4 q⟩
  have f5 : t5 = true := by
    rw [ht5]
    show (decide (n = n) && eqTo (fun i => (if i < n then er i else -77177) == er i) n) = true
    rw [decide_eq_true rfl, eqTo_yes fun i hi => by rw [if_pos hi]; simp]
    rfl
  have e9 : v9 = ((n + 1 : Nat) : Int) := by rw [h9, h8, w64_id (by omega) (by omega)]; rfl
  refine ⟨fun _ => by omega, fun q => by have := g1 q.1; omega, fun v10 h10 => ⟨fun _ => by omega, fun _ => by omega, fun q => by rw [q.1, if_neg (by decide)]; omega, fun t6 ht6 t7 ht7 => ?_⟩⟩
  have f6 : t6 = true := by
    rw [ht6]
    split
    · rfl
    · rw [if_neg (by omega)]; rfl
  have f7 : t7 = true := by
    rw [ht7, f5, f6]
    rfl
  intro t8 ht8 t9 ht9 t10 ht10 t11 ht11
  rw [ht11, ht10, ht9, f4, ht8, f7]
  rfl
section
variable {H : Type} {enc : TypeId × Value → H}
theorem decodesTop (W : World) (base : Nat) : OpTop enc Tryz.prog W base Tryz.f3.params.toList aMd (fun x => x.1.length ≤ 140737488351232 ∧ (x.2.1.n ≤ x.2.1.c ∧ x.2.1.c * 8 ≤ 140737488351232 ∧ ∀ i, i < x.2.1.n → inKind .i64 (x.2.1.f i)) ∧ True) :=
  .cons (.elt (ct := [9]) (.str (by kernel_rfl) (by kernel_rfl)) (by kernel_rfl)) (.inr ⟨notStruct (by kernel_rfl), notArray (by kernel_rfl), rfl, fun _ _ => rfl⟩)
    (.cons (.row (e := 3) (by kernel_rfl) (.int (by kernel_rfl) (by kernel_rfl)) (by kernel_rfl) (by kernel_rfl)) (.inr ⟨notStruct (by kernel_rfl), notArray (by kernel_rfl), rfl, fun _ _ => rfl⟩) .nil)
end
end Galois
