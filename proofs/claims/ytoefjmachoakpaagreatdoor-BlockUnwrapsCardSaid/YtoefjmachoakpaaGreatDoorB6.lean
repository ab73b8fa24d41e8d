/-
  OWN WORK. Block: functions of lists of numbers.
-/
import Derived.Test.YtoefjmachoakpaaGreatDoorB5
namespace Galois
open Go Go.Proofs Eng
set_option linter.unusedVariables false
set_option linter.unusedSimpArgs false
set_option maxHeartbeats 4000000
set_option maxRecDepth 100000

/-! ### the first place of a kind -/
/-- The first index below n of that kind, or -1. -/
def fstI (p : Nat → Bool) : Nat → Int
  | 0 => -1
  | n + 1 => if 0 ≤ fstI p n then fstI p n else if p n then (n : Int) else -1
def noneTo (p : Nat → Bool) : Nat → Bool
  | 0 => true
  | n + 1 => noneTo p n && !p n
theorem fstI_none {p : Nat → Bool} : ∀ {n : Nat}, noneTo p n = true → fstI p n = -1
  | 0, _ => rfl
  | n + 1, h => by
    simp only [noneTo, Bool.and_eq_true, Bool.not_eq_true'] at h
    simp only [fstI]
    rw [fstI_none h.1, if_neg (by omega), h.2]
    rfl
theorem fstI_at {p : Nat → Bool} {i : Nat} (h : noneTo p i = true) (hp : p i = true) : ∀ {n : Nat}, i < n → fstI p n = i
  | n + 1, hi => by
    simp only [fstI]
    by_cases q : i = n
    · subst q
      rw [fstI_none h, if_neg (by omega), hp]
      rfl
    · rw [fstI_at h hp (by omega : i < n), if_pos (by omega)]
theorem noneTo_iff {p : Nat → Bool} : ∀ {n : Nat}, noneTo p n = true ↔ ∀ k, k < n → p k = false
  | 0 => ⟨fun _ k hk => absurd hk (Nat.not_lt_zero k), fun _ => rfl⟩
  | n + 1 => by
    simp only [noneTo, Bool.and_eq_true, Bool.not_eq_true', noneTo_iff (n := n)]
    refine ⟨fun ⟨h1, h2⟩ k hk => ?_, fun h => ⟨fun k hk => h k (by omega), h n (by omega)⟩⟩
    by_cases q : k = n
    · rw [q]; exact h2
    · exact h1 k (by omega)
abbrev aRowI : ArgL (RowD Int × Unit) := .cons (.row (.int .i64)) .nil
abbrev aRowV : ArgL (RowD Int × Int × Unit) := .cons (.row (.int .i64)) (.cons (.elt (.int .i64)) .nil)
def index := pcOf aRowV (fun _ => []) (fun x => .int .i64 (fstI (fun k => x.2.1 == x.1.f k) x.1.n))
theorem index_ok : PcOk Tryz.prog 59 index := by
  refine pcOf_run (fun _ => E0_ok) Tryz.func59 rfl (by kernel_rfl) (fun x => trivial)
    (fun x => [.lp 2 Nat [8] (fun i => [.int .i64 (i : Nat)]) (fun i => i ≤ x.1.n ∧ noneTo (fun k => x.2.1 == x.1.f k) i = true) fun i => x.1.n - i]) (fun _ => Nat.le_of_ble_eq_true rfl) (fun ⟨⟨b, off, n, c, z, f⟩, v, ()⟩ hp hw => ?_)
  have hn : n ≤ c ∧ c ≤ 9223372036854775807 := (hw _ (List.mem_cons_self ..)).2
  refine vc_of (q :=
      ∀ (v1 : Int), v1 = (↑n : Int) → (∃ (x1 : Nat), (0 : Int) = (↑x1 : Int) ∧ x1 ≤ n ∧ noneTo (fun (k : Nat) ↦ v == f k) x1 = true) ∧ ∀ (b1 : Nat), b1 ≤ n ∧ noneTo (fun (k : Nat) ↦ v == f k) b1 = true → (decide ((↑b1 : Int) < v1) = true → (0 : Int) ≤ (↑b1 : Int) ∧ (↑b1 : Int) < (↑n : Int) ∧ (b = b ∧ off = off) ∧ Int.toNat (↑b1 : Int) < n ∧ ((v == f (Int.toNat (↑b1 : Int))) = true → (↑b1 : Int) = fstI
      (fun (k : Nat) ↦ v == f k) n) ∧ ((v == f (Int.toNat (↑b1 : Int))) = false → ∀ (v2 : Int), v2 = IntKind.i64.wrap ((↑b1 : Int) + (1 : Int)) → ∃ (x2 : Nat), v2 = (↑x2 : Int) ∧ (x2 ≤ n ∧ noneTo (fun (k : Nat) ↦ v == f k) x2 = true) ∧ n - x2 < n - b1)) ∧ (decide ((↑b1 : Int) < v1) = false → (-1 : Int) = fstI (fun (k : Nat) ↦ v == f k) n)) (by kernel_rfl) ?_
  try simp only [eq_self, true_and, and_true, Nat.le_refl, implies_true, forall_const, Bool.false_eq_true, Bool.true_eq_false, reduceCtorEq, false_imp_iff, true_imp_iff, Int.toNat_zero, Int.toNat_natCast, Nat.zero_lt_one, Int.le_refl, allGet]
  intro v1 h1
  subst h1
  refine ⟨⟨0, rfl, Nat.zero_le _, rfl⟩, ?_⟩
  rintro i ⟨hi, hs⟩
  refine ⟨fun hlt => ?_, fun hge => ?_⟩
  · have hlt := of_decide_eq_true hlt
    refine ⟨by omega, by omega, by omega, fun h => ?_, fun h v2 h2 => ⟨i + 1, h2.trans (l_succ (by omega)), ⟨by omega, ?_⟩, by omega⟩⟩
    · exact (fstI_at (p := fun k => v == f k) hs (by simpa using h) (by omega)).symm
    · simp only [noneTo, hs, Bool.true_and]
      rw [show (v == f i) = false by simpa using h]
      rfl
  · have hge := of_decide_eq_false hge
    obtain rfl : i = n := by omega
    exact (fstI_none hs).symm
def EBI : Env := E0.addP 59 index
theorem EBI_ok : EnvOk Tryz.prog EBI := E0_ok.addP index_ok
/-- Is the number among the first n? -/
def inB (f : Nat → Int) (n : Nat) (v : Int) : Bool := !noneTo (fun k => v == f k) n
theorem fstI_pos (p : Nat → Bool) (n : Nat) : 0 ≤ fstI p n ↔ noneTo p n = false := by
  induction n with
  | zero => exact ⟨fun h => by have : (0 : Int) ≤ -1 := h; omega, fun h => by cases h⟩
  | succ n ih =>
    simp only [fstI, noneTo]
    cases h : noneTo p n with
    | false =>
      have h2 := ih.2 h
      rw [if_pos h2]
      exact ⟨fun _ => rfl, fun _ => h2⟩
    | true =>
      rw [fstI_none h, if_neg (by omega)]
      cases hp : p n with
      | false => exact ⟨fun q => by rw [if_neg (by decide)] at q; omega, fun q => by cases q⟩
      | true => exact ⟨fun _ => rfl, fun _ => by rw [if_pos rfl]; omega⟩
theorem fstI_ge (p : Nat → Bool) (n : Nat) : decide (0 ≤ fstI p n) = !noneTo p n := by
  cases h : noneTo p n with
  | false => exact decide_eq_true ((fstI_pos p n).2 h)
  | true => exact decide_eq_false fun q => by rw [(fstI_pos p n).1 q] at h; cases h
def contains := pcOf aRowV (fun _ => []) (fun x => .bool (inB x.1.f x.1.n x.2.1))
theorem contains_ok : PcOk Tryz.prog 37 contains := by
  refine pcOf_run (fun _ => EBI_ok) Tryz.func37 rfl (by kernel_rfl) (fun x => trivial) (fun x => []) (fun _ => Nat.le_of_ble_eq_true rfl) (fun ⟨⟨b, off, n, c, z, f⟩, v, ()⟩ hp hw => ?_)
  refine vc_of (q :=
      n ≤ n ∧ (∀ (k1 : Nat), k1 < n → true = true) ∧ (b = b ∧ off = off) ∧ ∀ (v1 : Int), v1 = fstI (fun (k : Nat) ↦ v == f k) n → decide (v1 ≥ (0 : Int)) = inB f n v) (by kernel_rfl) ?_
  try simp only [eq_self, true_and, and_true, Nat.le_refl, implies_true, forall_const, Bool.false_eq_true, Bool.true_eq_false, reduceCtorEq, false_imp_iff, true_imp_iff, Int.toNat_zero, Int.toNat_natCast, Nat.zero_lt_one, Int.le_refl, allGet]
  intro v1 h1
  rw [h1]
  exact fstI_ge _ _
/-! ### is a place outside? -/
def outP (f : Nat → Int) (n : Nat) (k : Nat) : Bool := decide (f k < 0) || decide ((n : Int) ≤ f k)
abbrev aOut : ArgL (RowD Int × ((Nat × Nat × List UInt8) × Unit) × Unit) := .cons (.row (.int .i64)) (.cons (.fnc 18 (.cons (.ptr 1 (.elt .str)) .nil)) .nil)
def outC := pcOf aOut (fun _ => []) (fun x => .bool (!noneTo (outP x.1.f x.2.1.1.2.2.length) x.1.n))
abbrev OutX := RowD Int × ((Nat × Nat × List UInt8) × Unit) × Unit
def EBJ (x : OutX) : Env := (E0.inl 18 Tryz.f18 fun _ _ => []).inl 41 Tryz.f41 fun _ _ => [.lp 2 Nat [8] (fun i => [.int .i64 (i : Nat)]) (fun i => i ≤ x.1.n ∧ noneTo (outP x.1.f x.2.1.1.2.2.length) i = true) fun i => x.1.n - i]
theorem EBJ_ok (x : OutX) : EnvOk Tryz.prog (EBJ x) := (E0_ok.inl _ Tryz.func18 rfl (by kernel_rfl)).inl _ Tryz.func41 rfl (by kernel_rfl)
theorem out_ok : PcOk Tryz.prog 17 outC := by
  refine pcOf_run EBJ_ok Tryz.func17 rfl (by kernel_rfl) (fun x => trivial)
    (fun x => []) (fun _ => Nat.le_of_ble_eq_true rfl) (fun ⟨⟨b, off, n, c, z, f⟩, ⟨⟨b0, o0, s⟩, ()⟩, ()⟩ hp hw => ?_)
  have hn : n ≤ c ∧ c ≤ 9223372036854775807 := (hw _ (List.mem_cons_self ..)).2
  refine vc_of (q :=
      ∀ (v1 : Int), v1 = (↑n : Int) → (∃ (x1 : Nat), (0 : Int) = (↑x1 : Int) ∧ x1 ≤ n ∧ noneTo (outP f (List.length s)) x1 = true) ∧ ∀ (b1 : Nat), b1 ≤ n ∧ noneTo (outP f (List.length s)) b1 = true → (decide ((↑b1 : Int) < v1) = true → (0 : Int) ≤ (↑b1 : Int) ∧ (↑b1 : Int) < (↑n : Int) ∧ (b = b ∧ off = off) ∧ Int.toNat (↑b1 : Int) < n ∧ (decide (f (Int.toNat (↑b1 : Int)) < (0 : Int)) = false → b0 = b0 ∧
      o0 = o0) ∧ ∀ (v2 : Int), v2 = (↑(List.length s) : Int) → ∀ (t1 : Bool), (t1 = if decide (f (Int.toNat (↑b1 : Int)) < (0 : Int)) = true then true else decide (f (Int.toNat (↑b1 : Int)) ≥ v2)) → ∀ (t2 : Bool), t2 = t1 → (t2 = true → ∀ (v3 : Int), v3 = (↑b1 : Int) → decide (v3 ≥ (0 : Int)) = !noneTo (outP f (List.length s)) n) ∧ (t2 = false → ∀ (v4 : Int), v4 = IntKind.i64.wrap ((↑b1 : Int) + (1 :
      Int)) → ∃ (x2 : Nat), v4 = (↑x2 : Int) ∧ (x2 ≤ n ∧ noneTo (outP f (List.length s)) x2 = true) ∧ n - x2 < n - b1)) ∧ (decide ((↑b1 : Int) < v1) = false → ∀ (v3 : Int), v3 = (-1 : Int) → decide (v3 ≥ (0 : Int)) = !noneTo (outP f (List.length s)) n)) (by kernel_rfl) ?_
  try simp only [eq_self, true_and, and_true, Nat.le_refl, implies_true, forall_const, Bool.false_eq_true, Bool.true_eq_false, reduceCtorEq, false_imp_iff, true_imp_iff, Int.toNat_zero, Int.toNat_natCast, Nat.zero_lt_one, Int.le_refl, allGet]
  intro v1 h1
  subst h1
  refine ⟨⟨0, rfl, Nat.zero_le _, rfl⟩, ?_⟩
  rintro i ⟨hi, hs⟩
  refine ⟨fun hlt => ?_, fun hge v3 h3 => ?_⟩
  · have hlt := of_decide_eq_true hlt
    refine ⟨by omega, by omega, by omega, fun v2 h2 t1 ht1 t2 ht2 => ?_⟩
    subst h2 ht2
    have ht : t2 = outP f s.length i := by
      rw [ht1]
      unfold outP
      show (if decide (f i < 0) = true then true else decide (f i ≥ (s.length : Int))) = _
      cases decide (f i < 0) <;> rfl
    refine ⟨fun h v3 h3 => ?_, fun h v4 h4 => ⟨i + 1, h4.trans (l_succ (by omega)), ⟨by omega, ?_⟩, by omega⟩⟩
    · have h0 : noneTo (outP f s.length) n = false := by
        cases q : noneTo (outP f s.length) n with
        | false => rfl
        | true => have := noneTo_iff.1 q i (by omega); rw [← ht, h] at this; cases this
      rw [h0, h3]
      exact decide_eq_true (by omega)
    · simp only [noneTo, hs, Bool.true_and]
      rw [← ht, h]; rfl
  · have hge := of_decide_eq_false hge
    obtain rfl : i = n := by omega
    rw [hs, h3]; rfl
/-! ### Clone -/
abbrev cloneS (g : Nat) (x : RowD Int) (y : Nat × Nat × Nat) : SV := .slice g y.1 y.2.1 [] 1 0 x.n y.2.2 x.z
abbrev cloneE (g : Nat) (x : RowD Int) (y : Nat × Nat × Nat) : Ent := ⟨g, y.1, y.2.1, 1, x.n, fun k => .int .i64 (x.f k), true, false, y.2.2, 3, x.z, none⟩
def clone := ecC aRowI (fun x => [x.1.n * 8 ≤ 140737488355328]) (fun x (y : Nat × Nat × Nat) => x.1.n ≤ y.2.2 ∧ y.2.2 ≤ 9223372036854775807 ∧ (x.1.z = true → y.2.2 = 0)) (fun x y => cloneS 1 x.1 y) (fun x y => [cloneE 1 x.1 y]) 1
def EBK : Env := E0.addQ 22 eqSl
theorem EBK_ok : EnvOk Tryz.prog EBK := E0_ok.addQ (eqSl_ok (e := 3) (by kernel_rfl))
theorem clone_ok : EcOk Tryz.prog 19 clone := by
  refine ecC_run (fun _ => EBK_ok) Tryz.func19 rfl (by kernel_rfl) []
    (fun x => []) (fun _ => Nat.le_of_ble_eq_true rfl) (fun ⟨⟨b, off, n, c, z, f⟩, ()⟩ hp hw => ?_)
  refine vc_of (q :=
      (z = true → ∃ (x1 : Nat × Nat × Nat), SVeq (SV.slice 999999 0 0 [] 0 0 0 0 true) (SV.slice 1 x1.1 x1.2.1 [] 1 0 n x1.2.2 z) ∧ (z = true ∧ n = 0 ∧ x1.2.2 = 0) ∧ n ≤ x1.2.2 ∧ x1.2.2 ≤ 9223372036854775807 ∧ (z = true → x1.2.2 = 0)) ∧ (z = false → ∀ (b1 : Nat), (b1 = b1 ∧ 0 = 0) ∧ (false = true → false = true) ∧ 0 = 0 ∧ 0 ≤ 0 ∧ 0 ≤ 0 ∧ (0 + n) * 8 ≤ 140737488355328 ∧ 0 + n ≤ 9223372036854775807 ∧ n ≤ n
      ∧ (b = b ∧ off = off) ∧ ∀ (b2 b3 b4 : Nat), 0 + n ≤ b4 → b4 ≤ 9223372036854775807 → (false = true → n = 0 → b4 = 0) → ∃ (x2 : Nat × Nat × Nat), (b2 = x2.1 ∧ b3 = x2.2.1 ∧ 0 = 0 ∧ 0 + n = n ∧ b4 = x2.2.2 ∧ (false && decide (n = 0)) = z) ∧ ((b2 = x2.1 ∧ b3 = x2.2.1 ∧ (false && decide (n = 0)) = z ∧ n ≤ 0 + n ∧ n ≤ x2.2.2 ∧ x2.2.2 ≤ b4) ∧ ∀ (i1 : Nat), i1 < n → (if i1 < 0 then (0 : Int) else f (i1 -
      0)) = f i1) ∧ n ≤ x2.2.2 ∧ x2.2.2 ≤ 9223372036854775807 ∧ (z = true → x2.2.2 = 0))) (by kernel_rfl) ?_
  try simp only [eq_self, true_and, and_true, Nat.le_refl, implies_true, forall_const, Bool.false_eq_true, Bool.true_eq_false, reduceCtorEq, false_imp_iff, true_imp_iff, Int.toNat_zero, Int.toNat_natCast, Nat.zero_lt_one, Int.le_refl, allGet]
  have hz : z = true → n = 0 ∧ c = 0 := (hw _ (List.mem_cons_self ..)).1
  have hn : n ≤ c ∧ c ≤ 9223372036854775807 := (hw _ (List.mem_cons_self ..)).2
  have hp : n * 8 ≤ 140737488355328 := hp.1
  refine ⟨fun q => ?_, fun q => ?_⟩
  · obtain ⟨n0, _⟩ := hz q
    exact ⟨(0, 0, 0), nil_eqv q n0 rfl, ⟨q, n0, rfl⟩, by omega, by dsimp only; omega, fun _ => rfl⟩
  · refine ⟨by omega, by omega, fun b2 b3 b4 h4 h5 => ⟨(b2, b3, b4), ⟨rfl, rfl, by omega, rfl, q.symm⟩, ⟨⟨rfl, rfl, q.symm, by omega, by dsimp only; omega, Nat.le_refl _⟩, fun i hi => ?_⟩, by dsimp only; omega, h5, fun q' => by rw [q] at q'; cases q'⟩⟩
    rw [if_neg (by omega), Nat.sub_zero]
/-! ### Compact -/
/-- Without equal neighbours. -/
def ddL (f : Nat → Int) : Nat → List Int
  | 0 => []
  | n + 1 => if n = 0 ∨ f n ≠ f (n - 1) then ddL f n ++ [f n] else ddL f n
theorem ddL_le (f : Nat → Int) : ∀ n, (ddL f n).length ≤ n
  | 0 => Nat.le_refl _
  | n + 1 => by
    have := ddL_le f n
    unfold ddL
    split
    · rw [List.length_append, List.length_singleton]; omega
    · omega
theorem ddL_pos (f : Nat → Int) : ∀ n, 1 ≤ (ddL f (n + 1)).length
  | 0 => by unfold ddL; rw [if_pos (.inl rfl)]; exact Nat.le_refl _
  | n + 1 => by
    have := ddL_pos f n
    rw [ddL]
    split
    · rw [List.length_append, List.length_singleton]; omega
    · exact this
theorem ddL_yes {f : Nat → Int} {n : Nat} (h : n = 0 ∨ f n ≠ f (n - 1)) : ddL f (n + 1) = ddL f n ++ [f n] := by rw [ddL, if_pos h]
theorem ddL_no {f : Nat → Int} {n : Nat} (h : f (n + 1) = f n) : ddL f (n + 1 + 1) = ddL f (n + 1) := by
  rw [ddL, if_neg]
  rintro (q | q)
  · omega
  · exact q h
theorem ddL_all {f : Nat → Int} : ∀ {n : Nat}, (ddL f n).length = n → ∀ k, k < n → (ddL f n).getD k 0 = f k
  | 0, _, k, hk => absurd hk (Nat.not_lt_zero k)
  | n + 1, h, k, hk => by
    have hl := ddL_le f n
    by_cases q : n = 0 ∨ f n ≠ f (n - 1)
    · rw [ddL_yes q] at h ⊢
      rw [List.length_append, List.length_singleton] at h
      have hn : (ddL f n).length = n := by omega
      simp only [List.getD]
      by_cases hkn : k < n
      · rw [List.getElem?_append_left (by omega)]
        exact ddL_all hn k hkn
      · rw [List.getElem?_append_right (by omega), hn, show k - n = 0 by omega, show k = n by omega]
        rfl
    · rw [ddL, if_neg q] at h
      omega
theorem ddL_small {f : Nat → Int} {n : Nat} (h : n < 2) : (ddL f n).length = n := by
  rcases n with _ | _ | n
  · rfl
  · rfl
  · omega
theorem getD_append_lt {l : List Int} {a : Int} {k : Nat} (h : k < l.length) : (l ++ [a]).getD k 0 = l.getD k 0 := by
  simp only [List.getD]
  rw [List.getElem?_append_left h]
theorem getD_append_at {l : List Int} {a : Int} {k : Nat} (h : k = l.length) : (l ++ [a]).getD k 0 = a := by
  simp only [List.getD]
  rw [List.getElem?_append_right (by omega), h, Nat.sub_self]
  rfl
def compact := ecU aOwn64 (fun x => [x.1.n ≤ x.1.m, x.1.m ≤ x.1.cap, x.1.n ≤ 1000000]) (fun x (g : Nat → Int) => ∀ k, k < (ddL x.1.f x.1.n).length → g k = (ddL x.1.f x.1.n).getD k 0) (fun x g => ({ x.1 with f := g }, ())) (fun x g => .slice 0 x.1.b x.1.off [] 1 0 (ddL x.1.f x.1.n).length x.1.c x.1.z)
theorem compact_ok : EcOk Tryz.prog 21 compact := by
  refine ecC_run (fun _ => E0_ok) Tryz.func21 rfl (by kernel_rfl) []
    (fun x => [.loop ⟨4, Nat, [3], fun k => [.int .i64 (k : Nat)], [0], fun _ => [⟨0, x.1.b, x.1.off, 1, x.1.m, fun k => .int .i64 (x.1.f k), true, false, x.1.cap, 3, x.1.ez, none⟩], fun k => 1 ≤ k ∧ k ≤ x.1.n ∧ (ddL x.1.f k).length = k, fun k => x.1.n - k⟩,
      .draw 6 (.take 0 (.take 1 (.take 2 (.take 3 (.take 4 (.take 5 (.take 6 (.take 7 (.take 8 (.take 9 .fin)))))))))) [],
      .loopD 9 (fun fr H => ⟨9, Nat, [3, 5], fun j => [.int .i64 ((ddL x.1.f ((intOf (slotV fr 3)).toNat + j)).length : Nat), .int .i64 (j : Nat)], [0],
        fun j => [⟨0, x.1.b, x.1.off, 1, x.1.m, fun k => .int .i64 (if k < (ddL x.1.f ((intOf (slotV fr 3)).toNat + j)).length then (ddL x.1.f ((intOf (slotV fr 3)).toNat + j)).getD k 0 else x.1.f k), true, false, x.1.cap, 3, x.1.ez, none⟩],
        fun j => 1 ≤ j ∧ (intOf (slotV fr 3)).toNat + j ≤ x.1.n ∧ 1 ≤ (ddL x.1.f ((intOf (slotV fr 3)).toNat + j)).length ∧ (ddL x.1.f ((intOf (slotV fr 3)).toNat + j)).length + 1 ≤ (intOf (slotV fr 3)).toNat + j, fun j => x.1.n - j⟩),
      .draw 11 (.take 0 (.take 1 (.take 2 (.take 3 (.take 4 (.take 5 (.take 6 (.take 7 (.take 8 (.take 9 .fin)))))))))) []])
    (fun _ => Nat.le_of_ble_eq_true rfl) (fun ⟨⟨b, off, n, c, z, m, cap, ez, f⟩, ()⟩ hp hw => ?_)
  refine vc_of (q :=
      ∀ (v1 : Int), v1 = (↑n : Int) → (decide (v1 < (2 : Int)) = true → ∃ (x1 : Nat → Int), (b = b ∧ off = off ∧ 0 = 0 ∧ n = List.length (ddL f n) ∧ c = c ∧ z = z) ∧ ((b = b ∧ off = off ∧ ez = ez ∧ m ≤ m ∧ m ≤ cap ∧ cap ≤ cap) ∧ ∀ (i1 : Nat), i1 < m → f i1 = x1 i1) ∧ ∀ (k1 : Nat), k1 < List.length (ddL f n) → x1 k1 = List.getD (ddL f n) k1 (0 : Int)) ∧ (decide (v1 < (2 : Int)) = false → (∃ (x2 : Nat), (1
      : Int) = (↑x2 : Int) ∧ ((b = b ∧ off = off ∧ ez = ez ∧ m ≤ m ∧ m ≤ cap ∧ cap ≤ cap) ∧ ∀ (i2 : Nat), i2 < m → f i2 = f i2) ∧ 1 ≤ x2 ∧ x2 ≤ n ∧ List.length (ddL f x2) = x2) ∧ ∀ (b1 : Nat), 1 ≤ b1 ∧ b1 ≤ n ∧ List.length (ddL f b1) = b1 → ∀ (v2 : Int), v2 = (↑n : Int) → (decide ((↑b1 : Int) < v2) = true → (0 : Int) ≤ (↑b1 : Int) ∧ (↑b1 : Int) < (↑n : Int) ∧ (b = b ∧ off = off) ∧ Int.toNat (↑b1 : Int) <
      m ∧ ∀ (v3 : Int), v3 = IntKind.i64.wrap ((↑b1 : Int) - (1 : Int)) → 0 ≤ v3 ∧ v3 < (↑n : Int) ∧ (b = b ∧ off = off) ∧ Int.toNat v3 < m ∧ ((f (Int.toNat (↑b1 : Int)) == f (Int.toNat v3)) = true → (0 : Int) ≤ (↑n : Int) ∧ (↑n : Int) ≤ (↑c : Int) ∧ (0 : Int) ≤ (↑b1 : Int) ∧ (↑b1 : Int) ≤ (↑n : Int) ∧ (∃ (x3 : Nat), (↑b1 : Int) = (↑(List.length (ddL f (Int.toNat (↑b1 : Int) + x3))) : Int) ∧ (1 : Int) =
      (↑x3 : Int) ∧ ((b = b ∧ off = off ∧ ez = ez ∧ m ≤ m ∧ m ≤ cap ∧ cap ≤ cap) ∧ ∀ (i3 : Nat), i3 < m → f i3 = if i3 < List.length (ddL f (Int.toNat (↑b1 : Int) + x3)) then List.getD (ddL f (Int.toNat (↑b1 : Int) + x3)) i3 (0 : Int) else f i3) ∧ 1 ≤ x3 ∧ Int.toNat (↑b1 : Int) + x3 ≤ n ∧ 1 ≤ List.length (ddL f (Int.toNat (↑b1 : Int) + x3)) ∧ List.length (ddL f (Int.toNat (↑b1 : Int) + x3)) + 1 ≤
      Int.toNat (↑b1 : Int) + x3) ∧ ∀ (b2 : Nat), 1 ≤ b2 ∧ Int.toNat (↑b1 : Int) + b2 ≤ n ∧ 1 ≤ List.length (ddL f (Int.toNat (↑b1 : Int) + b2)) ∧ List.length (ddL f (Int.toNat (↑b1 : Int) + b2)) + 1 ≤ Int.toNat (↑b1 : Int) + b2 → ∀ (v4 : Int), v4 = (↑(Int.toNat (↑n : Int) - Int.toNat (↑b1 : Int)) : Int) → (decide ((↑b2 : Int) < v4) = true → (0 : Int) ≤ (↑b2 : Int) ∧ (↑b2 : Int) < (↑(Int.toNat (↑n : Int)
      - Int.toNat (↑b1 : Int)) : Int) ∧ (b = b ∧ off = off) ∧ (match if c = Int.toNat (↑b1 : Int) then 0 else Int.toNat (↑b1 : Int) with | 0 => Int.toNat (↑b2 : Int) | Nat.succ i => i + 1 + Int.toNat (↑b2 : Int)) < m ∧ ∀ (v5 : Int), v5 = IntKind.i64.wrap ((↑b2 : Int) - (1 : Int)) → 0 ≤ v5 ∧ v5 < (↑(Int.toNat (↑n : Int) - Int.toNat (↑b1 : Int)) : Int) ∧ (b = b ∧ off = off) ∧
      (match if c = Int.toNat (↑b1 : Int) then 0 else Int.toNat (↑b1 : Int) with | 0 => Int.toNat v5 | Nat.succ i => i + 1 + Int.toNat v5) < m ∧ (((if (match if c = Int.toNat (↑b1 : Int) then 0 else Int.toNat (↑b1 : Int) with | 0 => Int.toNat (↑b2 : Int) | Nat.succ i => i + 1 + Int.toNat (↑b2 : Int)) < List.length (ddL f (Int.toNat (↑b1 : Int) + b2)) then List.getD (ddL f (Int.toNat (↑b1 : Int) + b2))
      (match if c = Int.toNat (↑b1 : Int) then 0 else Int.toNat (↑b1 : Int) with | 0 => Int.toNat (↑b2 : Int) | Nat.succ i => i + 1 + Int.toNat (↑b2 : Int)) (0 : Int) else f (match if c = Int.toNat (↑b1 : Int) then 0 else Int.toNat (↑b1 : Int) with | 0 => Int.toNat (↑b2 : Int) | Nat.succ i => i + 1 + Int.toNat (↑b2 : Int))) != if
      (match if c = Int.toNat (↑b1 : Int) then 0 else Int.toNat (↑b1 : Int) with | 0 => Int.toNat v5 | Nat.succ i => i + 1 + Int.toNat v5) < List.length (ddL f (Int.toNat (↑b1 : Int) + b2)) then List.getD (ddL f (Int.toNat (↑b1 : Int) + b2)) (match if c = Int.toNat (↑b1 : Int) then 0 else Int.toNat (↑b1 : Int) with | 0 => Int.toNat v5 | Nat.succ i => i + 1 + Int.toNat v5) (0 : Int) else f
      (match if c = Int.toNat (↑b1 : Int) then 0 else Int.toNat (↑b1 : Int) with | 0 => Int.toNat v5 | Nat.succ i => i + 1 + Int.toNat v5)) = true → (0 : Int) ≤ (↑b2 : Int) ∧ (↑b2 : Int) < (↑(Int.toNat (↑n : Int) - Int.toNat (↑b1 : Int)) : Int) ∧ (b = b ∧ off = off) ∧
      (match if c = Int.toNat (↑b1 : Int) then 0 else Int.toNat (↑b1 : Int) with | 0 => Int.toNat (↑b2 : Int) | Nat.succ i => i + 1 + Int.toNat (↑b2 : Int)) < m ∧ (0 : Int) ≤ (↑(List.length (ddL f (Int.toNat (↑b1 : Int) + b2))) : Int) ∧ (↑(List.length (ddL f (Int.toNat (↑b1 : Int) + b2))) : Int) < (↑n : Int) ∧ (b = b ∧ off = off) ∧ Int.toNat (↑(List.length (ddL f (Int.toNat (↑b1 : Int) + b2))) : Int) < m
      ∧ ∀ (v6 : Int), v6 = IntKind.i64.wrap ((↑(List.length (ddL f (Int.toNat (↑b1 : Int) + b2))) : Int) + (1 : Int)) → ∀ (v7 : Int), v7 = IntKind.i64.wrap ((↑b2 : Int) + (1 : Int)) → ∃ (x4 : Nat), v6 = (↑(List.length (ddL f (Int.toNat (↑b1 : Int) + x4))) : Int) ∧ v7 = (↑x4 : Int) ∧ ((b = b ∧ off = off ∧ ez = ez ∧ m ≤ m ∧ m ≤ cap ∧ cap ≤ cap) ∧ ∀ (i4 : Nat), i4 < m → (if i4 = Int.toNat (↑(List.length
      (ddL f (Int.toNat (↑b1 : Int) + b2))) : Int) then if (match if c = Int.toNat (↑b1 : Int) then 0 else Int.toNat (↑b1 : Int) with | 0 => Int.toNat (↑b2 : Int) | Nat.succ i => i + 1 + Int.toNat (↑b2 : Int)) < List.length (ddL f (Int.toNat (↑b1 : Int) + b2)) then List.getD (ddL f (Int.toNat (↑b1 : Int) + b2))
      (match if c = Int.toNat (↑b1 : Int) then 0 else Int.toNat (↑b1 : Int) with | 0 => Int.toNat (↑b2 : Int) | Nat.succ i => i + 1 + Int.toNat (↑b2 : Int)) (0 : Int) else f (match if c = Int.toNat (↑b1 : Int) then 0 else Int.toNat (↑b1 : Int) with | 0 => Int.toNat (↑b2 : Int) | Nat.succ i => i + 1 + Int.toNat (↑b2 : Int)) else if i4 < List.length (ddL f (Int.toNat (↑b1 : Int) + b2)) then List.getD (ddL
      f (Int.toNat (↑b1 : Int) + b2)) i4 (0 : Int) else f i4) = if i4 < List.length (ddL f (Int.toNat (↑b1 : Int) + x4)) then List.getD (ddL f (Int.toNat (↑b1 : Int) + x4)) i4 (0 : Int) else f i4) ∧ (1 ≤ x4 ∧ Int.toNat (↑b1 : Int) + x4 ≤ n ∧ 1 ≤ List.length (ddL f (Int.toNat (↑b1 : Int) + x4)) ∧ List.length (ddL f (Int.toNat (↑b1 : Int) + x4)) + 1 ≤ Int.toNat (↑b1 : Int) + x4) ∧ n - x4 < n - b2) ∧ (((if
      (match if c = Int.toNat (↑b1 : Int) then 0 else Int.toNat (↑b1 : Int) with | 0 => Int.toNat (↑b2 : Int) | Nat.succ i => i + 1 + Int.toNat (↑b2 : Int)) < List.length (ddL f (Int.toNat (↑b1 : Int) + b2)) then List.getD (ddL f (Int.toNat (↑b1 : Int) + b2))
      (match if c = Int.toNat (↑b1 : Int) then 0 else Int.toNat (↑b1 : Int) with | 0 => Int.toNat (↑b2 : Int) | Nat.succ i => i + 1 + Int.toNat (↑b2 : Int)) (0 : Int) else f (match if c = Int.toNat (↑b1 : Int) then 0 else Int.toNat (↑b1 : Int) with | 0 => Int.toNat (↑b2 : Int) | Nat.succ i => i + 1 + Int.toNat (↑b2 : Int))) != if
      (match if c = Int.toNat (↑b1 : Int) then 0 else Int.toNat (↑b1 : Int) with | 0 => Int.toNat v5 | Nat.succ i => i + 1 + Int.toNat v5) < List.length (ddL f (Int.toNat (↑b1 : Int) + b2)) then List.getD (ddL f (Int.toNat (↑b1 : Int) + b2)) (match if c = Int.toNat (↑b1 : Int) then 0 else Int.toNat (↑b1 : Int) with | 0 => Int.toNat v5 | Nat.succ i => i + 1 + Int.toNat v5) (0 : Int) else f
      (match if c = Int.toNat (↑b1 : Int) then 0 else Int.toNat (↑b1 : Int) with | 0 => Int.toNat v5 | Nat.succ i => i + 1 + Int.toNat v5)) = false → ∀ (v7 : Int), v7 = IntKind.i64.wrap ((↑b2 : Int) + (1 : Int)) → ∃ (x4 : Nat), (↑(List.length (ddL f (Int.toNat (↑b1 : Int) + b2))) : Int) = (↑(List.length (ddL f (Int.toNat (↑b1 : Int) + x4))) : Int) ∧ v7 = (↑x4 : Int) ∧ ((b = b ∧ off = off ∧ ez = ez ∧ m ≤
      m ∧ m ≤ cap ∧ cap ≤ cap) ∧ ∀ (i4 : Nat), i4 < m → (if i4 < List.length (ddL f (Int.toNat (↑b1 : Int) + b2)) then List.getD (ddL f (Int.toNat (↑b1 : Int) + b2)) i4 (0 : Int) else f i4) = if i4 < List.length (ddL f (Int.toNat (↑b1 : Int) + x4)) then List.getD (ddL f (Int.toNat (↑b1 : Int) + x4)) i4 (0 : Int) else f i4) ∧ (1 ≤ x4 ∧ Int.toNat (↑b1 : Int) + x4 ≤ n ∧ 1 ≤ List.length (ddL f (Int.toNat
      (↑b1 : Int) + x4)) ∧ List.length (ddL f (Int.toNat (↑b1 : Int) + x4)) + 1 ≤ Int.toNat (↑b1 : Int) + x4) ∧ n - x4 < n - b2)) ∧ (decide ((↑b2 : Int) < v4) = false → (0 : Int) ≤ (↑n : Int) ∧ (↑n : Int) ≤ (↑c : Int) ∧ (0 : Int) ≤ (↑(List.length (ddL f (Int.toNat (↑b1 : Int) + b2))) : Int) ∧ (↑(List.length (ddL f (Int.toNat (↑b1 : Int) + b2))) : Int) ≤ (↑n : Int) ∧ (b = b ∧ off = off) ∧ (if c =
      Int.toNat (↑(List.length (ddL f (Int.toNat (↑b1 : Int) + b2))) : Int) then 0 else Int.toNat (↑(List.length (ddL f (Int.toNat (↑b1 : Int) + b2))) : Int)) + (Int.toNat (↑n : Int) - Int.toNat (↑(List.length (ddL f (Int.toNat (↑b1 : Int) + b2))) : Int)) ≤ m ∧ (0 : Int) ≤ (↑(List.length (ddL f (Int.toNat (↑b1 : Int) + b2))) : Int) ∧ (↑(List.length (ddL f (Int.toNat (↑b1 : Int) + b2))) : Int) ≤ (↑c :
      Int) ∧ ∃ (x4 : Nat → Int), (b = b ∧ off = off ∧ 0 = 0 ∧ Int.toNat (↑(List.length (ddL f (Int.toNat (↑b1 : Int) + b2))) : Int) = List.length (ddL f n) ∧ c = c ∧ z = z) ∧ ((b = b ∧ off = off ∧ ez = ez ∧ m ≤ m ∧ m ≤ cap ∧ cap ≤ cap) ∧ ∀ (i4 : Nat), i4 < m → (if (if c = Int.toNat (↑(List.length (ddL f (Int.toNat (↑b1 : Int) + b2))) : Int) then 0 else Int.toNat (↑(List.length (ddL f (Int.toNat (↑b1 :
      Int) + b2))) : Int)) ≤ i4 ∧ i4 < (if c = Int.toNat (↑(List.length (ddL f (Int.toNat (↑b1 : Int) + b2))) : Int) then 0 else Int.toNat (↑(List.length (ddL f (Int.toNat (↑b1 : Int) + b2))) : Int)) + (Int.toNat (↑n : Int) - Int.toNat (↑(List.length (ddL f (Int.toNat (↑b1 : Int) + b2))) : Int)) then (0 : Int) else if i4 < List.length (ddL f (Int.toNat (↑b1 : Int) + b2)) then List.getD (ddL f (Int.toNat
      (↑b1 : Int) + b2)) i4 (0 : Int) else f i4) = x4 i4) ∧ ∀ (k2 : Nat), k2 < List.length (ddL f n) → x4 k2 = List.getD (ddL f n) k2 (0 : Int))) ∧ ((f (Int.toNat (↑b1 : Int)) == f (Int.toNat v3)) = false → ∀ (v4 : Int), v4 = IntKind.i64.wrap ((↑b1 : Int) + (1 : Int)) → ∃ (x4 : Nat), v4 = (↑x4 : Int) ∧ ((b = b ∧ off = off ∧ ez = ez ∧ m ≤ m ∧ m ≤ cap ∧ cap ≤ cap) ∧ ∀ (i4 : Nat), i4 < m → f i4 = f i4) ∧ (1
      ≤ x4 ∧ x4 ≤ n ∧ List.length (ddL f x4) = x4) ∧ n - x4 < n - b1)) ∧ (decide ((↑b1 : Int) < v2) = false → ∃ (x3 : Nat → Int), (b = b ∧ off = off ∧ 0 = 0 ∧ n = List.length (ddL f n) ∧ c = c ∧ z = z) ∧ ((b = b ∧ off = off ∧ ez = ez ∧ m ≤ m ∧ m ≤ cap ∧ cap ≤ cap) ∧ ∀ (i3 : Nat), i3 < m → f i3 = x3 i3) ∧ ∀ (k2 : Nat), k2 < List.length (ddL f n) → x3 k2 = List.getD (ddL f n) k2 (0 : Int)))) (by kernel_rfl) ?_
  try simp only [eq_self, true_and, and_true, Nat.le_refl, implies_true, forall_const, Bool.false_eq_true, Bool.true_eq_false, reduceCtorEq, false_imp_iff, true_imp_iff, Int.toNat_zero, Int.toNat_natCast, Nat.zero_lt_one, Int.le_refl, allGet]
  obtain ⟨p1, p2, p3, _⟩ := hp
  dsimp only at p1 p2 p3
  have hn : n ≤ c ∧ c ≤ 9223372036854775807 := (hw _ (List.mem_cons_self ..)).2
  intro v1 h1
  subst h1
  refine ⟨fun hlt => ?_, fun hge => ⟨⟨1, rfl, p2, Nat.le_refl _, ?_, rfl⟩, ?_⟩⟩
  · have hlt := of_decide_eq_true hlt
    have hl : (ddL f n).length = n := ddL_small (by omega)
    exact ⟨f, hl.symm, ⟨p2, fun _ _ => rfl⟩, fun k hk => (ddL_all hl k (by omega)).symm⟩
  · have hge := of_decide_eq_false hge
    omega
  have hge := of_decide_eq_false hge
  rintro k1 ⟨g1, g2, g3⟩ v2 h2
  subst h2
  obtain ⟨k, rfl⟩ : ∃ k, k1 = k + 1 := ⟨k1 - 1, by omega⟩
  refine ⟨fun hlt => ?_, fun hlt => ?_⟩
  · have hlt := of_decide_eq_true hlt
    have hk : k + 1 < n := by omega
    have hc : ¬ c = k + 1 := by omega
    refine ⟨by omega, by omega, by omega, fun v3 h3 => ?_⟩
    have h3 : v3 = (k : Nat) := by rw [h3, w64_id (by omega) (by omega)]; omega
    subst h3
    simp only [Int.toNat_natCast, if_neg hc]
    refine ⟨by omega, by omega, by omega, fun heq => ?_, fun hne v4 h4 => ?_⟩
    · have heq : f (k + 1) = f k := by simpa using heq
      refine ⟨by omega, by omega, by omega, by omega, ⟨1, ?_, rfl, ⟨p2, fun i hi => ?_⟩, Nat.le_refl _, by omega, ?_, ?_⟩, ?_⟩
      · rw [ddL_no heq, g3]
      · rw [ddL_no heq]
        split
        · rename_i q; exact (ddL_all g3 i (by omega)).symm
        · rfl
      · exact ddL_pos f _
      · rw [ddL_no heq, g3]; exact Nat.le_refl _
      rintro j ⟨j1, j2, j3, j4⟩ v4 h4
      subst h4
      refine ⟨fun hj => ?_, fun hj => ?_⟩
      · have hj := of_decide_eq_true hj
        have hj : k + 1 + j < n := by omega
        refine ⟨by omega, by omega, by first | omega | exact Nat.lt_of_lt_of_le (show k + 1 + j < n by omega) p1, fun v5 h5 => ?_⟩
        have h5 : v5 = ((j - 1 : Nat) : Int) := by rw [h5, w64_id (by omega) (by omega)]; omega
        subst h5
        simp only [Int.toNat_natCast]
        have e1 : ¬ k + 1 + j < (ddL f (k + 1 + j)).length := by have := ddL_le f (k + 1 + j); omega
        have e2 : ¬ k + 1 + (j - 1) < (ddL f (k + 1 + j)).length := by omega
        rw [if_neg e1, if_neg e2]
        refine ⟨by omega, by omega, by first | omega | exact Nat.lt_of_lt_of_le (show k + 1 + (j - 1) < n by omega) p1, fun hx => ?_, fun hx v7 h7 => ?_⟩
        · have hx : f (k + 1 + j) ≠ f (k + 1 + j - 1) := by
            rw [show k + 1 + j - 1 = k + 1 + (j - 1) by omega]
            simpa using hx
          have hy := ddL_yes (f := f) (n := k + 1 + j) (.inr hx)
          have hyl : (ddL f (k + 1 + j + 1)).length = (ddL f (k + 1 + j)).length + 1 := by rw [hy, List.length_append, List.length_singleton]
          refine ⟨by omega, by omega, by first | omega | exact Nat.lt_of_lt_of_le (show k + 1 + j < n by omega) p1, by omega, by omega, by omega, fun v6 h6 v7 h7 => ⟨j + 1, ?_, h7.trans (l_succ (by omega)), ⟨p2, fun i hi => ?_⟩, ⟨by omega, by omega, ?_, ?_⟩, by omega⟩⟩
          · rw [h6, show k + 1 + (j + 1) = k + 1 + j + 1 by omega, hyl]
            exact l_succ (by omega)
          · rw [show k + 1 + (j + 1) = k + 1 + j + 1 by omega, hyl, hy]
            by_cases q : i = (ddL f (k + 1 + j)).length
            · rw [if_pos q, if_pos (by omega), getD_append_at q]
            · rw [if_neg q]
              by_cases q2 : i < (ddL f (k + 1 + j)).length
              · rw [if_pos q2, if_pos (by omega), getD_append_lt q2]
              · rw [if_neg q2, if_neg (by omega)]
          · rw [show k + 1 + (j + 1) = k + 1 + j + 1 by omega, hyl]; omega
          · rw [show k + 1 + (j + 1) = k + 1 + j + 1 by omega, hyl]; omega
        · have hx : f (k + 1 + (j - 1) + 1) = f (k + 1 + (j - 1)) := by
            rw [show k + 1 + (j - 1) + 1 = k + 1 + j by omega]
            simpa using hx
          have hy : ddL f (k + 1 + (j + 1)) = ddL f (k + 1 + j) := by
            have := ddL_no (f := f) (n := k + 1 + (j - 1)) hx
            rw [show k + 1 + (j + 1) = k + 1 + (j - 1) + 1 + 1 by omega, this, show k + 1 + (j - 1) + 1 = k + 1 + j by omega]
          exact ⟨j + 1, by rw [hy], h7.trans (l_succ (by omega)), ⟨p2, fun i hi => by rw [hy]⟩, ⟨by omega, by omega, by rw [hy]; exact j3, by rw [hy]; omega⟩, by omega⟩
      · have hj := of_decide_eq_false hj
        have ej : k + 1 + j = n := by omega
        rw [ej] at j3 j4 ⊢
        have hcl : ¬ c = (ddL f n).length := by omega
        simp only [if_neg hcl]
        refine ⟨by omega, by omega, by omega, by omega, by omega, by omega, by omega, fun i => if (ddL f n).length ≤ i ∧ i < (ddL f n).length + (n - (ddL f n).length) then 0 else if i < (ddL f n).length then (ddL f n).getD i 0 else f i, by simp, ⟨p2, fun i hi => rfl⟩, fun i hi => ?_⟩
        dsimp only
        rw [if_neg (by omega), if_pos hi]
    · have hne : f (k + 1) ≠ f (k + 1 - 1) := by
        rw [Nat.add_sub_cancel]
        simpa using hne
      have hy := ddL_yes (f := f) (n := k + 1) (.inr hne)
      exact ⟨k + 1 + 1, h4.trans (l_succ (by omega)), p2, ⟨by omega, by omega, by rw [hy, List.length_append, List.length_singleton, g3]⟩, by omega⟩
  · have hlt := of_decide_eq_false hlt
    obtain rfl : k + 1 = n := by omega
    exact ⟨f, g3.symm, ⟨p2, fun _ _ => rfl⟩, fun i hi => (ddL_all g3 i (by omega)).symm⟩
end Galois
