/-
  OWN WORK. Receiver: runs of bytes, in plain Lean.
-/
import Derived.Test.YtjhcndahjhkahaaGreatLU
namespace Rc
open Go
set_option linter.unusedVariables false
set_option linter.unusedSimpArgs false

/-- Runs: their beginnings, their ends; within 0..n; they do not touch. -/
def Runs (n : Int) (h : Int → Bool) (ge : Int → Int) : Prop :=
  (∀ x, h x = true → 0 ≤ x ∧ x < ge x ∧ ge x ≤ n) ∧ ∀ x y, h x = true → h y = true → x < y → ge x < y
def Cov (h : Int → Bool) (ge : Int → Int) (k : Int) : Prop := ∃ x, h x = true ∧ x ≤ k ∧ k < ge x
/-- A run that a part from at to 'to' touches. -/
def tch (h : Int → Bool) (ge : Int → Int) (at_ to : Int) (z : Int) : Bool := h z && (decide (at_ ≤ ge z) && decide (z ≤ to))
theorem tch_iff {h : Int → Bool} {ge : Int → Int} {at_ to z : Int} : tch h ge at_ to z = true ↔ h z = true ∧ at_ ≤ ge z ∧ z ≤ to := by
  simp [tch]
/-- What is known of a part's union with the runs that it touches. -/
structure Uni (h : Int → Bool) (ge : Int → Int) (at_ to from_ end_ : Int) (P : Int → Prop) : Prop where
  f1 : from_ ≤ at_
  f2 : from_ = at_ ∨ (tch h ge at_ to from_ = true ∧ P from_)
  e1 : to ≤ end_
  e2 : end_ = to ∨ ∃ z, tch h ge at_ to z = true ∧ P z ∧ ge z = end_
  all : ∀ z, P z → tch h ge at_ to z = true → from_ ≤ z ∧ ge z ≤ end_
def newH (h : Int → Bool) (ge : Int → Int) (at_ to from_ : Int) (z : Int) : Bool := (h z && !tch h ge at_ to z) || decide (z = from_)
def newG (ge : Int → Int) (from_ end_ : Int) (z : Int) : Int := if z = from_ then end_ else ge z
theorem not_tch {h : Int → Bool} {ge : Int → Int} {at_ to z : Int} (h1 : h z = true) (h2 : tch h ge at_ to z ≠ true) : ge z < at_ ∨ to < z := by
  rw [ne_eq, tch_iff] at h2
  by_cases q : at_ ≤ ge z
  · exact .inr (by have : ¬ z ≤ to := fun r => h2 ⟨h1, q, r⟩; omega)
  · exact .inl (by omega)
theorem new_iff {h : Int → Bool} {ge : Int → Int} {at_ to from_ z : Int} : newH h ge at_ to from_ z = true ↔ (h z = true ∧ tch h ge at_ to z ≠ true) ∨ z = from_ := by
  simp [newH]
section
variable {n at_ to from_ end_ : Int} {h : Int → Bool} {ge : Int → Int}
theorem uni_from (hR : Runs n h ge) (ha : 0 ≤ at_) (hU : Uni h ge at_ to from_ end_ (fun z => h z = true)) : 0 ≤ from_ := by
  rcases hU.f2 with q | ⟨q, _⟩
  · omega
  · exact (hR.1 _ (tch_iff.1 q).1).1
theorem not_from (hat : at_ < to) (hR : Runs n h ge) (hU : Uni h ge at_ to from_ end_ (fun z => h z = true)) {z : Int} (h1 : h z = true) (h2 : tch h ge at_ to z ≠ true) : z ≠ from_ := by
  intro e
  subst e
  rcases hU.f2 with q | ⟨q, _⟩
  · refine h2 (tch_iff.2 ⟨h1, ?_, by omega⟩)
    have := (hR.1 _ h1).2.1
    omega
  · exact h2 q
theorem end_lt (hat : at_ < to) (hR : Runs n h ge) (hU : Uni h ge at_ to from_ end_ (fun z => h z = true)) {z : Int} (h1 : h z = true) (h2 : tch h ge at_ to z ≠ true) (hz : from_ < z) : end_ < z := by
  have key : to < z := by
    rcases not_tch h1 h2 with q | q
    · have hz2 := (hR.1 _ h1).2.1
      rcases hU.f2 with r | ⟨r, _⟩
      · omega
      · obtain ⟨r1, r2, _⟩ := tch_iff.1 r
        have := hR.2 _ _ r1 h1 hz
        omega
    · exact q
  rcases hU.e2 with q | ⟨y, y1, _, y2⟩
  · omega
  · obtain ⟨r1, _, r3⟩ := tch_iff.1 y1
    have := hR.2 _ _ r1 h1 (by omega)
    omega
theorem lt_from (hat : at_ < to) (hR : Runs n h ge) (hU : Uni h ge at_ to from_ end_ (fun z => h z = true)) {z : Int} (h1 : h z = true) (h2 : tch h ge at_ to z ≠ true) (hz : z < from_) : ge z < from_ := by
  rcases hU.f2 with r | ⟨r, _⟩
  · have := hU.f1
    rcases not_tch h1 h2 with q | q <;> omega
  · exact hR.2 _ _ h1 (tch_iff.1 r).1 hz
theorem runs_new (ha : 0 ≤ at_) (hat : at_ < to) (hto : to ≤ n) (hR : Runs n h ge) (hU : Uni h ge at_ to from_ end_ (fun z => h z = true)) : Runs n (newH h ge at_ to from_) (newG ge from_ end_) := by
  have hen : end_ ≤ n := by
    rcases hU.e2 with q | ⟨y, y1, _, y2⟩
    · omega
    · have := (hR.1 _ (tch_iff.1 y1).1).2.2; omega
  have hf0 := uni_from hR ha hU
  refine ⟨fun x hx => ?_, fun x y hx hy hxy => ?_⟩
  · unfold newG
    rcases new_iff.1 hx with ⟨q1, q2⟩ | q
    · rw [if_neg (not_from hat hR hU q1 q2)]; exact hR.1 x q1
    · rw [if_pos q]; have := hU.f1; have := hU.e1; omega
  · unfold newG
    rcases new_iff.1 hx with ⟨q1, q2⟩ | q <;> rcases new_iff.1 hy with ⟨r1, r2⟩ | r
    · rw [if_neg (not_from hat hR hU q1 q2)]; exact hR.2 x y q1 r1 hxy
    · rw [if_neg (not_from hat hR hU q1 q2)]; subst r; exact lt_from hat hR hU q1 q2 hxy
    · rw [if_pos q]; subst q; exact end_lt hat hR hU r1 r2 hxy
    · omega
theorem cov_new (hat : at_ < to) (hR : Runs n h ge) (hU : Uni h ge at_ to from_ end_ (fun z => h z = true)) (k : Int) : Cov (newH h ge at_ to from_) (newG ge from_ end_) k ↔ Cov h ge k ∨ (at_ ≤ k ∧ k < to) := by
  have hf1 := hU.f1
  have he1 := hU.e1
  constructor
  · rintro ⟨x, x1, x2, x3⟩
    unfold newG at x3
    rcases new_iff.1 x1 with ⟨q1, q2⟩ | q
    · rw [if_neg (not_from hat hR hU q1 q2)] at x3
      exact .inl ⟨x, q1, x2, x3⟩
    · rw [if_pos q] at x3
      subst q
      by_cases c1 : k < at_
      · rcases hU.f2 with r | ⟨r, _⟩
        · omega
        · obtain ⟨r1, r2, r3⟩ := tch_iff.1 r
          exact .inl ⟨x, r1, x2, by omega⟩
      by_cases c2 : k < to
      · exact .inr ⟨by omega, c2⟩
      rcases hU.e2 with r | ⟨y, y1, _, y2⟩
      · omega
      · obtain ⟨r1, r2, r3⟩ := tch_iff.1 y1
        exact .inl ⟨y, r1, by omega, by omega⟩
  · rintro (⟨x, x1, x2, x3⟩ | ⟨q1, q2⟩)
    · by_cases t : tch h ge at_ to x = true
      · obtain ⟨a1, a2⟩ := hU.all x x1 t
        exact ⟨from_, new_iff.2 (.inr rfl), by omega, by unfold newG; rw [if_pos rfl]; omega⟩
      · exact ⟨x, new_iff.2 (.inl ⟨x1, t⟩), x2, by unfold newG; rw [if_neg (not_from hat hR hU x1 t)]; exact x3⟩
    · exact ⟨from_, new_iff.2 (.inr rfl), by omega, by unfold newG; rw [if_pos rfl]; omega⟩
/-- One more run looked at. -/
theorem Uni.step {P : Int → Prop} (hU : Uni h ge at_ to from_ end_ P) {a : Int} (ht : tch h ge at_ to a = true) {P' : Int → Prop} (hP : ∀ z, P' z ↔ P z ∨ z = a) : Uni h ge at_ to (if a < from_ then a else from_) (if ge a > end_ then ge a else end_) P' := by
  obtain ⟨t1, t2, t3⟩ := tch_iff.1 ht
  have h1 := hU.f1; have h2 := hU.e1
  refine ⟨by split <;> omega, ?_, by split <;> omega, ?_, fun z hz hzt => ?_⟩
  · split
    · exact .inr ⟨ht, (hP a).2 (.inr rfl)⟩
    · rcases hU.f2 with q | ⟨q, r⟩
      · exact .inl q
      · exact .inr ⟨q, (hP _).2 (.inl r)⟩
  · split
    · exact .inr ⟨a, ht, (hP a).2 (.inr rfl), rfl⟩
    · rcases hU.e2 with q | ⟨y, y1, y2, y3⟩
      · exact .inl q
      · exact .inr ⟨y, y1, (hP y).2 (.inl y2), y3⟩
  · rcases (hP z).1 hz with q | q
    · have := hU.all z q hzt
      constructor <;> split <;> omega
    · subst q
      constructor <;> split <;> omega
theorem Uni.skip {P : Int → Prop} (hU : Uni h ge at_ to from_ end_ P) {a : Int} (ht : tch h ge at_ to a ≠ true) {P' : Int → Prop} (hP : ∀ z, P' z ↔ P z ∨ z = a) : Uni h ge at_ to from_ end_ P' := by
  refine ⟨hU.f1, ?_, hU.e1, ?_, fun z hz hzt => ?_⟩
  · rcases hU.f2 with q | ⟨q, r⟩
    · exact .inl q
    · exact .inr ⟨q, (hP _).2 (.inl r)⟩
  · rcases hU.e2 with q | ⟨y, y1, y2, y3⟩
    · exact .inl q
    · exact .inr ⟨y, y1, (hP y).2 (.inl y2), y3⟩
  · rcases (hP z).1 hz with q | q
    · exact hU.all z q hzt
    · subst q; exact absurd hzt ht
theorem Uni.first {P : Int → Prop} (hP : ∀ z, ¬ P z) : Uni h ge at_ to at_ to P := ⟨Int.le_refl _, .inl rfl, Int.le_refl _, .inl rfl, fun z hz => absurd hz (hP z)⟩
theorem Uni.congr {P P' : Int → Prop} (hU : Uni h ge at_ to from_ end_ P) (hP : ∀ z, P' z ↔ P z) : Uni h ge at_ to from_ end_ P' := by
  refine ⟨hU.f1, ?_, hU.e1, ?_, fun z hz hzt => hU.all z ((hP z).1 hz) hzt⟩
  · rcases hU.f2 with q | ⟨q, r⟩
    · exact .inl q
    · exact .inr ⟨q, (hP _).2 r⟩
  · rcases hU.e2 with q | ⟨y, y1, y2, y3⟩
    · exact .inl q
    · exact .inr ⟨y, y1, (hP y).2 y2, y3⟩
end

/-! ### gaps -/
/-- What is missing up to n, behind a place. -/
def gapsR (n : Int) (ge : Int → Int) : Int → List Int → List (Int × Int)
  | p, [] => if p < n then [(p, n)] else []
  | p, a :: r => (if p < (if n < a then n else a) then [(p, if n < a then n else a)] else []) ++ gapsR n ge (ge a) r
def gapSum : List (Int × Int) → Int
  | [] => 0
  | g :: r => (g.2 - g.1) + gapSum r
theorem gapSum_app : ∀ l m : List (Int × Int), gapSum (l ++ m) = gapSum l + gapSum m
  | [], m => by simp [gapSum]
  | g :: r, m => by simp only [List.cons_append, gapSum, gapSum_app r m]; omega
/-- How many of the first k are not there. -/
def unc (f : Nat → Bool) : Nat → Nat
  | 0 => 0
  | k + 1 => unc f k + (if f k then 0 else 1)
theorem unc_none {f : Nat → Bool} {a : Nat} : ∀ {d : Nat}, (∀ k, a ≤ k → k < a + d → f k = true) → unc f (a + d) = unc f a
  | 0, _ => rfl
  | d + 1, h => by
    have e : unc f (a + (d + 1)) = unc f (a + d) + (if f (a + d) then 0 else 1) := rfl
    rw [e, if_pos (h (a + d) (by omega) (by omega)), unc_none fun k h1 h2 => h k h1 (by omega)]
    rfl
theorem unc_all {f : Nat → Bool} {a : Nat} : ∀ {d : Nat}, (∀ k, a ≤ k → k < a + d → f k = false) → unc f (a + d) = unc f a + d
  | 0, _ => rfl
  | d + 1, h => by
    have e : unc f (a + (d + 1)) = unc f (a + d) + (if f (a + d) then 0 else 1) := rfl
    rw [e, h (a + d) (by omega) (by omega), unc_all fun k h1 h2 => h k h1 (by omega)]
    rfl
theorem unc_zero {f : Nat → Bool} : ∀ {n : Nat}, unc f n = 0 ↔ ∀ k, k < n → f k = true
  | 0 => ⟨fun _ k hk => absurd hk (Nat.not_lt_zero _), fun _ => rfl⟩
  | n + 1 => by
    show unc f n + _ = 0 ↔ _
    constructor
    · intro h k hk
      have h1 : unc f n = 0 := by omega
      by_cases q : k = n
      · subst q
        cases e : f k with
        | true => rfl
        | false => rw [e] at h; simp at h
      · exact unc_zero.1 h1 k (by omega)
    · intro h
      rw [h n (by omega), unc_zero.2 fun k hk => h k (by omega)]
      rfl
/-- Between two numbers: all are there; none is. -/
theorem unc_true {f : Nat → Bool} {a b : Nat} (hab : a ≤ b) (h : ∀ k, a ≤ k → k < b → f k = true) : unc f b = unc f a := by
  have := unc_none (f := f) (a := a) (d := b - a) fun k h1 h2 => h k h1 (by omega)
  rwa [show a + (b - a) = b by omega] at this
theorem unc_false {f : Nat → Bool} {a b : Nat} (hab : a ≤ b) (h : ∀ k, a ≤ k → k < b → f k = false) : unc f b = unc f a + (b - a) := by
  have := unc_all (f := f) (a := a) (d := b - a) fun k h1 h2 => h k h1 (by omega)
  rwa [show a + (b - a) = b by omega] at this
/-- The gaps are what is missing: each holds only what is missing; together they are as many. -/
theorem gaps_main {n : Nat} {h : Int → Bool} {ge : Int → Int} {f : Nat → Bool} (hR : Runs n h ge) (hf : ∀ k : Nat, k < n → (f k = true ↔ Cov h ge k)) :
    ∀ (l : List Int) (p : Nat), l.Pairwise (· < ·) → p ≤ n → (∀ x ∈ l, h x = true) → (∀ x ∈ l, (p : Int) ≤ x) → (∀ x, h x = true → x ∉ l → ge x ≤ p) →
      (∀ g ∈ gapsR n ge p l, (p : Int) ≤ g.1 ∧ g.1 < g.2 ∧ g.2 ≤ n ∧ ∀ k : Nat, g.1 ≤ k → (k : Int) < g.2 → f k = false) ∧ (unc f n : Int) = unc f p + gapSum (gapsR n ge p l)
  | [], p, _, hp, _, _, hout => by
    have hall : ∀ k : Nat, p ≤ k → k < n → f k = false := fun k h1 h2 => by
      cases e : f k with
      | false => rfl
      | true =>
        obtain ⟨x, x1, x2, x3⟩ := (hf k h2).1 e
        have := hout x x1 (by simp)
        omega
    have hu := unc_false hp hall
    unfold gapsR
    by_cases q : (p : Int) < n
    · rw [if_pos q]
      refine ⟨fun g hg => ?_, by simp only [gapSum]; omega⟩
      rw [List.mem_singleton] at hg
      subst hg
      exact ⟨Int.le_refl _, q, Int.le_refl _, fun k h1 h2 => hall k (by dsimp only at h1; omega) (by dsimp only at h2; omega)⟩
    · rw [if_neg q]
      exact ⟨fun g hg => by simp at hg, by simp only [gapSum]; omega⟩
  | a :: r, p, hl, hp, hin, hge, hout => by
    obtain ⟨l1, l2⟩ := List.pairwise_cons.1 hl
    have ha := hin a (List.mem_cons_self ..)
    obtain ⟨a0, a1, a2⟩ := hR.1 a ha
    have hpa := hge a (List.mem_cons_self ..)
    have hm : (if (n : Int) < a then (n : Int) else a) = a := if_neg (by omega)
    obtain ⟨an, rfl⟩ : ∃ an : Nat, a = an := ⟨a.toNat, by omega⟩
    obtain ⟨en, he⟩ : ∃ en : Nat, ge an = en := ⟨(ge an).toNat, by omega⟩
    have hall : ∀ k : Nat, p ≤ k → k < an → f k = false := fun k h1 h2 => by
      cases e : f k with
      | false => rfl
      | true =>
        obtain ⟨x, x1, x2, x3⟩ := (hf k (by omega)).1 e
        by_cases hx : x ∈ (an : Int) :: r
        · rcases List.mem_cons.1 hx with q | q
          · omega
          · have := l1 x q; omega
        · have := hout x x1 hx; omega
    have hcov : ∀ k : Nat, an ≤ k → k < en → f k = true := fun k h1 h2 => (hf k (by omega)).2 ⟨an, ha, by omega, by omega⟩
    obtain ⟨i1, i2⟩ := gaps_main hR hf r en l2 (by omega) (fun x hx => hin x (List.mem_cons_of_mem _ hx)) (fun x hx => by
      have := hR.2 an x ha (hin x (List.mem_cons_of_mem _ hx)) (l1 x hx)
      omega) (fun x hx hxr => by
      by_cases q : x = an
      · subst q; omega
      · have := hout x hx (by simp only [List.mem_cons, not_or]; exact ⟨q, hxr⟩); omega)
    have u1 := unc_false (f := f) (a := p) (b := an) (by omega) hall
    have u2 := unc_true (f := f) (a := an) (b := en) (by omega) hcov
    unfold gapsR
    rw [hm, he, gapSum_app]
    constructor
    · intro g hg
      rcases List.mem_append.1 hg with hg | hg
      · split at hg
        · rw [List.mem_singleton] at hg
          subst hg
          exact ⟨Int.le_refl _, by assumption, by dsimp only; omega, fun k h1 h2 => hall k (by dsimp only at h1; omega) (by dsimp only at h2; omega)⟩
        · cases hg
      · obtain ⟨b1, b2⟩ := i1 g hg
        exact ⟨by omega, b2⟩
    · split <;> simp only [gapSum] <;> omega
theorem gaps_len (n : Int) (ge : Int → Int) : ∀ (l : List Int) (p : Int), (gapsR n ge p l).length ≤ l.length + 1
  | [], p => by unfold gapsR; split <;> simp
  | a :: r, p => by
    have := gaps_len n ge r (ge a)
    unfold gapsR
    rw [List.length_append, List.length_cons]
    have h2 : ∀ (c : Prop) [Decidable c] (g : Int × Int), (if c then [g] else []).length ≤ 1 := fun c _ g => by by_cases q : c <;> simp [q]
    have := h2 (p < (if n < a then n else a)) (p, if n < a then n else a)
    omega
theorem gapSum_pos {n : Nat} : ∀ {l : List (Int × Int)}, (∀ g ∈ l, g.1 < g.2) → 0 ≤ gapSum l ∧ (gapSum l = 0 → l = [])
  | [], _ => ⟨Int.le_refl _, fun _ => rfl⟩
  | g :: r, h => by
    obtain ⟨h1, h2⟩ := gapSum_pos (n := n) (l := r) fun x hx => h x (List.mem_cons_of_mem _ hx)
    have h3 := h g (List.mem_cons_self ..)
    refine ⟨by simp only [gapSum]; omega, fun q => by simp only [gapSum] at q; omega⟩
end Rc
