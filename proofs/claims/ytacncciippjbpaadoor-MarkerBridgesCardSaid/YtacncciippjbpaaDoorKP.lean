/-
  OWN WORK. Marker: what a finder finds, plainly.
-/
import Derived.Test.YtacncciippjbpaaDoorKM
namespace Mk
open Go Go.Proofs Eng
set_option linter.unusedVariables false
set_option linter.unusedSimpArgs false
set_option maxRecDepth 100000

/-- The blocks lie behind e, do not overlap, and consist of the values behind their places. -/
def chain (len : Nat) (all : List Int) : Int → List Bk → Prop
  | _, [] => True
  | e, b :: r => e ≤ b.at_ ∧ 0 ≤ b.at_ ∧ b.at_ + 32 + len ≤ all.length ∧ b.soft = (all.drop (b.at_.toNat + 32)).take len ∧ chain len all (b.at_ + 32 + len) r
theorem steps_chain {len : Nat} {all : List Int} {s t : St} {L : List Bk} (h : Steps len s L t) : 0 ≤ s.pl → s.pl ≤ all.length → s.l = all.drop s.pl.toNat → chain len all s.pl L ∧ s.pl ≤ t.pl := by
  have mono : ∀ {e e' : Int} {L : List Bk}, e ≤ e' → chain len all e' L → chain len all e L := by
    intro e e' L he h
    cases L with
    | nil => trivial
    | cons b r => exact ⟨Int.le_trans he h.1, h.2⟩
  induction h with
  | refl s => exact fun _ _ _ => ⟨trivial, Int.le_refl _⟩
  | @step s t u a b hs r ih =>
    intro h0 h1 h2
    have hl : s.l.length = all.length - s.pl.toNat := by rw [h2, List.length_drop]
    unfold mstp at hs
    by_cases ho : s.op = true
    · rw [if_pos ho] at hs
      by_cases hn : 32 + len ≤ s.l.length
      · rw [if_pos hn] at hs
        simp only [Option.some.injEq, Prod.mk.injEq] at hs
        obtain ⟨rfl, rfl⟩ := hs
        dsimp only at ih
        obtain ⟨i1, i2⟩ := ih (by omega) (by omega) (by rw [h2, List.drop_drop]; congr 1; omega)
        refine ⟨⟨Int.le_refl _, h0, by dsimp only; omega, ?_, ?_⟩, by omega⟩
        · dsimp only
          rw [h2, List.drop_drop]
        · dsimp only
          have : s.pl + 32 + (len : Int) = s.pl + ((32 + len : Nat) : Int) := by omega
          rw [this]
          exact i1
      · rw [if_neg hn] at hs; cases hs
    · rw [if_neg ho] at hs
      by_cases hn : s.l.length < 32
      · rw [if_pos hn] at hs; cases hs
      rw [if_neg hn] at hs
      by_cases hc : cnt s.l ≤ 2
      · rw [if_pos hc] at hs
        simp only [Option.some.injEq, Prod.mk.injEq] at hs
        obtain ⟨rfl, rfl⟩ := hs
        exact ih h0 h1 h2
      rw [if_neg hc] at hs
      by_cases hk : s.lk = false
      · rw [if_pos hk] at hs
        simp only [Option.some.injEq, Prod.mk.injEq] at hs
        obtain ⟨rfl, rfl⟩ := hs
        dsimp only at ih
        obtain ⟨i1, i2⟩ := ih (by omega) (by omega) (by rw [h2, List.drop_drop]; congr 1; omega)
        exact ⟨mono (by omega) i1, by omega⟩
      rw [if_neg hk] at hs
      by_cases hm : s.ms + 1 = 3
      · rw [if_pos hm] at hs
        simp only [Option.some.injEq, Prod.mk.injEq] at hs
        obtain ⟨rfl, rfl⟩ := hs
        exact ih h0 h1 h2
      · rw [if_neg hm] at hs
        simp only [Option.some.injEq, Prod.mk.injEq] at hs
        obtain ⟨rfl, rfl⟩ := hs
        exact ih h0 h1 h2
/-- .. block by block. -/
def endF (len : Nat) (B : Nat → BD) : Nat → Int
  | 0 => 0
  | i + 1 => (B i).1 + 32 + len
theorem chain_app {len : Nat} {all : List Int} : ∀ {L M : List Bk} {e : Int}, chain len all e (L ++ M) → chain len all e L ∧ ∀ b, M = [b] → (L.foldl (fun _ x => x.at_ + 32 + (len : Int)) e) ≤ b.at_ ∧ 0 ≤ b.at_ ∧ b.at_ + 32 + len ≤ all.length ∧ b.soft = (all.drop (b.at_.toNat + 32)).take len
  | [], M, e, h => ⟨trivial, fun b hb => by subst hb; exact ⟨h.1, h.2.1, h.2.2.1, h.2.2.2.1⟩⟩
  | x :: L, M, e, h => by
    obtain ⟨h1, h2, h3, h4, h5⟩ := h
    obtain ⟨i1, i2⟩ := chain_app h5
    exact ⟨⟨h1, h2, h3, h4, i1⟩, i2⟩
theorem fold_end (len : Nat) (B : Nat → BD) : ∀ k, (bkL len B k).foldl (fun _ x => x.at_ + 32 + (len : Int)) 0 = endF len B k
  | 0 => rfl
  | k + 1 => by rw [bkL, List.foldl_append]; rfl
theorem chain_get {len : Nat} {all : List Int} {B : Nat → BD} : ∀ {k : Nat}, chain len all 0 (bkL len B k) → ∀ i, i < k → endF len B i ≤ (B i).1 ∧ 0 ≤ (B i).1 ∧ (B i).1 + 32 + len ≤ all.length ∧ rowL (B i).2.2.2.2.2 len = (all.drop ((B i).1.toNat + 32)).take len
  | 0, _, i, hi => absurd hi (Nat.not_lt_zero i)
  | k + 1, h, i, hi => by
    rw [bkL] at h
    obtain ⟨h1, h2⟩ := chain_app h
    by_cases e : i = k
    · subst e
      obtain ⟨q1, q2, q3, q4⟩ := h2 _ rfl
      rw [fold_end] at q1
      exact ⟨q1, q2, q3, q4⟩
    · exact chain_get h1 i (by omega)
theorem bkL_app (len : Nat) (B B' : Nat → BD) (k : Nat) : ∀ k', bkL len B k ++ bkL len B' k' = bkL len (fun i => if i < k then B i else B' (i - k)) (k + k')
  | 0 => by
    rw [bkL, List.append_nil]
    exact bkL_congr fun i hi => (if_pos hi).symm
  | k' + 1 => by
    rw [bkL, ← List.append_assoc, bkL_app len B B' k k', show k + (k' + 1) = (k + k') + 1 from rfl, bkL]
    have : ¬ k + k' < k := by omega
    simp only [this, if_false, Nat.add_sub_cancel_left]
/-- A finder behind t values of f: its blocks so far. -/
def pFin (len : Int) (f : Nat → Int) (t : Nat) (d : FD) (L : List Bk) : Prop := feedInv d t ∧ d.tk = t ∧ d.len = len ∧ Runs len.toNat ⟨rowL f t, 0, false, 0, 0, false⟩ L d.abs
theorem pFin_new {len : Int} (h1 : 1 ≤ len) (f : Nat → Int) (y : (Nat × Nat) × Value) : pFin len f 0 (newD len y).fd [] :=
  ⟨⟨⟨⟨Nat.le_refl _, Nat.le_refl _, Nat.le_refl _, Nat.le_refl _⟩, fun h => h, of_decide_eq_true rfl, of_decide_eq_true rfl, of_decide_eq_true rfl, of_decide_eq_true rfl⟩, fun _ => rfl, .inr rfl, rfl⟩, rfl, rfl, .refl _, rfl⟩
theorem pFin_pre {len : Int} {f : Nat → Int} {t : Nat} {d : FD} {L : List Bk} {x : RowD Int} (h : pFin len f t d L) (h1 : 1 ≤ len) (h2 : len ≤ 300) (h3 : t + x.n ≤ 10000) : feedPre d x := by
  obtain ⟨⟨a1, a2, a3, a4⟩, b, c, e⟩ := h
  obtain ⟨o1, o2, o3, o4, o5, o6⟩ := a1
  exact ⟨⟨o1, o2, o3, o4, o5, o6⟩, a2, a3, by omega, by omega, by omega, by omega⟩
theorem pFin_step {len : Int} {f : Nat → Int} {t n : Nat} {d : FD} {L : List Bk} {x : RowD Int} {y : LX} (h : pFin len f t d L) (hs : ∀ i, i < t + n → isV (f i) = true) (hn : x.n = n) (hf : ∀ i, i < n → x.f i = f (t + i))
    (ht : t + n ≤ 10000) (h1 : feedP d x (y, (0, 0))) : pFin len f (t + n) (d.upd y.1 (0, 0)) (L ++ bkL len.toNat y.2.2.2.2 y.2.1) ∧ feedE x = 0 ∧ y.2.1 ≤ y.2.2.1.2.2 ∧ (y.2.1 = 0 → y.2.2.1.2.2 = 0) ∧ y.2.1 ≤ 33318534300 := by
  obtain ⟨⟨a1, a2, a3, a4⟩, b, c, r, rn⟩ := h
  have s1 : softB x.f x.n = true := softB_of fun i hi => by rw [hf i (by omega)]; exact hs _ (by omega)
  unfold feedP at h1
  rw [if_pos s1] at h1
  obtain ⟨⟨r1, rn1⟩, ⟨i1, i2, i3, i4⟩, k1, k2, k3, k4⟩ := h1
  refine ⟨⟨⟨i1, i2, i3, i4.trans (by omega)⟩, ?_, c, ?_, ?_⟩, if_pos s1, k2, k4, k3⟩
  · show y.1.1 = _
    rw [k1, b, hn, w64_id (by omega) (by omega)]
    omega
  · have e : rowL f (t + n) = rowL f t ++ rowL x.f x.n := by
      rw [hn, rowL_app]
      refine rowL_congr fun i hi => ?_
      by_cases q : i < t
      · rw [if_pos q]
      · rw [if_neg q, hf _ (by omega)]; congr 1; omega
    have r2 := Steps.push (rowL x.f x.n) r
    rw [c] at r1
    have := r2.trans r1
    rw [e]
    exact this
  · rw [c] at rn1
    exact rn1
theorem pFin_none {len : Int} {f : Nat → Int} {t : Nat} {d : FD} {L : List Bk} {x : RowD Int} {y : LX} (h : pFin len f t d L) (hx : softB x.f x.n = false) (h1 : feedP d x (y, (0, 0))) : pFin len f t (d.upd y.1 (0, 0)) L ∧ feedE x = 2 := by
  unfold feedP at h1
  rw [if_neg (by rw [hx]; decide)] at h1
  rw [h1.1]
  exact ⟨h, if_neg (by rw [hx]; decide)⟩
theorem pFin_uniq {len : Int} {f : Nat → Int} {t : Nat} {d d' : FD} {L L' : List Bk} (h : pFin len f t d L) (h' : pFin len f t d' L') : L = L' := (h.2.2.2.uniq h'.2.2.2).1
theorem pFin_chain {len : Int} {f : Nat → Int} {t : Nat} {d : FD} {B : Nat → BD} {k : Nat} (h : pFin len f t d (bkL len.toNat B k)) : ∀ i, i < k → endF len.toNat B i ≤ (B i).1 ∧ 0 ≤ (B i).1 ∧ (B i).1 + 32 + len.toNat ≤ t ∧ ∀ j, j < len.toNat → (B i).2.2.2.2.2 j = f ((B i).1.toNat + 32 + j) := by
  intro i hi
  have hc := (steps_chain (all := rowL f t) h.2.2.2.1 (Int.le_refl _) (by rw [rowL_len]; exact Int.natCast_nonneg _) rfl).1
  obtain ⟨q1, q2, q3, q4⟩ := chain_get hc i hi
  rw [rowL_len] at q3
  refine ⟨q1, q2, q3, fun j hj => ?_⟩
  rw [rowL_drop, rowL_take _ _ _ (by omega)] at q4
  rw [← rowL_get (B i).2.2.2.2.2 hj, q4, rowL_get _ hj]
end Mk
