/-
  OWN WORK. Marker: both finders side by side, plainly.
-/
import Derived.Test.YtacncciippjbpaaDoorKK
namespace Mk
open Go Go.Proofs Eng
set_option linter.unusedVariables false
set_option linter.unusedSimpArgs false
set_option maxRecDepth 100000

theorem bkL_inj {len : Nat} {B B' : Nat → BD} : ∀ {k : Nat}, bkL len B k = bkL len B' k → ∀ i, i < k → (B i).1 = (B' i).1 ∧ (B i).2.1 = (B' i).2.1 ∧ ∀ j, j < len → (B i).2.2.2.2.2 j = (B' i).2.2.2.2.2 j
  | 0, _, i, hi => absurd hi (Nat.not_lt_zero i)
  | k + 1, h, i, hi => by
    rw [bkL, bkL] at h
    obtain ⟨h1, h2⟩ := List.append_inj h (by rw [bkL_len, bkL_len])
    by_cases e : i = k
    · subst e
      injection h2 with h2 _
      injection h2 with q1 q2 q3
      refine ⟨q1, q2, fun j hj => ?_⟩
      rw [← rowL_get (B i).2.2.2.2.2 hj, q3, rowL_get _ hj]
    · exact bkL_inj h1 i (by omega)
theorem bkL_k {len : Nat} {B B' : Nat → BD} {k k' : Nat} (h : bkL len B k = bkL len B' k') : k = k' := by
  rw [← bkL_len len B k, h, bkL_len]
theorem intsB_of {a b : RowD Int} (hn : a.n = b.n) (hf : ∀ i, i < a.n → a.f i = b.f i) : intsB a b = true := by
  unfold intsB
  rw [decide_eq_true hn, Bool.true_and]
  exact eqTo_yes fun i hi => by rw [hf i hi]; exact beq_self_eq_true _
theorem blksB_of {len : Nat} {B B' : Nat → BD} {k k' : Nat} (h : bkL len B k = bkL len B' k') {a a' : RowD BkD} (hk : a.n = k) (hk' : a'.n = k')
    (hf : ∀ i, (a.f i).1 = (B i).1 ∧ (a.f i).2.1 = (B i).2.1 ∧ (a.f i).2.2.1.n = len ∧ (a.f i).2.2.1.f = (B i).2.2.2.2.2) (hf' : ∀ i, (a'.f i).1 = (B' i).1 ∧ (a'.f i).2.1 = (B' i).2.1 ∧ (a'.f i).2.2.1.n = len ∧ (a'.f i).2.2.1.f = (B' i).2.2.2.2.2) : blksB a a' = true := by
  have e := bkL_k h
  subst e
  unfold blksB
  rw [decide_eq_true (hk.trans hk'.symm), Bool.true_and]
  refine eqTo_yes fun i hi => ?_
  obtain ⟨q1, q2, q3⟩ := bkL_inj h i (by omega)
  obtain ⟨f1, f2, f3, f4⟩ := hf i
  obtain ⟨g1, g2, g3, g4⟩ := hf' i
  unfold bkEq
  rw [f1, f2, g1, g2, q1, q2, intsB_of (f3.trans g3.symm) (fun j hj => by rw [f4, g4]; exact q3 j (by omega))]
  simp
/-- Both finders have taken the same t values. -/
def gFin (len : Int) (t : Nat) (d : FV) (r : RD) : Prop := feedInv d.fd t ∧ d.fd.tk = t ∧ d.fd.len = len ∧ feedRInv r t ∧ r.len = len ∧ d.fd.abs = r.abs
theorem gFin_pre1 {len : Int} {t : Nat} {d : FV} {r : RD} {x : RowD Int} (h : gFin len t d r) (h1 : 1 ≤ len) (h2 : len ≤ 300) (h3 : t + x.n ≤ 10000) : feedPre d.fd x := by
  obtain ⟨⟨a1, a2, a3, a4⟩, b, c, e⟩ := h
  obtain ⟨o1, o2, o3, o4, o5, o6⟩ := a1
  exact ⟨⟨o1, o2, o3, o4, o5, o6⟩, a2, a3, by omega, by omega, by omega, by omega⟩
theorem gFin_pre2 {len : Int} {t : Nat} {d : FV} {r : RD} {x : RowD Int} (h : gFin len t d r) (h1 : 1 ≤ len) (h2 : len ≤ 300) (h3 : t + x.n ≤ 10000) : feedRPre r x := by
  obtain ⟨_, _, _, ⟨a1, a2, a3⟩, b, _⟩ := h
  exact ⟨a1, a2, by omega, by omega, by omega⟩
theorem softB_congr {f g : Nat → Int} {n : Nat} (h : softB f n = true) (hg : ∀ i, i < n → g i = f i) : softB g n = true := softB_of fun i hi => by rw [hg i hi]; exact softB_at h hi
theorem gFin_step {len : Int} {t n : Nat} {d : FV} {r : RD} {f : Nat → Int} {x x' : RowD Int} {y : LX} {y' : RX} (v : Value) (h : gFin len t d r) (hs : softB f n = true) (hn : x.n = n) (hf : ∀ i, i < n → x.f i = f i) (hn' : x'.n = n) (hf' : ∀ i, i < n → x'.f i = f i)
    (ht : t + n ≤ 10000) (h1 : feedP d.fd x (y, (0, 0))) (h2 : feedRP r x' y') :
    bkL len.toNat y.2.2.2.2 y.2.1 = bkL len.toNat y'.2.2.2 y'.2.1 ∧ gFin len (t + n) (d.upd y.1 v) (r.upd y'.1) ∧ feedE x = 0 ∧ feedE x' = 0 := by
  obtain ⟨⟨a1, a2, a3, a4⟩, b, c, ⟨e1, e2, e3⟩, g, k⟩ := h
  have s1 : softB x.f x.n = true := by rw [hn]; exact softB_congr hs hf
  have s2 : softB x'.f x'.n = true := by rw [hn']; exact softB_congr hs hf'
  unfold feedP at h1
  unfold feedRP at h2
  rw [if_pos s1] at h1
  rw [if_pos s2] at h2
  obtain ⟨r1, ⟨i1, i2, i3, i4⟩, k1, _, _, _⟩ := h1
  obtain ⟨r2, ⟨j1, j2, j3⟩, _, _, _⟩ := h2
  have e4 : rowL x.f x.n = rowL x'.f x'.n := by
    rw [hn, hn']
    exact rowL_congr fun i hi => by rw [hf i hi, hf' i hi]
  rw [c, k, e4] at r1
  rw [g] at r2
  obtain ⟨u1, u2⟩ := r1.uniq r2
  refine ⟨u1, ⟨⟨i1, i2, i3, ?_⟩, ?_, c, ⟨j1, j2, ?_⟩, g, u2⟩, if_pos s1, if_pos s2⟩
  · exact i4.trans (by omega)
  · show y.1.1 = _
    rw [k1, b, hn, w64_id (by omega) (by omega)]
    omega
  · rw [j3, e3, hn']
/-- The loop's state: both finders, the stream's row, and (round, place, how many are left, room). -/
abbrev GX := FV × RD × IR × (Nat × Nat × Nat × Nat)
def gInv (len : Int) (np : Nat) (y : GX) : Prop :=
  irOk y.2.2.1 ∧ y.2.2.1.1 ≤ 9960 ∧ y.2.2.2.2.2.1 ≤ y.2.2.1.1 ∧ y.2.2.2.2.2.1 ≤ y.2.2.2.2.2.2 ∧ (0 < y.2.2.2.2.2.1 → y.2.2.2.2.1 + y.2.2.2.2.2.1 = y.2.2.1.1) ∧ y.2.2.2.1 ≤ np + 1 ∧ (0 < y.2.2.2.2.2.1 → y.2.2.2.1 ≤ np) ∧ gFin len (y.2.2.1.1 - y.2.2.2.2.2.1) y.1 y.2.1
end Mk
