/-
  OWN WORK. The best way through the trellis: decoding where few symbols are inverted.
-/
import Derived.Test.YtnibcchhhebfaaaGreatDoorQ2
import Derived.Test.YtnibcchhhebfaaaGreatDoorQ7
import Derived.Test.YtnibcchhhebfaaaGreatDoorQ4
namespace Vt
set_option linter.unusedVariables false
set_option linter.unusedSimpArgs false
set_option maxRecDepth 100000
/-- How much two ways that lead to states so far apart differ at least. -/
def dTab : List Nat := [0, 8, 7, 7, 7, 5, 6, 6, 5, 7, 4, 8, 4, 6, 5, 7, 3, 7, 6, 6, 4, 4, 7, 7, 4, 6, 5, 7, 5, 7, 6, 6, 2, 8, 5, 7, 5, 5, 4, 6, 3, 7, 4, 8, 6, 6, 7, 7, 3, 5, 6, 4, 4, 6, 7, 7, 4, 4, 5, 7, 5, 5, 6, 6]
def dD (s t : Nat) : Nat := dTab.getD (Nat.xor s t) 0
def df (a b : Nat) : Nat := if a = b then 0 else 1
def ddOk (i : Nat) : Bool :=
  if nxt (i % 64) (i / 4096 % 2) = nxt (i / 64 % 64) (i / 8192) then decide (i % 64 = i / 64 % 64) || decide (10 ≤ dD (i % 64) (i / 64 % 64) + (df (fs (i % 64) (i / 4096 % 2)) (fs (i / 64 % 64) (i / 8192)) + df (sc (i % 64) (i / 4096 % 2)) (sc (i / 64 % 64) (i / 8192))))
  else decide (dD (nxt (i % 64) (i / 4096 % 2)) (nxt (i / 64 % 64) (i / 8192)) ≤ dD (i % 64) (i / 64 % 64) + (df (fs (i % 64) (i / 4096 % 2)) (fs (i / 64 % 64) (i / 8192)) + df (sc (i % 64) (i / 4096 % 2)) (sc (i / 64 % 64) (i / 8192))))
theorem dd_all : allB ddOk 16384 = true := by decide +kernel
theorem dd_step {s t b c : Nat} (hs : s < 64) (ht : t < 64) (hb : b < 2) (hc : c < 2) :
    (nxt s b = nxt t c → s = t ∨ 10 ≤ dD s t + (df (fs s b) (fs t c) + df (sc s b) (sc t c))) ∧ (nxt s b ≠ nxt t c → dD (nxt s b) (nxt t c) ≤ dD s t + (df (fs s b) (fs t c) + df (sc s b) (sc t c))) := by
  have h := allB_true dd_all (8192 * c + 4096 * b + 64 * t + s) (by omega)
  unfold ddOk at h
  rw [show (8192 * c + 4096 * b + 64 * t + s) % 64 = s by omega, show (8192 * c + 4096 * b + 64 * t + s) / 64 % 64 = t by omega, show (8192 * c + 4096 * b + 64 * t + s) / 4096 % 2 = b by omega, show (8192 * c + 4096 * b + 64 * t + s) / 8192 = c by omega] at h
  refine ⟨fun q => ?_, fun q => ?_⟩
  · rw [if_pos q, Bool.or_eq_true, decide_eq_true_eq, decide_eq_true_eq] at h
    exact h
  · rw [if_neg q] at h
    exact of_decide_eq_true h
theorem tab_le : ∀ i, dTab.getD i 0 ≤ 8 := fun i => by
  by_cases h : i < 64
  · exact of_decide_eq_true (allB_true (show allB (fun i => decide (dTab.getD i 0 ≤ 8)) 64 = true by decide +kernel) i h)
  · rw [List.getD_eq_getElem?_getD, List.getElem?_eq_none (by show 64 ≤ i; omega)]
    exact Nat.zero_le _
theorem dD_le (s t : Nat) : dD s t ≤ 8 := tab_le _
theorem dD_self (s : Nat) : dD s s = 0 := by
  unfold dD
  rw [show Nat.xor s s = 0 from Nat.xor_self s]
  rfl
/-- Is the value k inverted? -/
def fl (bt : Nat → Nat) (f : Nat → Int) (k : Nat) : Nat := if f k = sft (sym bt k) then 0 else 1
/-- How many of the first 2 i values are inverted. -/
def erN (bt : Nat → Nat) (f : Nat → Int) : Nat → Nat
  | 0 => 0
  | i + 1 => erN bt f i + (fl bt f (2 * i) + fl bt f (2 * i + 1))
/-- The sum of the true way. -/
def smF (bt : Nat → Nat) (f : Nat → Int) : Nat → Int
  | 0 => 0
  | i + 1 => smF bt f i + gain (fs (stAt bt i) (bt i)) (sc (stAt bt i) (bt i)) (f (2 * i)) (f (2 * i + 1))
def Near (bt : Nat → Nat) (f : Nat → Int) (n : Nat) : Prop := ∀ k, k < n → f k = sft (sym bt k) ∨ f k = - sft (sym bt k)
theorem gain_near {f g p q : Nat} (hf : f ≤ 1) (hg : g ≤ 1) (hp : p ≤ 1) (hq : q ≤ 1) {x y : Int} (hx : x = sft p ∨ x = - sft p) (hy : y = sft q ∨ y = - sft q) :
    gain f g x y ≤ gain p q x y - 7 * ((df f p + df g q : Nat) : Int) + 14 * (((if x = sft p then 0 else 1) + (if y = sft q then 0 else 1) : Nat) : Int) ∧ -14 ≤ gain f g x y ∧ gain f g x y ≤ 14 := by
  rcases (by omega : f = 0 ∨ f = 1) with rfl | rfl <;> rcases (by omega : g = 0 ∨ g = 1) with rfl | rfl <;> rcases (by omega : p = 0 ∨ p = 1) with rfl | rfl <;> rcases (by omega : q = 0 ∨ q = 1) with rfl | rfl <;> rcases hx with rfl | rfl <;> rcases hy with rfl | rfl <;> decide
theorem sym0 (bt : Nat → Nat) (i : Nat) : sym bt (2 * i) = fs (stAt bt i) (bt i) := by unfold sym; rw [if_pos (by omega), show 2 * i / 2 = i by omega]
theorem sym1 (bt : Nat → Nat) (i : Nat) : sym bt (2 * i + 1) = sc (stAt bt i) (bt i) := by unfold sym; rw [if_neg (by omega), show (2 * i + 1) / 2 = i by omega]
theorem smF_bd {bt : Nat → Nat} {f : Nat → Int} : ∀ {i : Nat}, Near bt f (2 * i) → -14 * (i : Int) ≤ smF bt f i ∧ smF bt f i ≤ 14 * (i : Int)
  | 0, _ => by simp [smF]
  | i + 1, h => by
    have ih := smF_bd (i := i) (bt := bt) (f := f) (fun k hk => h k (by omega))
    have h0 := h (2 * i) (by omega)
    have h1 := h (2 * i + 1) (by omega)
    rw [sym0] at h0
    rw [sym1] at h1
    have := (gain_near (fs_le (stAt bt i) (bt i)) (sc_le (stAt bt i) (bt i)) (fs_le (stAt bt i) (bt i)) (sc_le (stAt bt i) (bt i)) h0 h1).2
    simp only [smF]
    omega
/-- What is known of the survivors' sums behind i steps. -/
def Good2 (bt : Nat → Nat) (f : Nat → Int) (i : Nat) (u : Nat → Int) : Prop := u (stAt bt i) = smF bt f i ∧ ∀ s, s < 64 → (s ≠ stAt bt i → u s ≤ smF bt f i - 7 * (dD s (stAt bt i) : Int) + 14 * (erN bt f i : Int)) ∧ least - 14 * (i : Int) ≤ u s
theorem good2_zero {bt : Nat → Nat} {f u : Nat → Int} (h0 : u 0 = 0) (h : ∀ s, s < 64 → s ≠ 0 → u s = least) : Good2 bt f 0 u := by
  refine ⟨h0, fun s hs => ⟨fun hn => ?_, ?_⟩⟩
  · have := dD_le s 0
    rw [h s hs hn]
    show least ≤ 0 - 7 * (dD s 0 : Int) + 14 * ((0 : Nat) : Int)
    unfold least
    omega
  · by_cases q : s = 0
    · subst q; rw [h0]; decide
    · rw [h s hs q]; decide
theorem cand2_le {bt : Nat → Nat} {f : Nat → Int} {n8 i : Nat} {u : Nat → Int} (hb : ∀ i, bt i < 2) (ht0 : ∀ i, n8 ≤ i → bt i = 0) (hN : Near bt f (2 * (i + 1))) (hG : Good2 bt f i u) {t k : Nat} (ht : t < 64) (hk : k < 2) (hi : i ≤ 1000000) :
    let v := cand n8 i u (f (2 * i)) (f (2 * i + 1)) t k
    (least - 14 * ((i : Int) + 1) ≤ v) ∧ (t = stAt bt (i + 1) → frm t k = stAt bt i → v = smF bt f (i + 1)) ∧
    (t ≠ stAt bt (i + 1) → v ≤ smF bt f (i + 1) - 7 * (dD t (stAt bt (i + 1)) : Int) + 14 * (erN bt f (i + 1) : Int)) ∧ (t = stAt bt (i + 1) → frm t k ≠ stAt bt i → v ≤ smF bt f (i + 1) - 70 + 14 * (erN bt f (i + 1) : Int)) := by
  intro v
  have hs := stAt_lt hb i
  have hbi := hb i
  have h0 := hN (2 * i) (by omega)
  have h1 := hN (2 * i + 1) (by omega)
  have hbd := smF_bd hN
  rw [sym0] at h0
  rw [sym1] at h1
  have hf := frm_lt (t := t) hk
  have hgn := gain_near (fs_le (frm t k) (t / 32)) (sc_le (frm t k) (t / 32)) (fs_le (stAt bt i) (bt i)) (sc_le (stAt bt i) (bt i)) h0 h1
  have he : erN bt f (i + 1) = erN bt f i + ((if f (2 * i) = sft (fs (stAt bt i) (bt i)) then 0 else 1) + (if f (2 * i + 1) = sft (sc (stAt bt i) (bt i)) then 0 else 1)) := by
    simp only [erN, fl]
    rw [sym0, sym1]
  have hsm : smF bt f (i + 1) = smF bt f i + gain (fs (stAt bt i) (bt i)) (sc (stAt bt i) (bt i)) (f (2 * i)) (f (2 * i + 1)) := rfl
  have hst : stAt bt (i + 1) = nxt (stAt bt i) (bt i) := rfl
  have hnx := nxt_frm ht hk
  have hdd := dd_step hf hs (by omega : t / 32 < 2) hbi
  rw [hnx, ← hst] at hdd
  have hD := dD_le t (stAt bt (i + 1))
  obtain ⟨g1, g2⟩ := hG
  have g3 := g2 _ hf
  have hv : v = if n8 ≤ i ∧ 32 ≤ t then least else u (frm t k) + gain (fs (frm t k) (t / 32)) (sc (frm t k) (t / 32)) (f (2 * i)) (f (2 * i + 1)) := rfl
  clear_value v
  have hgt : -14 ≤ gain (fs (stAt bt i) (bt i)) (sc (stAt bt i) (bt i)) (f (2 * i)) (f (2 * i + 1)) := (gain_near (fs_le (stAt bt i) (bt i)) (sc_le (stAt bt i) (bt i)) (fs_le (stAt bt i) (bt i)) (sc_le (stAt bt i) (bt i)) h0 h1).2.1
  by_cases q : n8 ≤ i ∧ 32 ≤ t
  · rw [if_pos q] at hv
    rw [hv]
    unfold least
    refine ⟨by omega, fun h1 _ => ?_, fun _ => by omega, fun _ _ => by omega⟩
    have := (frm_nxt hs hbi).1
    rw [← hst, ← h1, ht0 i q.1] at this
    omega
  · rw [if_neg q] at hv
    by_cases p : frm t k = stAt bt i
    · rw [p] at hv hgn hdd g3
      rw [dD_self] at hdd
      rw [g1] at hv
      refine ⟨by have := hbd.1; omega, fun e _ => ?_, fun hn => ?_, fun _ hne => (hne p).elim⟩
      · have hb2 : t / 32 = bt i := by rw [e, hst]; exact (frm_nxt hs hbi).1
        rw [hb2] at hv
        omega
      · have := hdd.2 hn
        omega
    · have g4 := g3.1 p
      refine ⟨by omega, fun _ e => (p e).elim, fun hn => ?_, fun e _ => ?_⟩
      · have := hdd.2 hn
        omega
      · have := (hdd.1 e).resolve_left p
        omega
theorem good2_step {bt : Nat → Nat} {f : Nat → Int} {n8 i : Nat} {u w : Nat → Int} {fr : Nat → Nat} (hb : ∀ i, bt i < 2) (ht0 : ∀ i, n8 ≤ i → bt i = 0) (hN : Near bt f (2 * (i + 1))) (hE : erN bt f (i + 1) ≤ 4) (hG : Good2 bt f i u) (hi : i ≤ 1000000)
    (hw : ∀ t, t < 64 → ∃ k, k < 2 ∧ w t = cand n8 i u (f (2 * i)) (f (2 * i + 1)) t k ∧ fr t = frm t k ∧ ∀ j, j < 2 → cand n8 i u (f (2 * i)) (f (2 * i + 1)) t j ≤ w t) :
    Good2 bt f (i + 1) w ∧ fr (stAt bt (i + 1)) = stAt bt i := by
  have hs := stAt_lt hb i
  have hs1 := stAt_lt hb (i + 1)
  obtain ⟨k, k1, k2, k3, k4⟩ := hw _ hs1
  have hfr : frm (stAt bt (i + 1)) (stAt bt i % 2) = stAt bt i := (frm_nxt hs (hb i)).2
  have hc := (cand2_le hb ht0 hN hG hs1 (by omega : stAt bt i % 2 < 2) hi).2.1 rfl hfr
  have h4 := k4 (stAt bt i % 2) (by omega)
  obtain ⟨_, c2, _, c3⟩ := cand2_le hb ht0 hN hG hs1 k1 hi
  have hk : frm (stAt bt (i + 1)) k = stAt bt i := by
    by_cases q : frm (stAt bt (i + 1)) k = stAt bt i
    · exact q
    · have := c3 rfl q
      omega
  refine ⟨⟨k2.trans (c2 rfl hk), fun t ht => ?_⟩, k3.trans hk⟩
  obtain ⟨k, k1, k2, _, _⟩ := hw t ht
  obtain ⟨c1, _, c3, _⟩ := cand2_le hb ht0 hN hG ht k1 hi
  rw [k2]
  exact ⟨c3, by rw [show ((i + 1 : Nat) : Int) = (i : Int) + 1 from rfl]; exact c1⟩
end Vt
namespace Vt
open Go Go.Proofs Eng
set_option linter.unusedVariables false
set_option linter.unusedSimpArgs false
set_option maxHeartbeats 8000000
set_option maxRecDepth 100000
def tgG : SV → Nat
  | .ptr g _ _ _ => g
  | .slice g _ _ _ _ _ _ _ _ => g
  | _ => 0
def sumG : SV → Int
  | .agg (.int _ x :: _) => x
  | _ => 0
/-- What is chosen for state t: the best of the two ways. -/
def Opt (n8 i : Nat) (u : Nat → Int) (x y : Int) (t : Nat) (v g : Int) : Prop := ∃ k, k < 2 ∧ v = cand n8 i u x y t k ∧ g = (frm t k : Nat) ∧ ∀ j, j < 2 → cand n8 i u x y t j ≤ v
abbrev SvF := Nat → Int × Int
def WayOk (bt : Nat → Nat) (i : Nat) (ways : Nat → Nat → Int) : Prop := (∀ j, inR (ways j)) ∧ ∀ j, j < i → ways j (stAt bt (j + 1)) = (stAt bt j : Nat)
def dcL7 (fr : Fr) (H : Hp) : LA := ⟨7, Nat, [42], fun i => [.int .i64 (i : Nat)], [tgG (slotV fr 9)], fun i => [{ entG H (tgG (slotV fr 9)) with get := fun k => .agg [.int .i64 (if k < i then least else 0), .int .i64 (if k < i then (k : Int) else 0)] }], fun i => i ≤ 64, fun i => 64 - i⟩
abbrev D14 := Nat × SvF × SvF × (Nat → Nat → Int)
def inv14 (m : List UInt8) (f : Nat → Int) (x : D14) : Prop := x.1 ≤ 8 * m.length + 6 ∧ Good2 (bitsOf m) f x.1 (fun k => (x.2.1 k).1) ∧ inR (fun k => (x.2.1 k).2) ∧ inR (fun k => (x.2.2.1 k).2) ∧ WayOk (bitsOf m) x.1 x.2.2.2
def dcL14 (m : List UInt8) (f : Nat → Int) (fr : Fr) (H : Hp) : LA := ⟨14, D14, [58], fun x => [.int .i64 (x.1 : Nat)], [tgG (slotV fr 9), tgG (slotV fr 10), tgG (slotV fr 12)],
  fun x => [{ entG H (tgG (slotV fr 9)) with get := fun k => .agg [.int .i64 (x.2.1 k).1, .int .i64 (x.2.1 k).2] }, { entG H (tgG (slotV fr 10)) with get := fun k => .agg [.int .i64 (x.2.2.1 k).1, .int .i64 (x.2.2.1 k).2] }, { entG H (tgG (slotV fr 12)) with get := fun j => .arr 64 1 fun t => .int .i64 (x.2.2.2 j t) }],
  inv14 m f, fun x => 8 * m.length + 6 - x.1⟩
abbrev D18 := Nat × SvF × (Nat → Nat → Int)
def inv18 (m : List UInt8) (f : Nat → Int) (i : Nat) (u : Nat → Int) (x : D18) : Prop := x.1 ≤ 64 ∧ inR (fun k => (x.2.1 k).2) ∧ WayOk (bitsOf m) i x.2.2 ∧ ∀ s, s < x.1 → Opt (8 * m.length) i u (f (2 * i)) (f (2 * i + 1)) s (x.2.1 s).1 (x.2.2 i s)
def dcL18 (m : List UInt8) (f : Nat → Int) (fr : Fr) (H : Hp) : LA := ⟨18, D18, [64], fun x => [.int .i64 (x.1 : Nat)], [tgG (slotV fr 10), tgG (slotV fr 12)],
  fun x => [{ entG H (tgG (slotV fr 10)) with get := fun k => .agg [.int .i64 (x.2.1 k).1, .int .i64 (x.2.1 k).2] }, { entG H (tgG (slotV fr 12)) with get := fun j => .arr 64 1 fun t => .int .i64 (x.2.2 j t) }],
  inv18 m f (intOf (slotV fr 13)).toNat (fun k => sumG ((entG H (tgG (slotV fr 9))).get k)), fun x => 64 - x.1⟩
abbrev D22 := Nat × Int × Int × (Nat → Nat → Int)
def inv22 (m : List UInt8) (f : Nat → Int) (i t : Nat) (u v : Nat → Int) (x : D22) : Prop := x.1 ≤ 2 ∧ (0 ≤ x.2.2.1 ∧ x.2.2.1 < 64) ∧ WayOk (bitsOf m) i x.2.2.2 ∧ (∀ s, s < t → Opt (8 * m.length) i u (f (2 * i)) (f (2 * i + 1)) s (v s) (x.2.2.2 i s)) ∧
  (x.1 = 0 → x.2.1 = -2199023255552) ∧ (0 < x.1 → ∃ k, k < x.1 ∧ x.2.1 = cand (8 * m.length) i u (f (2 * i)) (f (2 * i + 1)) t k ∧ x.2.2.2 i t = (frm t k : Nat) ∧ ∀ j, j < x.1 → cand (8 * m.length) i u (f (2 * i)) (f (2 * i + 1)) t j ≤ x.2.1)
def dcL22 (m : List UInt8) (f : Nat → Int) (fr : Fr) (H : Hp) : LA := ⟨22, D22, [71], fun x => [.int .i64 (x.1 : Nat)], [tgG (slotV fr 16), tgG (slotV fr 12)],
  fun x => [{ entG H (tgG (slotV fr 16)) with get := fun _ => .agg [.int .i64 x.2.1, .int .i64 x.2.2.1] }, { entG H (tgG (slotV fr 12)) with get := fun j => .arr 64 1 fun t => .int .i64 (x.2.2.2 j t) }],
  inv22 m f (intOf (slotV fr 13)).toNat (intOf (slotV fr 15)).toNat (fun k => sumG ((entG H (tgG (slotV fr 9))).get k)) (fun k => sumG ((entG H (tgG (slotV fr 10))).get k)), fun x => 2 - x.1⟩
/-- The byte j, of whose bits those from number k on stand. -/
def pB (m : List UInt8) (j k : Nat) : Nat := (m.getD j 0).toNat % 2 ^ (8 * j + 8 - k)
def dcL39 (m : List UInt8) (fr : Fr) (H : Hp) : LA := ⟨39, Nat, [21, 22], fun k => [.int .i64 (stAt (bitsOf m) k : Nat), .int .i64 ((k : Int) - 1)], [tgG (slotV fr 20)], fun k => [{ entG H (tgG (slotV fr 20)) with get := fun j => .int .u8 (pB m j k : Nat) }], fun k => k ≤ 8 * m.length + 6, fun k => k⟩
theorem sft_bd (c : Nat) : -7 ≤ sft c ∧ sft c ≤ 7 := by unfold sft; split <;> omega
theorem mul_bd {a : Nat} {y : Int} (ha : a ≤ 1) (hy : -7 ≤ y ∧ y ≤ 7) : -7 ≤ (a : Int) * y ∧ (a : Int) * y ≤ 7 := by
  rcases (by omega : a = 0 ∨ a = 1) with rfl | rfl
  · simp
  · simpa using hy
theorem good_bd {bt : Nat → Nat} {f : Nat → Int} {i : Nat} {u : Nat → Int} (hN : Near bt f (2 * i)) (hE : erN bt f i ≤ 4) (h : Good2 bt f i u) {s : Nat} (hs : s < 64) : least - 14 * (i : Int) ≤ u s ∧ u s ≤ 14 * (i : Int) + 56 := by
  have hb := smF_bd hN
  have := h.2 s hs
  refine ⟨this.2, ?_⟩
  by_cases q : s = stAt bt i
  · rw [q, h.1]; omega
  · have := this.1 q
    omega
theorem erN_mono {bt : Nat → Nat} {f : Nat → Int} {i : Nat} : ∀ {n : Nat}, i ≤ n → erN bt f i ≤ erN bt f n
  | 0, h => by obtain rfl : i = 0 := by omega
               exact Nat.le_refl _
  | n + 1, h => by
    rcases Nat.lt_or_ge n i with q | q
    · obtain rfl : i = n + 1 := by omega
      exact Nat.le_refl _
    · exact Nat.le_trans (erN_mono q) (Nat.le_add_right _ _)
theorem bef_t {a r b q : Int} (h : bef (a, r) (b, q) = true) : a ≤ b := by
  unfold bef at h
  simp only [Bool.or_eq_true, Bool.and_eq_true, decide_eq_true_eq] at h
  omega
theorem bef_f {a r b q : Int} (h : bef (a, r) (b, q) = false) : b ≤ a := by
  unfold bef at h
  simp only [Bool.or_eq_false_iff, decide_eq_false_iff_not] at h
  omega
theorem inv22_t {m : List UInt8} {f : Nat → Int} {i t : Nat} {u v : Nat → Int} {x : D22} (h : inv22 m f i t u v x) (hx : x.1 < 2) (ht : t < 64) {cv cr : Int} (hc : cv = cand (8 * m.length) i u (f (2 * i)) (f (2 * i + 1)) t x.1) (hr : 0 ≤ cr ∧ cr < 64)
    (hb : bef (x.2.1, x.2.2.1) (cv, cr) = true) : inv22 m f i t u v (x.1 + 1, cv, cr, fun j s => if j = i then if s = t then (frm t x.1 : Nat) else x.2.2.2 i s else x.2.2.2 j s) := by
  obtain ⟨k, bs, br, ways⟩ := x
  obtain ⟨h1, h2, ⟨h3, h4⟩, h5, h6, h7⟩ := h
  dsimp only at *
  have hb := bef_t hb
  have hf := frm_lt (t := t) hx
  refine ⟨by omega, hr, ⟨fun j s hs => ?_, fun j hj => ?_⟩, fun s hs => ?_, fun q => ?_, fun _ => ⟨k, by omega, hc, ?_, fun j hj => ?_⟩⟩
  · dsimp only
    split
    · split
      · omega
      · exact h3 _ s hs
    · exact h3 _ s hs
  · dsimp only
    rw [if_neg (by omega)]
    exact h4 j hj
  · dsimp only
    rw [if_pos rfl, if_neg (by omega)]
    exact h5 s hs
  · dsimp only at q
    omega
  · dsimp only
    rw [if_pos rfl, if_pos rfl]
  · dsimp only at hj ⊢
    by_cases q : j = k
    · rw [q, hc]; exact Int.le_refl _
    · obtain ⟨k', _, _, _, e⟩ := h7 (by omega)
      have := e j (by omega)
      omega
theorem inv22_f {m : List UInt8} {f : Nat → Int} {i t : Nat} {u v : Nat → Int} {x : D22} (h : inv22 m f i t u v x) (hx : x.1 < 2) {cv cr : Int} (hc : cv = cand (8 * m.length) i u (f (2 * i)) (f (2 * i + 1)) t x.1) (hl : -2199023255552 < cv)
    (hb : bef (x.2.1, x.2.2.1) (cv, cr) = false) : inv22 m f i t u v (x.1 + 1, x.2) := by
  obtain ⟨k, bs, br, ways⟩ := x
  obtain ⟨h1, h2, h3, h5, h6, h7⟩ := h
  dsimp only at *
  have hb := bef_f hb
  have hk : 0 < k := by
    by_cases q : k = 0
    · have := h6 q; omega
    · omega
  obtain ⟨k', e1, e2, e3, e4⟩ := h7 hk
  refine ⟨by show k + 1 ≤ 2; omega, h2, h3, h5, fun q => (by dsimp only at q; omega), fun _ => ⟨k', by show k' < k + 1; omega, e2, e3, fun j hj => ?_⟩⟩
  dsimp only at hj ⊢
  by_cases q : j = k
  · rw [q, ← hc]; exact hb
  · exact e4 j (by omega)
theorem inv22_e {m : List UInt8} {f : Nat → Int} {i t : Nat} {u : Nat → Int} {v : SvF} {x : D22} (h : inv22 m f i t u (fun k => (v k).1) x) (hx : ¬ x.1 < 2) (ht : t < 64) (hv : inR fun k => (v k).2) :
    inv18 m f i u (t + 1, (fun k => if k = t then (x.2.1, x.2.2.1) else v k), x.2.2.2) := by
  obtain ⟨k, bs, br, ways⟩ := x
  obtain ⟨h1, h2, h3, h5, h6, h7⟩ := h
  dsimp only at *
  have hk : k = 2 := by omega
  subst hk
  obtain ⟨k', e1, e2, e3, e4⟩ := h7 (by decide)
  refine ⟨by show t + 1 ≤ 64; omega, fun s hs => ?_, h3, fun s hs => ?_⟩
  · dsimp only
    split
    · exact h2
    · exact hv s hs
  · dsimp only at hs ⊢
    by_cases q : s = t
    · rw [if_pos q, q]
      exact ⟨k', e1, e2, e3, e4⟩
    · rw [if_neg q]
      exact h5 s (by omega)
theorem inv18_e {m : List UInt8} {f : Nat → Int} {i : Nat} {u : Nat → Int} {x : D18} (h : inv18 m f i u x) (hx : ¬ x.1 < 64) (hG : Good2 (bitsOf m) f i u) (hi : i < 8 * m.length + 6) (hm : m.length ≤ 1100)
    (hN : Near (bitsOf m) f (16 * m.length + 12)) (hE : erN (bitsOf m) f (8 * m.length + 6) ≤ 4) {y : Nat → Int} (hy : inR y) : inv14 m f (i + 1, (fun k => ((x.2.1 k).1, y k)), (fun k => ((x.2.1 k).1, y k)), x.2.2) := by
  obtain ⟨t, v, ways⟩ := x
  obtain ⟨h1, h2, ⟨h3, h4⟩, h5⟩ := h
  dsimp only at *
  have ht : t = 64 := by omega
  subst ht
  obtain ⟨g1, g2⟩ := good2_step (w := fun k => (v k).1) (fr := fun k => (ways i k).toNat) (bitsOf_lt m) (bitsOf_tail m) (fun k hk => hN k (by omega)) (Nat.le_trans (erN_mono (by omega)) hE) hG (by omega) (fun t ht => by
    obtain ⟨k, k1, k2, k3, k4⟩ := h5 t ht
    exact ⟨k, k1, k2, by omega, k4⟩)
  refine ⟨by show i + 1 ≤ _; omega, g1, hy, hy, h3, fun j hj => ?_⟩
  by_cases q : j = i
  · subst q
    have := h3 j _ (stAt_lt (bitsOf_lt m) (j + 1))
    have g2 : (ways j (stAt (bitsOf m) (j + 1))).toNat = stAt (bitsOf m) j := g2
    show ways j (stAt (bitsOf m) (j + 1)) = _
    omega
  · exact h4 j (by omega)
/-! ### the way back -/
theorem getD_lt (m : List UInt8) (j : Nat) : (m.getD j 0).toNat < 256 := UInt8.toNat_lt _
theorem pB_top (m : List UInt8) {j : Nat} (hj : j < m.length) : pB m j (8 * m.length + 6) = 0 := by
  unfold pB
  rw [show 8 * j + 8 - (8 * m.length + 6) = 0 by omega]
  simp [Nat.mod_one]
theorem pB_end (m : List UInt8) (j : Nat) : pB m j 0 = (m.getD j 0).toNat := by
  unfold pB
  have := getD_lt m j
  refine Nat.mod_eq_of_lt (Nat.lt_of_lt_of_le this ?_)
  exact Nat.pow_le_pow_right (by decide : 0 < 2) (by omega : 8 ≤ 8 * j + 8 - 0)
theorem pB_other (m : List UInt8) {j k : Nat} (h : k / 8 ≠ j) : pB m j (k + 1) = pB m j k := by
  unfold pB
  have := getD_lt m j
  by_cases q : k / 8 < j
  · have e : ∀ z, 8 ≤ z → (m.getD j 0).toNat % 2 ^ z = (m.getD j 0).toNat := fun z hz => Nat.mod_eq_of_lt (Nat.lt_of_lt_of_le this (Nat.pow_le_pow_right (by decide : 0 < 2) hz))
    rw [e _ (by omega), e _ (by omega)]
  · rw [show 8 * j + 8 - (k + 1) = 0 by omega, show 8 * j + 8 - k = 0 by omega]
theorem pB_same (m : List UInt8) {k : Nat} (h : k < 8 * m.length) : pB m (k / 8) k = pB m (k / 8) (k + 1) + 2 ^ (7 - k % 8) * bitsOf m k := by
  unfold pB bitsOf
  rw [if_pos h, show 8 * (k / 8) + 8 - k = (7 - k % 8) + 1 by omega, show 8 * (k / 8) + 8 - (k + 1) = 7 - k % 8 by omega, Nat.mod_pow_succ]
def orOk (z : Nat) : Bool := decide (IntKind.wrap IntKind.u8 ((BitVec.ofInt (IntKind.bits IntKind.u8) ((z % 256 % 2 ^ (7 - z / 256) : Nat) : Int) ||| BitVec.ofInt (IntKind.bits IntKind.u8) (Int.fdiv 128 (2 ^ min (z / 256) (IntKind.bits IntKind.u8)))).toNat : Int) = ((z % 256 % 2 ^ (7 - z / 256) + 2 ^ (7 - z / 256) : Nat) : Int))
theorem or_all : allB orOk 2048 = true := by decide +kernel
theorem or_bit {y r : Nat} (hy : y < 256) (hr : r < 8) : IntKind.wrap IntKind.u8 ((BitVec.ofInt (IntKind.bits IntKind.u8) ((y % 2 ^ (7 - r) : Nat) : Int) ||| BitVec.ofInt (IntKind.bits IntKind.u8) (Int.fdiv 128 (2 ^ min r (IntKind.bits IntKind.u8)))).toNat : Int) = ((y % 2 ^ (7 - r) + 2 ^ (7 - r) : Nat) : Int) := by
  have h := of_decide_eq_true (allB_true or_all (256 * r + y) (by omega))
  have e1 : (256 * r + y) / 256 = r := by omega
  have e2 : (256 * r + y) % 256 = y := by omega
  rw [e1, e2] at h
  exact h
theorem byt_back (m : List UInt8) : Byt.of (fun k => ((pB m k 0 : Nat) : Int)) m.length = m := by
  unfold Byt.of
  apply List.ext_getElem
  · simp
  · intro i h1 h2
    simp only [List.getElem_map, List.getElem_range, pB_end, Int.toNat_natCast, List.getD_eq_getElem?_getD, List.getElem?_eq_getElem h2, Option.getD_some]
    exact UInt8.ofNat_toNat
theorem dec_and {p q : Prop} [Decidable p] [Decidable q] {t : Bool} (h : t = if decide p = true then decide q else false) : t = true ↔ p ∧ q := by
  subst h
  by_cases hp : p <;> by_cases hq : q <;> simp [hp, hq]
abbrev aDec : ArgL (RowD Int × Int × Unit) := .cons (.row (.int .i64)) (.cons (.elt (.int .i64)) .nil)
/-- The row is what the message is encoded to; at most four values are inverted. -/
def few (m : List UInt8) (x : RowD Int × Int × Unit) : Prop := x.1.n = 16 * m.length + 12 ∧ x.2.1 = m.length ∧ Near (bitsOf m) x.1.f (16 * m.length + 12) ∧ erN (bitsOf m) x.1.f (8 * m.length + 6) ≤ 4
def decC (m : List UInt8) := pcOf aDec (fun x => [few m x]) (fun x => .tup [.str m, .int .i64 (smF (bitsOf m) x.1.f (8 * m.length + 6)), .int .i64 0])
def EDC : Env := (((((E0.addP 85 edgC).addP 32 symsC).addP 84 softC).addP 86 befC).addE 87 rkdC).addR 137
theorem EDC_ok : EnvOk Tryz.prog EDC := (((((E0_ok.addP edg_ok).addP syms_ok).addP soft_ok).addP bef_ok).addE rkd_ok).addR
def decAn (m : List UInt8) (f : Nat → Int) : List An := [.loopD 7 dcL7, .loopD 14 (dcL14 m f), .loopD 18 (dcL18 m f), .loopD 22 (dcL22 m f), .loopD 39 (dcL39 m),
  .draw 25 (.take 0 (.take 2 (.take 3 (.take 4 (.take 5 (.take 6 (.take 7 (.take 8 (.take 9 (.take 10 (.take 11 (.take 12 (.take 13 (.take 14 (.take 15 (.take 16 (.take 17 (.take 18 (.take 19 (.br 1 (.take 20 (.take 21 (.br 22 .fin .stop))) .stop)))))))))))))))))))) [19], .draw 29 (.take 0 (.take 1 (.take 2 (.take 3 (.take 4 (.take 6 (.br 5 (.take 7 (.br 8 .fin .stop)) .stop))))))) [16, 14], .draw 34 (.take 0 (.take 1 (.br 2 .fin .stop))) [9], .draw 42 (.take 0 (.take 1 (.take 2 (.take 3 (.take 5 (.take 6 (.take 7 (.br 4 (.take 8 (.take 9 (.br 10 .fin .stop))) .stop)))))))) [20], .draw 44 (.take 0 (.take 1 (.take 2 (.take 3 (.take 4 (.take 5 (.take 6 (.take 7 .fin)))))))) []]
theorem dec_ok (m : List UInt8) (hm : m.length ≤ 1100) : PcOk Tryz.prog 58 (decC m) := by
  refine pcOf_run (fun _ => EDC_ok) Tryz.func58 rfl (by kernel_rfl) (fun x => ⟨(by show m.length ≤ 9223372036854775807; omega), trivial, trivial, trivial⟩)
    (fun x => decAn m x.1.f) (fun _ => Nat.le_of_ble_eq_true rfl) (fun ⟨⟨b, off, n, c, z, f⟩, l, ()⟩ hp hw => ?_)
  have hn : n ≤ c ∧ c ≤ 9223372036854775807 := (hw _ (List.mem_cons_self ..)).2
  obtain ⟨⟨p2, p3, p4, p5⟩, _⟩ := hp
  dsimp only at p2 p3 p4 p5
  subst p2 p3
  refine vc_of (q :=
      ∀ (t1:Bool), (t1=if decide ((↑(List.length m):Int) < (0:Int))=true then true else decide ((↑(List.length m):Int) > (1100:Int)))→∀ (v1:Int), v1=(↑(16*List.length m+12):Int)→∀ (v2:Int), (v2=if (↑(List.length m):Int) < (0:Int)∨(↑(List.length m):Int) > (1100:Int) then (0:Int) else (16:Int)*(↑(List.length m):Int)+(12:Int))→∀ (t2:Bool), (t2=if t1=true then true else v1 != v2)→(t2=false→16*List.length
      m+12≤16*List.length m+12)∧(t2=false→∀ (k1:Nat), k1 < 16*List.length m+12→true=true)∧(t2=false→b=b∧off=off)∧∀ (t3:Bool), t3=Vt.softB f (16*List.length m+12)→∀ (t4:Bool), (t4=if t2=true then true else !t3)→(t4=true→[]=m∧(0:Int)=Vt.smF (Vt.bitsOf m) f (8*List.length m+6)∧(2:Int)=(0:Int))∧(t4=false→∀ (b1:Nat), (b1=b1∧0=0)∧∀ (b2 b3:Nat), (∃ (x1:Nat),
      (0:Int)=(↑x1:Int)∧((b2=b2∧0=0∧false=false∧64≤64∧64≤64∧64≤64)∧∀ (i1:Nat), i1 < 64→((0:Int)=if i1 < x1 then Vt.least else (0:Int))∧(0:Int)=if i1 < x1 then (↑i1:Int) else (0:Int))∧Nat.le x1 64)∧∀ (b4:Nat), b4≤64→(decide ((↑b4:Int) < (64:Int))=true→(0:Int)≤(↑b4:Int)∧(↑b4:Int) < (↑(64:Nat):Int)∧(b2=b2∧0=0)∧Int.toNat (↑b4:Int) < 64∧∀ (v3:Int), v3=IntKind.i64.wrap ((↑b4:Int)+(1:Int))→∃ (x2:Nat),
      v3=(↑x2:Int)∧((b2=b2∧0=0∧false=false∧64≤64∧64≤64∧64≤64)∧∀ (i2:Nat), i2 < 64→((if i2=Int.toNat (↑b4:Int) then (-1099511627776:Int) else if i2 < b4 then Vt.least else (0:Int))=if i2 < x2 then Vt.least else (0:Int))∧(if i2=Int.toNat (↑b4:Int) then (↑b4:Int) else if i2 < b4 then (↑i2:Int) else (0:Int))=if i2 < x2 then (↑i2:Int) else (0:Int))∧x2≤64∧64 - x2 < 64 - b4)∧(decide ((↑b4:Int) <
      (64:Int))=false→(0:Int)≤(0:Int)∧(0:Int) < (↑(64:Nat):Int)∧(b2=b2∧0=0)∧Int.toNat (0:Int) < 64∧∀ (v4:Int), v4=IntKind.i64.wrap ((8:Int)*(↑(List.length m):Int))→∀ (v5:Int), v5=IntKind.i64.wrap (v4+(6:Int))→0≤v5∧v5≤v5∧v5*(↑(512:Nat):Int)≤(140737488355328:Int)∧v5≤9223372036854775807∧∀ (b5:Nat) (v6:Int), v6=(↑(Int.toNat v5):Int)→(∃ (x2:Nat × (Nat→Int × Int) × (Nat→Int × Int) × (Nat→Nat→Int)),
      (0:Int)=(↑x2.1:Int)∧((b2=b2∧0=0∧false=false∧64≤64∧64≤64∧64≤64)∧∀ (i2:Nat), i2 < 64→(if i2=Int.toNat (0:Int) then (0:Int) else if i2 < b4 then Vt.least else (0:Int))=(x2.2.1 i2).1∧(if i2=Int.toNat (0:Int) then if Int.toNat (0:Int) < b4 then (↑(Int.toNat (0:Int)):Int) else (0:Int) else if i2 < b4 then (↑i2:Int) else (0:Int))=(x2.2.1 i2).2)∧((b3=b3∧0=0∧false=false∧64≤64∧64≤64∧64≤64)∧∀ (i3:Nat), i3 <
      64→(0:Int)=(x2.2.2.1 i3).1∧(0:Int)=(x2.2.2.1 i3).2)∧((b5=b5∧0=0∧false=false∧Int.toNat v5≤Int.toNat v5∧Int.toNat v5≤Int.toNat v5∧Int.toNat v5≤Int.toNat v5)∧∀ (i4:Nat), i4 < Int.toNat v5→SVeq (SV.arr 64 1 fun (x:Nat) ↦ SV.int IntKind.i64 (0:Int)) (SV.arr 64 1 fun (t:Nat) ↦ SV.int IntKind.i64 (x2.2.2.2 i4 t)))∧x2.1≤8*List.length m+6∧(Vt.Good2 (Vt.bitsOf m) f x2.1 fun (k:Nat) ↦ (x2.2.1 k).1)∧(Vt.inR
      fun (k:Nat) ↦ (x2.2.1 k).2)∧(Vt.inR fun (k:Nat) ↦ (x2.2.2.1 k).2)∧Vt.WayOk (Vt.bitsOf m) x2.1 x2.2.2.2)∧∀ (x3:Nat × (Nat→Int × Int) × (Nat→Int × Int) × (Nat→Nat→Int)), Vt.inv14 m f x3→(decide ((↑x3.1:Int) < v6)=true→(0:Int)≤(↑x3.1:Int)∧(↑x3.1:Int) < (↑(Int.toNat v5):Int)∧(∃ (x4:Nat × (Nat→Int × Int) × (Nat→Nat→Int)), (0:Int)=(↑x4.1:Int)∧((b3=b3∧0=0∧false=false∧64≤64∧64≤64∧64≤64)∧∀ (i5:Nat), i5 <
      64→(x3.2.2.1 i5).1=(x4.2.1 i5).1∧(x3.2.2.1 i5).2=(x4.2.1 i5).2)∧((b5=b5∧0=0∧false=false∧Int.toNat v5≤Int.toNat v5∧Int.toNat v5≤Int.toNat v5∧Int.toNat v5≤Int.toNat v5)∧∀ (i6:Nat), i6 < Int.toNat v5→SVeq (SV.arr 64 1 fun (t:Nat) ↦ SV.int IntKind.i64 (x3.2.2.2 i6 t)) (SV.arr 64 1 fun (t:Nat) ↦ SV.int IntKind.i64 (x4.2.2 i6 t)))∧x4.1≤64∧(Vt.inR fun (k:Nat) ↦ (x4.2.1 k).2)∧Vt.WayOk (Vt.bitsOf m)
      (Int.toNat (↑x3.1:Int)) x4.2.2∧∀ (b6:Nat), b6 < x4.1→Vt.Opt (8*List.length m) (Int.toNat (↑x3.1:Int)) (fun (k:Nat) ↦ Vt.sumG (SV.agg [SV.int IntKind.i64 ((x3.2.1 k).1), SV.int IntKind.i64 ((x3.2.1 k).2)])) (f (2*Int.toNat (↑x3.1:Int))) (f (2*Int.toNat (↑x3.1:Int)+1)) b6 ((x4.2.1 b6).1) (x4.2.2 (Int.toNat (↑x3.1:Int)) b6))∧∀ (x5:Nat × (Nat→Int × Int) × (Nat→Nat→Int)), Vt.inv18 m f (Int.toNat
      (↑x3.1:Int)) (fun (k:Nat) ↦ Vt.sumG (SV.agg [SV.int IntKind.i64 ((x3.2.1 k).1), SV.int IntKind.i64 ((x3.2.1 k).2)])) x5→(decide ((↑x5.1:Int) < (64:Int))=true→∀ (b7:Nat), (b7=b7∧0=0)∧(0:Int)≤(↑x5.1:Int)∧(↑x5.1:Int) < (↑(64:Nat):Int)∧(b1=b1∧0=0)∧Int.toNat (↑x5.1:Int) < 64∧(∃ (x6:Nat × Int × Int × (Nat→Nat→Int)),
      (0:Int)=(↑x6.1:Int)∧((b7=b7∧0=0∧false=false∧1≤1∧1≤1∧1≤1)∧(-2199023255552:Int)=x6.2.1∧(0:Int)=x6.2.2.1)∧((b5=b5∧0=0∧false=false∧Int.toNat v5≤Int.toNat v5∧Int.toNat v5≤Int.toNat v5∧Int.toNat v5≤Int.toNat v5)∧∀ (i7:Nat), i7 < Int.toNat v5→SVeq (SV.arr 64 1 fun (t:Nat) ↦ SV.int IntKind.i64 (x5.2.2 i7 t)) (SV.arr 64 1 fun (t:Nat) ↦ SV.int IntKind.i64 (x6.2.2.2 i7 t)))∧x6.1≤2∧((0:Int)≤x6.2.2.1∧x6.2.2.1 <
      (64:Int))∧Vt.WayOk (Vt.bitsOf m) (Int.toNat (↑x3.1:Int)) x6.2.2.2∧(∀ (b8:Nat), b8 < Int.toNat (↑x5.1:Int)→Vt.Opt (8*List.length m) (Int.toNat (↑x3.1:Int)) (fun (k:Nat) ↦ Vt.sumG (SV.agg [SV.int IntKind.i64 ((x3.2.1 k).1), SV.int IntKind.i64 ((x3.2.1 k).2)])) (f (2*Int.toNat (↑x3.1:Int))) (f (2*Int.toNat (↑x3.1:Int)+1)) b8 (Vt.sumG (SV.agg [SV.int IntKind.i64 ((x5.2.1 b8).1), SV.int IntKind.i64
      ((x5.2.1 b8).2)])) (x6.2.2.2 (Int.toNat (↑x3.1:Int)) b8))∧(x6.1=0→x6.2.1=(-2199023255552:Int))∧(0 < x6.1→∃ (x7:Nat), x7 < x6.1∧x6.2.1=Vt.cand (8*List.length m) (Int.toNat (↑x3.1:Int)) (fun (k:Nat) ↦ Vt.sumG (SV.agg [SV.int IntKind.i64 ((x3.2.1 k).1), SV.int IntKind.i64 ((x3.2.1 k).2)])) (f (2*Int.toNat (↑x3.1:Int))) (f (2*Int.toNat (↑x3.1:Int)+1)) (Int.toNat (↑x5.1:Int)) x7∧x6.2.2.2 (Int.toNat
      (↑x3.1:Int)) (Int.toNat (↑x5.1:Int))=(↑(Vt.frm (Int.toNat (↑x5.1:Int)) x7):Int)∧∀ (b9:Nat), b9 < x6.1→Vt.cand (8*List.length m) (Int.toNat (↑x3.1:Int)) (fun (k:Nat) ↦ Vt.sumG (SV.agg [SV.int IntKind.i64 ((x3.2.1 k).1), SV.int IntKind.i64 ((x3.2.1 k).2)])) (f (2*Int.toNat (↑x3.1:Int))) (f (2*Int.toNat (↑x3.1:Int)+1)) (Int.toNat (↑x5.1:Int)) b9≤x6.2.1))∧∀ (x8:Nat × Int × Int × (Nat→Nat→Int)),
      Vt.inv22 m f (Int.toNat (↑x3.1:Int)) (Int.toNat (↑x5.1:Int)) (fun (k:Nat) ↦ Vt.sumG (SV.agg [SV.int IntKind.i64 ((x3.2.1 k).1), SV.int IntKind.i64 ((x3.2.1 k).2)])) (fun (k:Nat) ↦ Vt.sumG (SV.agg [SV.int IntKind.i64 ((x5.2.1 k).1), SV.int IntKind.i64 ((x5.2.1 k).2)])) x8→(decide ((↑x8.1:Int) < (2:Int))=true→(0:Int)≤(↑x8.1:Int)∧(↑x8.1:Int) < (↑(2:Nat):Int)∧∀ (b10:Nat),
      (b10=b10∧0=0)∧(b10=b10∧0=0)∧((0:Int)≤if true=true then (↑(Vt.frm (Int.toNat (↑x5.1:Int)) (Int.toNat (↑x8.1:Int))):Int) else (0:Int))∧(if true=true then (↑(Vt.frm (Int.toNat (↑x5.1:Int)) (Int.toNat (↑x8.1:Int))):Int) else (0:Int)) < (↑(64:Nat):Int)∧(b2=b2∧0=0)∧Int.toNat (if true=true then (↑(Vt.frm (Int.toNat (↑x5.1:Int)) (Int.toNat (↑x8.1:Int))):Int) else (0:Int)) < 64∧∀ (b11:Nat),
      (b11=b11∧0=0)∧(b10=b10∧0=0)∧∀ (v7:Int), v7=IntKind.i64.wrap ((2:Int)*(↑x3.1:Int))→0≤v7∧v7 < (↑(16*List.length m+12):Int)∧(b=b∧off=off)∧Int.toNat v7 < 16*List.length m+12∧∀ (v8:Int), v8=IntKind.i64.wrap ((if true=true then (↑(Vt.fs (Vt.frm (Int.toNat (↑x5.1:Int)) (Int.toNat (↑x8.1:Int))) (Int.toNat (↑x5.1:Int) / 32)):Int) else (0:Int))*f (Int.toNat v7))→(b10=b10∧0=0)∧∀ (v9:Int), v9=IntKind.i64.wrap
      ((2:Int)*(↑x3.1:Int))→∀ (v10:Int), v10=IntKind.i64.wrap (v9+(1:Int))→0≤v10∧v10 < (↑(16*List.length m+12):Int)∧(b=b∧off=off)∧Int.toNat v10 < 16*List.length m+12∧∀ (v11:Int), v11=IntKind.i64.wrap ((if true=true then (↑(Vt.sc (Vt.frm (Int.toNat (↑x5.1:Int)) (Int.toNat (↑x8.1:Int))) (Int.toNat (↑x5.1:Int) / 32)):Int) else (0:Int))*f (Int.toNat v10))→∀ (v12:Int), v12=IntKind.i64.wrap
      (v8+v11)→((b11=b11∧0=0)∧∀ (v13:Int), v13=IntKind.i64.wrap ((x3.2.1 (Int.toNat (if true=true then (↑(Vt.frm (Int.toNat (↑x5.1:Int)) (Int.toNat (↑x8.1:Int))):Int) else (0:Int)))).1+v12)→((b11=b11∧0=0)∧∀ (v14:Int), v14=IntKind.i64.wrap ((8:Int)*(↑(List.length m):Int))→∀ (t5:Bool), (t5=if decide ((↑x3.1:Int)≥v14)=true then decide ((↑x5.1:Int)≥(32:Int)) else
      false)→(t5=true→(b11=b11∧0=0)∧(b7=b7∧0=0)∧(b11=b11∧0=0)∧∀ (t6:Bool), t6=Vt.bef (x8.2.1, x8.2.2.1) ((-1099511627776:Int), (x3.2.1 (Int.toNat (if true=true then (↑(Vt.frm (Int.toNat (↑x5.1:Int)) (Int.toNat (↑x8.1:Int))):Int) else (0:Int)))).2)→(t6=true→(b11=b11∧0=0)∧(b10=b10∧0=0)∧((b7=b7∧0=0)∧(0:Int)≤(↑x5.1:Int)∧(↑x5.1:Int) < (↑(64:Nat):Int)∧((b5=b5∧0=0)∧Int.toNat (↑x3.1:Int) < Int.toNat v5∧Int.toNat
      (↑x5.1:Int) < 64∧∀ (v15:Int), v15=IntKind.i64.wrap ((↑x8.1:Int)+(1:Int))→∃ (x9:Nat × Int × Int × (Nat→Nat→Int)), v15=(↑x9.1:Int)∧((b7=b7∧0=0∧false=false∧1≤1∧1≤1∧1≤1)∧(-1099511627776:Int)=x9.2.1∧(x3.2.1 (Int.toNat (if true=true then (↑(Vt.frm (Int.toNat (↑x5.1:Int)) (Int.toNat (↑x8.1:Int))):Int) else (0:Int)))).2=x9.2.2.1)∧((b5=b5∧0=0∧false=false∧Int.toNat v5≤Int.toNat v5∧Int.toNat v5≤Int.toNat
      v5∧Int.toNat v5≤Int.toNat v5)∧∀ (i8:Nat), i8 < Int.toNat v5→SVeq (SV.arr 64 1 fun (k:Nat) ↦ SV.int IntKind.i64 (if i8=Int.toNat (↑x3.1:Int) then if k=Int.toNat (↑x5.1:Int) then if true=true then (↑(Vt.frm (Int.toNat (↑x5.1:Int)) (Int.toNat (↑x8.1:Int))):Int) else (0:Int) else x8.2.2.2 (Int.toNat (↑x3.1:Int)) k else x8.2.2.2 i8 k)) (SV.arr 64 1 fun (t:Nat) ↦ SV.int IntKind.i64 (x9.2.2.2 i8
      t)))∧Vt.inv22 m f (Int.toNat (↑x3.1:Int)) (Int.toNat (↑x5.1:Int)) (fun (k:Nat) ↦ Vt.sumG (SV.agg [SV.int IntKind.i64 ((x3.2.1 k).1), SV.int IntKind.i64 ((x3.2.1 k).2)])) (fun (k:Nat) ↦ Vt.sumG (SV.agg [SV.int IntKind.i64 ((x5.2.1 k).1), SV.int IntKind.i64 ((x5.2.1 k).2)])) x9∧2 - x9.1 < 2 - x8.1)∧True)∧True)∧(t6=false→∀ (v16:Int), v16=IntKind.i64.wrap ((↑x8.1:Int)+(1:Int))→∃ (x9:Nat × Int × Int ×
      (Nat→Nat→Int)), v16=(↑x9.1:Int)∧((b7=b7∧0=0∧false=false∧1≤1∧1≤1∧1≤1)∧x8.2.1=x9.2.1∧x8.2.2.1=x9.2.2.1)∧((b5=b5∧0=0∧false=false∧Int.toNat v5≤Int.toNat v5∧Int.toNat v5≤Int.toNat v5∧Int.toNat v5≤Int.toNat v5)∧∀ (i8:Nat), i8 < Int.toNat v5→SVeq (SV.arr 64 1 fun (t:Nat) ↦ SV.int IntKind.i64 (x8.2.2.2 i8 t)) (SV.arr 64 1 fun (t:Nat) ↦ SV.int IntKind.i64 (x9.2.2.2 i8 t)))∧Vt.inv22 m f (Int.toNat
      (↑x3.1:Int)) (Int.toNat (↑x5.1:Int)) (fun (k:Nat) ↦ Vt.sumG (SV.agg [SV.int IntKind.i64 ((x3.2.1 k).1), SV.int IntKind.i64 ((x3.2.1 k).2)])) (fun (k:Nat) ↦ Vt.sumG (SV.agg [SV.int IntKind.i64 ((x5.2.1 k).1), SV.int IntKind.i64 ((x5.2.1 k).2)])) x9∧2 - x9.1 < 2 - x8.1))∧(t5=false→(b7=b7∧0=0)∧(b11=b11∧0=0)∧∀ (t7:Bool), t7=Vt.bef (x8.2.1, x8.2.2.1) (v13, (x3.2.1 (Int.toNat (if true=true then (↑(Vt.frm
      (Int.toNat (↑x5.1:Int)) (Int.toNat (↑x8.1:Int))):Int) else (0:Int)))).2)→(t7=true→(b11=b11∧0=0)∧(b10=b10∧0=0)∧((b7=b7∧0=0)∧(0:Int)≤(↑x5.1:Int)∧(↑x5.1:Int) < (↑(64:Nat):Int)∧((b5=b5∧0=0)∧Int.toNat (↑x3.1:Int) < Int.toNat v5∧Int.toNat (↑x5.1:Int) < 64∧∀ (v15:Int), v15=IntKind.i64.wrap ((↑x8.1:Int)+(1:Int))→∃ (x9:Nat × Int × Int × (Nat→Nat→Int)),
      v15=(↑x9.1:Int)∧((b7=b7∧0=0∧false=false∧1≤1∧1≤1∧1≤1)∧v13=x9.2.1∧(x3.2.1 (Int.toNat (if true=true then (↑(Vt.frm (Int.toNat (↑x5.1:Int)) (Int.toNat (↑x8.1:Int))):Int) else (0:Int)))).2=x9.2.2.1)∧((b5=b5∧0=0∧false=false∧Int.toNat v5≤Int.toNat v5∧Int.toNat v5≤Int.toNat v5∧Int.toNat v5≤Int.toNat v5)∧∀ (i8:Nat), i8 < Int.toNat v5→SVeq (SV.arr 64 1 fun (k:Nat) ↦ SV.int IntKind.i64 (if i8=Int.toNat
      (↑x3.1:Int) then if k=Int.toNat (↑x5.1:Int) then if true=true then (↑(Vt.frm (Int.toNat (↑x5.1:Int)) (Int.toNat (↑x8.1:Int))):Int) else (0:Int) else x8.2.2.2 (Int.toNat (↑x3.1:Int)) k else x8.2.2.2 i8 k)) (SV.arr 64 1 fun (t:Nat) ↦ SV.int IntKind.i64 (x9.2.2.2 i8 t)))∧Vt.inv22 m f (Int.toNat (↑x3.1:Int)) (Int.toNat (↑x5.1:Int)) (fun (k:Nat) ↦ Vt.sumG (SV.agg [SV.int IntKind.i64 ((x3.2.1 k).1),
      SV.int IntKind.i64 ((x3.2.1 k).2)])) (fun (k:Nat) ↦ Vt.sumG (SV.agg [SV.int IntKind.i64 ((x5.2.1 k).1), SV.int IntKind.i64 ((x5.2.1 k).2)])) x9∧2 - x9.1 < 2 - x8.1)∧True)∧True)∧(t7=false→∀ (v16:Int), v16=IntKind.i64.wrap ((↑x8.1:Int)+(1:Int))→∃ (x9:Nat × Int × Int × (Nat→Nat→Int)),
      v16=(↑x9.1:Int)∧((b7=b7∧0=0∧false=false∧1≤1∧1≤1∧1≤1)∧x8.2.1=x9.2.1∧x8.2.2.1=x9.2.2.1)∧((b5=b5∧0=0∧false=false∧Int.toNat v5≤Int.toNat v5∧Int.toNat v5≤Int.toNat v5∧Int.toNat v5≤Int.toNat v5)∧∀ (i8:Nat), i8 < Int.toNat v5→SVeq (SV.arr 64 1 fun (t:Nat) ↦ SV.int IntKind.i64 (x8.2.2.2 i8 t)) (SV.arr 64 1 fun (t:Nat) ↦ SV.int IntKind.i64 (x9.2.2.2 i8 t)))∧Vt.inv22 m f (Int.toNat (↑x3.1:Int)) (Int.toNat
      (↑x5.1:Int)) (fun (k:Nat) ↦ Vt.sumG (SV.agg [SV.int IntKind.i64 ((x3.2.1 k).1), SV.int IntKind.i64 ((x3.2.1 k).2)])) (fun (k:Nat) ↦ Vt.sumG (SV.agg [SV.int IntKind.i64 ((x5.2.1 k).1), SV.int IntKind.i64 ((x5.2.1 k).2)])) x9∧2 - x9.1 < 2 - x8.1)))∧True)∧True)∧(decide ((↑x8.1:Int) < (2:Int))=false→(b7=b7∧0=0)∧(0:Int)≤(↑x5.1:Int)∧(↑x5.1:Int) < (↑(64:Nat):Int)∧(b3=b3∧0=0)∧Int.toNat (↑x5.1:Int) < 64∧∀
      (v7:Int), v7=IntKind.i64.wrap ((↑x5.1:Int)+(1:Int))→∃ (x9:Nat × (Nat→Int × Int) × (Nat→Nat→Int)), v7=(↑x9.1:Int)∧((b3=b3∧0=0∧false=false∧64≤64∧64≤64∧64≤64)∧∀ (i8:Nat), i8 < 64→(if i8=Int.toNat (↑x5.1:Int) then x8.2.1 else (x5.2.1 i8).1)=(x9.2.1 i8).1∧(if i8=Int.toNat (↑x5.1:Int) then x8.2.2.1 else (x5.2.1 i8).2)=(x9.2.1 i8).2)∧((b5=b5∧0=0∧false=false∧Int.toNat v5≤Int.toNat v5∧Int.toNat v5≤Int.toNat
      v5∧Int.toNat v5≤Int.toNat v5)∧∀ (i9:Nat), i9 < Int.toNat v5→SVeq (SV.arr 64 1 fun (t:Nat) ↦ SV.int IntKind.i64 (x8.2.2.2 i9 t)) (SV.arr 64 1 fun (t:Nat) ↦ SV.int IntKind.i64 (x9.2.2 i9 t)))∧Vt.inv18 m f (Int.toNat (↑x3.1:Int)) (fun (k:Nat) ↦ Vt.sumG (SV.agg [SV.int IntKind.i64 ((x3.2.1 k).1), SV.int IntKind.i64 ((x3.2.1 k).2)])) x9∧64 - x9.1 < 64 - x5.1))∧(decide ((↑x5.1:Int) <
      (64:Int))=false→(b3=b3∧0=0)∧(∀ (k2:Nat), k2 < 64→true=true)∧(b5=b5∧0=0)∧Int.toNat (↑x3.1:Int) < Int.toNat v5∧(∀ (k3:Nat), k3 < 64→true=true)∧(b2=b2∧0=0)∧(∀ (k4:Nat), k4 < 64→true=true)∧∀ (x'1:(Nat × Nat × (Nat→Int × Int × Unit)) × (Nat × Nat × (Nat→Int)) × (Nat × Nat × (Nat→Int × Int × Unit)) × Unit), x'1=((b3, 0, fun (k:Nat) ↦ ((x5.2.1 k).1, (x5.2.1 k).2, ())), (b5, 0+Int.toNat (↑x3.1:Int)*64,
      x5.2.2 (Int.toNat (↑x3.1:Int))), (b2, 0, fun (k:Nat) ↦ ((x3.2.1 k).1, (x3.2.1 k).2, ())), ())→(Vt.inR fun (k:Nat) ↦ ((((Prod.fst x'1).2.2) k).2).1)∧Vt.inR ((((Prod.snd x'1).1).2.2))∧(Vt.inR fun (k:Nat) ↦ ((((((Prod.snd x'1).2.1)).2).2 k).2).1)∧∀ (y1:Nat→Int), Vt.inR
      y1→(0:Int)≤(↑(64:Nat):Int)∧(↑(64:Nat):Int)≤(↑(64:Nat):Int)∧(0:Int)≤(↑(64:Nat):Int)∧(↑(64:Nat):Int)≤(↑(64:Nat):Int)∧((b2=b2∧0=0)∧64≤64∧64≤64∧((Prod.fst x'1).1=b3∧((Prod.fst x'1).2.1)=0)∧∀ (v7:Int), v7=(↑(Min.min (Int.toNat (↑(64:Nat):Int)) (Int.toNat (↑(64:Nat):Int))):Int)→∀ (v8:Int), v8=IntKind.i64.wrap ((↑x3.1:Int)+(1:Int))→∃ (x6:Nat × (Nat→Int × Int) × (Nat→Int × Int) × (Nat→Nat→Int)),
      v8=(↑x6.1:Int)∧((b2=b2∧0=0∧false=false∧64≤64∧64≤64∧64≤64)∧∀ (i7:Nat), i7 < 64→(if 0≤i7∧i7 < 64 then (((Prod.fst x'1).2.2) (i7 - 0)).1 else (x3.2.1 i7).1)=(x6.2.1 i7).1∧(if 0≤i7∧i7 < 64 then y1 (i7 - 0) else (x3.2.1 i7).2)=(x6.2.1 i7).2)∧(((Prod.fst x'1).1=b3∧((Prod.fst x'1).2.1)=0∧false=false∧64≤64∧64≤64∧64≤64)∧∀ (i8:Nat), i8 < 64→(((Prod.fst x'1).2.2) i8).1=(x6.2.2.1 i8).1∧y1 i8=(x6.2.2.1
      i8).2)∧((b5=b5∧0=0∧false=false∧Int.toNat v5≤Int.toNat v5∧Int.toNat v5≤Int.toNat v5∧Int.toNat v5≤Int.toNat v5)∧∀ (i9:Nat), i9 < Int.toNat v5→SVeq (SV.arr 64 1 fun (t:Nat) ↦ SV.int IntKind.i64 (x5.2.2 i9 t)) (SV.arr 64 1 fun (t:Nat) ↦ SV.int IntKind.i64 (x6.2.2.2 i9 t)))∧Vt.inv14 m f x6∧8*List.length m+6 - x6.1 < 8*List.length m+6 - x3.1)∧True))∧(decide ((↑x3.1:Int) < v6)=false→(0:Int)≤(↑(List.length
      m):Int)∧(↑(List.length m):Int)≤(↑(List.length m):Int)∧(↑(List.length m):Int)*(↑(1:Nat):Int)≤(140737488355328:Int)∧(↑(List.length m):Int)≤(9223372036854775807:Int)∧∀ (b7:Nat) (v7:Int), v7=(↑(Int.toNat v5):Int)→∀ (v8:Int), v8=IntKind.i64.wrap (v7 - (1:Int))→(∃ (x6:Nat), (0:Int)=(↑(Vt.stAt (Vt.bitsOf m) x6):Int)∧v8=(↑x6:Int) - (1:Int)∧((b7=b7∧0=0∧false=false∧Int.toNat (↑(List.length m):Int)≤Int.toNat
      (↑(List.length m):Int)∧Int.toNat (↑(List.length m):Int)≤Int.toNat (↑(List.length m):Int)∧Int.toNat (↑(List.length m):Int)≤Int.toNat (↑(List.length m):Int))∧∀ (i7:Nat), i7 < Int.toNat (↑(List.length m):Int)→(0:Int)=(↑(Vt.pB m i7 x6):Int))∧Nat.le x6 (8*List.length m+6))∧∀ (b8:Nat), b8≤8*List.length m+6→(decide ((↑b8:Int) - (1:Int)≥(0:Int))=true→∀ (v9:Int), v9=IntKind.i64.wrap ((8:Int)*(↑(List.length
      m):Int))→∀ (t5:Bool), (t5=if decide ((↑b8:Int) - 1 < v9)=true then decide ((↑(Vt.stAt (Vt.bitsOf m) b8):Int)≥(32:Int)) else false)→(t5=true→(8:Int)≠(0:Int)∧∀ (v10:Int), v10=IntKind.i64.wrap (Int.tdiv ((↑b8:Int) - (1:Int)) (8:Int))→0≤v10∧v10 < (↑(Int.toNat (↑(List.length m):Int)):Int)∧(8:Int)≠(0:Int)∧∀ (v11:Int), v11=Int.tmod ((↑b8:Int) - (1:Int)) (8:Int)→0≤v11∧∀ (v12:Int), v12=Int.fdiv (128:Int)
      ((2:Int) ^ Min.min (Int.toNat v11) (IntKind.u8.bits))→((b7=b7∧0=0)∧Int.toNat v10 < Int.toNat (↑(List.length m):Int)∧∀ (v13:Int), v13=IntKind.u8.wrap (↑(BitVec.toNat (BitVec.ofInt (IntKind.u8.bits) (↑(Vt.pB m (Int.toNat v10) b8):Int) ||| BitVec.ofInt (IntKind.u8.bits) v12)):Int)→0≤v10∧v10 < (↑(Int.toNat (↑(List.length m):Int)):Int)∧((b7=b7∧0=0)∧Int.toNat v10 < Int.toNat (↑(List.length
      m):Int)∧(0:Int)≤(↑b8:Int) - (1:Int)∧(↑b8:Int) - (1:Int) < (↑(Int.toNat v5):Int)∧(0:Int)≤(↑(Vt.stAt (Vt.bitsOf m) b8):Int)∧(↑(Vt.stAt (Vt.bitsOf m) b8):Int) < (↑(64:Nat):Int)∧(b5=b5∧0=0)∧Int.toNat ((↑b8:Int) - (1:Int)) < Int.toNat v5∧Int.toNat (↑(Vt.stAt (Vt.bitsOf m) b8):Int) < 64∧∀ (v14:Int), v14=IntKind.i64.wrap ((↑b8:Int) - (1:Int) - (1:Int))→∃ (x7:Nat), x3.2.2.2 (Int.toNat ((↑b8:Int) -
      (1:Int))) (Int.toNat (↑(Vt.stAt (Vt.bitsOf m) b8):Int))=(↑(Vt.stAt (Vt.bitsOf m) x7):Int)∧v14=(↑x7:Int) - (1:Int)∧((b7=b7∧0=0∧false=false∧Int.toNat (↑(List.length m):Int)≤Int.toNat (↑(List.length m):Int)∧Int.toNat (↑(List.length m):Int)≤Int.toNat (↑(List.length m):Int)∧Int.toNat (↑(List.length m):Int)≤Int.toNat (↑(List.length m):Int))∧∀ (i8:Nat), i8 < Int.toNat (↑(List.length m):Int)→(if
      i8=Int.toNat v10 then v13 else (↑(Vt.pB m i8 b8):Int))=(↑(Vt.pB m i8 x7):Int))∧x7≤8*List.length m+6∧x7 < b8)∧True)∧True)∧(t5=false→(0:Int)≤(↑b8:Int) - (1:Int)∧(↑b8:Int) - (1:Int) < (↑(Int.toNat v5):Int)∧(0:Int)≤(↑(Vt.stAt (Vt.bitsOf m) b8):Int)∧(↑(Vt.stAt (Vt.bitsOf m) b8):Int) < (↑(64:Nat):Int)∧(b5=b5∧0=0)∧Int.toNat ((↑b8:Int) - (1:Int)) < Int.toNat v5∧Int.toNat (↑(Vt.stAt (Vt.bitsOf m) b8):Int) <
      64∧∀ (v11:Int), v11=IntKind.i64.wrap ((↑b8:Int) - (1:Int) - (1:Int))→∃ (x7:Nat), x3.2.2.2 (Int.toNat ((↑b8:Int) - (1:Int))) (Int.toNat (↑(Vt.stAt (Vt.bitsOf m) b8):Int))=(↑(Vt.stAt (Vt.bitsOf m) x7):Int)∧v11=(↑x7:Int) - (1:Int)∧((b7=b7∧0=0∧false=false∧Int.toNat (↑(List.length m):Int)≤Int.toNat (↑(List.length m):Int)∧Int.toNat (↑(List.length m):Int)≤Int.toNat (↑(List.length m):Int)∧Int.toNat
      (↑(List.length m):Int)≤Int.toNat (↑(List.length m):Int))∧∀ (i8:Nat), i8 < Int.toNat (↑(List.length m):Int)→(↑(Vt.pB m i8 b8):Int)=(↑(Vt.pB m i8 x7):Int))∧x7≤8*List.length m+6∧x7 < b8))∧(decide ((↑b8:Int) - (1:Int)≥(0:Int))=false→Int.toNat (↑(List.length m):Int)≤Int.toNat (↑(List.length m):Int)∧(∀ (k2:Nat), k2 < Int.toNat (↑(List.length m):Int)→true=true)∧(b7=b7∧0=0)∧∀ (s1:List UInt8), s1=Byt.of
      (fun (k:Nat) ↦ (↑(Vt.pB m k b8):Int)) (Int.toNat (↑(List.length m):Int))→(0:Int)≤(0:Int)∧(0:Int) < (↑(64:Nat):Int)∧(b2=b2∧0=0)∧Int.toNat (0:Int) < 64∧s1=m∧(x3.2.1 (Int.toNat (0:Int))).1=Vt.smF (Vt.bitsOf m) f (8*List.length m+6)∧(0:Int)=(0:Int)))))) (by kernel_rfl) ?_
  try simp only [eq_self, true_and, and_true, Nat.le_refl, implies_true, forall_const, Bool.false_eq_true, Bool.true_eq_false, reduceCtorEq, false_imp_iff, true_imp_iff, Int.toNat_zero, Int.toNat_natCast, Nat.zero_lt_one, Int.le_refl, allGet]
  have hlen : (m.length : Int) ≤ 1100 := by omega
  have hb := bitsOf_lt m
  have hfb : ∀ k, k < 16 * m.length + 12 → -7 ≤ f k ∧ f k ≤ 7 := fun k hk => by
    have := sft_bd (sym (bitsOf m) k)
    rcases p4 k hk with h | h <;> omega
  intro t1 e1 v1 e2 v2 e3 t2 e4 t3 e5 t4 e6
  have q1 : t1 = false := by rw [e1, decide_eq_false (show ¬ ((m.length : Int) < 0) by omega), decide_eq_false (show ¬ ((m.length : Int) > 1100) by omega)]; rfl
  have q2 : t2 = false := by rw [e4, q1, e2, e3, if_neg (by omega : ¬ ((m.length : Int) < 0 ∨ (m.length : Int) > 1100)), show ((16 * m.length + 12 : Nat) : Int) = 16 * (m.length : Int) + 12 by omega]; simp
  have q3 : t3 = true := e5.trans (softB_true fun k hk => by
    have := hfb k hk
    unfold isV
    rw [decide_eq_true (by omega), decide_eq_true (by omega)]; rfl)
  have q4 : t4 = false := by rw [e6, q2, q3]; rfl
  rw [q4]
  clear e1 e2 e3 e4 e5 e6 q1 q2 q3 q4
  refine ⟨fun h => (by cases h), fun _ b2 b3 => ⟨⟨0, rfl, fun i hi => ⟨by rw [if_neg (Nat.not_lt_zero _)], by rw [if_neg (Nat.not_lt_zero _)]⟩, Nat.zero_le _⟩, fun b4 h4 => ⟨fun hlt => ?_, fun hge => ?_⟩⟩⟩
  · have hlt := of_decide_eq_true hlt
    refine ⟨by omega, by omega, by omega, fun v3 e => ⟨b4 + 1, e.trans (l_succ (by omega)), fun k hk => ?_, by omega, by omega⟩⟩
    by_cases q : k = b4
    · subst q; rw [if_pos rfl, if_pos rfl, if_pos (by omega), if_pos (by omega)]; exact ⟨rfl, rfl⟩
    · rw [if_neg q, if_neg q]
      by_cases q2 : k < b4
      · rw [if_pos q2, if_pos q2, if_pos (by omega), if_pos (by omega)]; exact ⟨rfl, rfl⟩
      · rw [if_neg q2, if_neg q2, if_neg (by omega), if_neg (by omega)]; exact ⟨rfl, rfl⟩
  · have hge := of_decide_eq_false hge
    obtain rfl : b4 = 64 := by omega
    refine ⟨by omega, by omega, fun v4 e7 v5 e8 => ?_⟩
    have e7 : v4 = 8 * m.length := e7.trans (w64_id (by omega) (by omega))
    have e8 : v5 = ((8 * m.length + 6 : Nat) : Int) := by rw [e8, e7, w64_id (by omega) (by omega)]; omega
    subst e8
    refine ⟨by omega, by omega, by omega, fun b5 v6 e9 => ?_⟩
    rw [Int.toNat_natCast] at e9 ⊢
    subst e9
    refine ⟨⟨(0, fun k => (if k = 0 then 0 else if k < 64 then least else 0, if k = 0 then (if 0 < 64 then ((0 : Nat) : Int) else 0) else if k < 64 then (k : Int) else 0), fun _ => (0, 0), fun _ _ => 0), rfl, fun k hk => ⟨rfl, rfl⟩, fun k hk => ⟨rfl, rfl⟩, fun k hk => SVeq.of_eq rfl, Nat.zero_le _, good2_zero rfl (fun s hs h0 => by dsimp only; rw [if_neg h0, if_pos hs]), fun k hk => ?_, fun k hk => ⟨Int.le_refl _, (by decide : (0 : Int) < 64)⟩, fun j k hk => ⟨Int.le_refl _, (by decide : (0 : Int) < 64)⟩, fun j hj => absurd hj (Nat.not_lt_zero _)⟩, fun x hx => ⟨fun hlt => ?_, fun hge => ?_⟩⟩
    · dsimp only
      by_cases q : k = 0
      · rw [if_pos q]; decide
      · rw [if_neg q, if_pos hk]; omega
    · obtain ⟨i, u, w, ways⟩ := x
      obtain ⟨i1, i2, i3, i4, i5⟩ := hx
      dsimp only at hlt i1 i2 i3 i4 i5 ⊢
      have hlt := of_decide_eq_true hlt
      have hi : i < 8 * m.length + 6 := by omega
      refine ⟨by omega, by omega, ⟨(0, w, ways), rfl, fun k hk => ⟨rfl, rfl⟩, fun k hk => SVeq.of_eq rfl, Nat.zero_le _, i4, i5, fun s hs => absurd hs (Nat.not_lt_zero _)⟩, fun x hx => ⟨fun hlt18 => ?_, fun hge18 => ?_⟩⟩
      · obtain ⟨t, v, wy⟩ := x
        have hx : inv18 m f i (fun k => (u k).1) (t, v, wy) := hx
        obtain ⟨j1, j2, j3, j4⟩ := hx
        dsimp only at hlt18 j1 j2 j3 j4 ⊢
        have ht := of_decide_eq_true hlt18
        refine ⟨by omega, by omega, by omega, ⟨(0, -2199023255552, 0, wy), rfl, ⟨rfl, rfl⟩, fun k hk => SVeq.of_eq rfl, Nat.zero_le _, ⟨Int.le_refl _, (by decide : (0 : Int) < 64)⟩, j3, j4, fun _ => rfl, fun h => absurd h (Nat.lt_irrefl _)⟩, fun x hx22 => ⟨fun hlt22 => ?_, fun hge22 => ?_⟩⟩
        · obtain ⟨k, bs, br, wz⟩ := x
          have hx22 : inv22 m f i t (fun k => (u k).1) (fun k => (v k).1) (k, bs, br, wz) := hx22
          dsimp only at hlt22 ⊢
          have hk : k < 2 := by have := of_decide_eq_true hlt22; omega
          simp only [if_true, Int.toNat_natCast]
          have hfr := frm_lt (t := t) hk
          have hu : least - 14 * (i : Int) ≤ (u (frm t k)).1 ∧ (u (frm t k)).1 ≤ 14 * (i : Int) + 56 := good_bd (fun k hk => p4 k (by omega)) (Nat.le_trans (erN_mono (by omega)) p5) i2 hfr
          have hur : 0 ≤ (u (frm t k)).2 ∧ (u (frm t k)).2 < 64 := i3 _ hfr
          have hl : least = -1099511627776 := rfl
          have hA := mul_bd (fs_le (frm t k) (t / 32)) (hfb (2 * i) (by omega))
          have hB := mul_bd (sc_le (frm t k) (t / 32)) (hfb (2 * i + 1) (by omega))
          have hcand : cand (8 * m.length) i (fun k => (u k).1) (f (2 * i)) (f (2 * i + 1)) t k = if 8 * m.length ≤ i ∧ 32 ≤ t then least else (u (frm t k)).1 + (((fs (frm t k) (t / 32) : Nat) : Int) * f (2 * i) + ((sc (frm t k) (t / 32) : Nat) : Int) * f (2 * i + 1)) := rfl
          refine ⟨by omega, by omega, by omega, by omega, hfr, fun v7 e7 => ?_⟩
          have e7 : v7 = ((2 * i : Nat) : Int) := by rw [e7, w64_id (by omega) (by omega)]; omega
          subst e7
          rw [Int.toNat_natCast]
          refine ⟨by omega, by omega, by omega, fun v8 e8 v9 e9 v10 e10 => ?_⟩
          have e10 : v10 = ((2 * i + 1 : Nat) : Int) := by rw [e10, e9, w64_id (by omega) (by omega), w64_id (by omega) (by omega)]; omega
          subst e10
          rw [Int.toNat_natCast]
          refine ⟨by omega, by omega, by omega, fun v11 e11 v12 e12 v13 e13 v14 e14 t5 e15 => ?_⟩
          rw [w64_id (by omega) (by omega)] at e8
          rw [w64_id (by omega) (by omega)] at e11
          rw [w64_id (by omega) (by omega)] at e14
          rw [w64_id (by omega) (by omega), e8, e11] at e12
          rw [w64_id (by omega) (by omega), e12] at e13
          have h5 := dec_and e15
          refine ⟨fun h5t t6 e16 => ?_, fun h5t t6 e16 => ?_⟩
          · obtain ⟨h51, h52⟩ := h5.1 h5t
            have hcv : (-1099511627776 : Int) = cand (8 * m.length) i (fun k => (u k).1) (f (2 * i)) (f (2 * i + 1)) t k := by rw [hcand, if_pos ⟨by omega, by omega⟩]; rfl
            exact ⟨fun h => ⟨by omega, by omega, hi, by omega, fun v15 e17 => ⟨(k + 1, -1099511627776, (u (frm t k)).2, fun j s => if j = i then if s = t then (frm t k : Nat) else wz i s else wz j s), e17.trans (l_succ (by omega)), ⟨rfl, rfl⟩, fun j hj => SVeq.of_eq rfl, inv22_t hx22 hk (by omega) hcv hur (e16.symm.trans h), by show 2 - (k + 1) < 2 - k; omega⟩⟩,
              fun h v16 e17 => ⟨(k + 1, bs, br, wz), e17.trans (l_succ (by omega)), ⟨rfl, rfl⟩, fun j hj => SVeq.of_eq rfl, inv22_f hx22 hk hcv (by decide) (e16.symm.trans h), by show 2 - (k + 1) < 2 - k; omega⟩⟩
          · have hcv : v13 = cand (8 * m.length) i (fun k => (u k).1) (f (2 * i)) (f (2 * i + 1)) t k := by
              rw [hcand, if_neg (fun q => by rw [h5.2 ⟨by omega, by omega⟩] at h5t; cases h5t)]
              exact e13
            exact ⟨fun h => ⟨by omega, by omega, hi, by omega, fun v15 e17 => ⟨(k + 1, v13, (u (frm t k)).2, fun j s => if j = i then if s = t then (frm t k : Nat) else wz i s else wz j s), e17.trans (l_succ (by omega)), ⟨rfl, rfl⟩, fun j hj => SVeq.of_eq rfl, inv22_t hx22 hk (by omega) hcv hur (e16.symm.trans h), by show 2 - (k + 1) < 2 - k; omega⟩⟩,
              fun h v16 e17 => ⟨(k + 1, bs, br, wz), e17.trans (l_succ (by omega)), ⟨rfl, rfl⟩, fun j hj => SVeq.of_eq rfl, inv22_f hx22 hk hcv (by omega) (e16.symm.trans h), by show 2 - (k + 1) < 2 - k; omega⟩⟩
        · have hx22 : inv22 m f i t (fun k => (u k).1) (fun k => (v k).1) x := hx22
          have hk := of_decide_eq_false hge22
          refine ⟨by omega, by omega, by omega, fun v7 e7 => ⟨(t + 1, (fun s => if s = t then (x.2.1, x.2.2.1) else v s), x.2.2.2), e7.trans (l_succ (by omega)), fun s hs => ?_, fun j hj => SVeq.of_eq rfl, inv22_e hx22 (by omega) (by omega) j2, by show 64 - (t + 1) < 64 - t; omega⟩⟩
          dsimp only
          by_cases q : s = t
          · rw [if_pos q, if_pos q, if_pos q]; exact ⟨rfl, rfl⟩
          · rw [if_neg q, if_neg q, if_neg q]; exact ⟨rfl, rfl⟩
      · have hx : inv18 m f i (fun k => (u k).1) x := hx
        have ht := of_decide_eq_false hge18
        refine ⟨hi, fun x' ex => ?_⟩
        subst ex
        dsimp only
        exact ⟨hx.2.1, hx.2.2.1.1 i, i3, fun y hy => ⟨by omega, by omega, ⟨rfl, rfl⟩, fun v7 _ v8 e8 => ⟨(i + 1, (fun k => ((x.2.1 k).1, y k)), (fun k => ((x.2.1 k).1, y k)), x.2.2), e8.trans (l_succ (by omega)), fun k hk => ⟨(if_pos ⟨Nat.zero_le _, hk⟩).trans rfl, (if_pos ⟨Nat.zero_le _, hk⟩).trans rfl⟩, ⟨⟨rfl, rfl⟩, fun k hk => ⟨rfl, rfl⟩⟩, fun j hj => SVeq.of_eq rfl, inv18_e hx (by omega) i2 hi hm p4 p5 hy, by show 8 * m.length + 6 - (i + 1) < 8 * m.length + 6 - i; omega⟩⟩⟩
    · obtain ⟨i, u, w, ways⟩ := x
      obtain ⟨i1, i2, i3, i4, i5, i6⟩ := hx
      dsimp only at hge i1 i2 i3 i4 i5 i6 ⊢
      have hge := of_decide_eq_false hge
      have hi : i = 8 * m.length + 6 := by omega
      subst hi
      refine ⟨by omega, by omega, by omega, fun v7 e7 v8 e8 => ⟨⟨8 * m.length + 6, by rw [st_end hb (bitsOf_tail m)]; rfl, by rw [e8, e7, w64_id (by omega) (by omega)], fun j hj => by rw [pB_top m hj]; rfl, Nat.le_refl _⟩, fun b8 h8 => ⟨fun hlt => ?_, fun hge => ?_⟩⟩⟩
      · have hlt := of_decide_eq_true hlt
        obtain ⟨k, rfl⟩ : ∃ k, b8 = k + 1 := ⟨b8 - 1, by omega⟩
        have ek : ((k + 1 : Nat) : Int) - 1 = (k : Nat) := by omega
        rw [ek]
        simp only [Int.toNat_natCast]
        intro v9 e9 t5 e15
        rw [w64_id (by omega) (by omega)] at e9
        have h5 := dec_and e15
        have hst := stAt_lt hb (k + 1)
        have hst2 := st_bit hb k
        have hbk := hb k
        have hw2 : ways k (stAt (bitsOf m) (k + 1)) = (stAt (bitsOf m) k : Nat) := i6 k (by omega)
        refine ⟨fun ht => ⟨by decide, fun v10 e10 => ?_⟩, fun ht => ⟨by omega, by omega, by omega, by omega, by omega, hst, fun v11 e11 => ⟨k, hw2, by rw [e11, w64_id (by omega) (by omega)], fun j hj => ?_, by omega, by omega⟩⟩⟩
        · obtain ⟨h51, h52⟩ := h5.1 ht
          have hk8 : k < 8 * m.length := by omega
          have hbit : bitsOf m k = 1 := by omega
          have e10 : v10 = ((k / 8 : Nat) : Int) := by rw [e10, Int.tdiv_eq_ediv_of_nonneg (by omega), w64_id (by omega) (by omega)]; omega
          subst e10
          rw [Int.toNat_natCast]
          refine ⟨by omega, by omega, by decide, fun v11 e11 => ?_⟩
          have e11 : v11 = ((k % 8 : Nat) : Int) := by rw [e11, Int.tmod_eq_emod_of_nonneg (by omega)]; omega
          subst e11
          rw [Int.toNat_natCast]
          refine ⟨by omega, fun v12 e12 => ⟨by omega, fun v13 e13 => ?_⟩⟩
          have hp : pB m (k / 8) (k + 1) = (m.getD (k / 8) 0).toNat % 2 ^ (7 - k % 8) := by unfold pB; rw [show 8 * (k / 8) + 8 - (k + 1) = 7 - k % 8 by omega]
          rw [e12, hp, or_bit (getD_lt m (k / 8)) (by omega), ← hp] at e13
          refine ⟨by omega, by omega, by omega, by omega, by omega, by omega, by omega, by omega, hst, fun v14 e14 => ⟨k, hw2, by rw [e14, w64_id (by omega) (by omega)], fun j hj => ?_, by omega, by omega⟩⟩
          by_cases q : j = k / 8
          · rw [if_pos q, q, pB_same m hk8, hbit, Nat.mul_one]; exact e13
          · rw [if_neg q, pB_other m (fun h => q h.symm)]
        · by_cases q : k / 8 = j
          · have hk8 : k < 8 * m.length := by omega
            have hbit : bitsOf m k = 0 := by
              by_cases q2 : 32 ≤ stAt (bitsOf m) (k + 1)
              · rw [h5.2 ⟨by omega, by omega⟩] at ht; cases ht
              · omega
            rw [← q, pB_same m hk8, hbit, Nat.mul_zero]; rfl
          · rw [pB_other m q]
      · have hge := of_decide_eq_false hge
        obtain rfl : b8 = 0 := by omega
        refine fun s1 e => ⟨by omega, by omega, e.trans (byt_back m), ?_⟩
        have := i2.1
        rw [st_end hb (bitsOf_tail m)] at this
        exact this
end Vt
