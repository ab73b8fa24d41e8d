/-
  OWN WORK. Block: the code, plainly: few places, no zero.
-/
import Derived.Test.YtoefjmachoakpaaGreatDoorBF
namespace Galois
open Go Go.Proofs Eng
set_option linter.unusedVariables false
set_option linter.unusedSimpArgs false
set_option maxRecDepth 100000

theorem gmul_ne {a b : Nat} (ha : a < 256) (hb : b < 256) (h0 : a ≠ 0) (h1 : b ≠ 0) : gmul a b ≠ 0 := fun h => h0 (gmul_cancel ha (by decide) hb h1 (h.trans (gzero_mul hb).symm))
/-- The product of (x + r) for the list. -/
def prR (x : Nat) : List Nat → Nat
  | [] => 1
  | r :: R => gmul (Nat.xor x r) (prR x R)
theorem prR_lt {x : Nat} (hx : x < 256) : ∀ R : List Nat, (∀ r ∈ R, r < 256) → prR x R < 256
  | [], _ => by show 1 < 256; decide
  | r :: R, h => gmul_lt (xor_lt hx (h r (List.mem_cons_self ..)))
theorem prR_zero {x : Nat} (hx : x < 256) : ∀ R : List Nat, (∀ r ∈ R, r < 256) → x ∈ R → prR x R = 0
  | [], _, h => by cases h
  | r :: R, hR, h => by
    have hr := fun s hs => hR s (List.mem_cons_of_mem r hs)
    show gmul (Nat.xor x r) (prR x R) = 0
    rcases List.mem_cons.1 h with e | e
    · rw [e, show Nat.xor r r = 0 from Nat.xor_self r, gzero_mul (prR_lt (e ▸ hx) R hr)]
    · rw [prR_zero hx R hr e, gmul_zero]
theorem xor_ne {a b : Nat} (h : a ≠ b) : Nat.xor a b ≠ 0 := fun e => h (by
  have : (a ^^^ b) ^^^ b = a := by rw [Nat.xor_assoc, Nat.xor_self, Nat.xor_zero]
  rw [show a ^^^ b = 0 from e, Nat.zero_xor] at this
  exact this.symm)
theorem prR_ne {x : Nat} (hx : x < 256) : ∀ R : List Nat, (∀ r ∈ R, r < 256) → x ∉ R → prR x R ≠ 0
  | [], _, _ => by show 1 ≠ 0; decide
  | r :: R, hR, h => by
    have hr := fun s hs => hR s (List.mem_cons_of_mem r hs)
    exact gmul_ne (xor_lt hx (hR r (List.mem_cons_self ..))) (prR_lt hx R hr) (xor_ne fun e => h (e ▸ List.mem_cons_self ..)) (prR_ne hx R hr fun e => h (List.mem_cons_of_mem _ e))
/-- The sum with the weights F at the power j. -/
def syX (F : Nat → Nat) (n j : Nat) : Nat := X (fun k => gmul (F k) (gexp (j * k))) n
theorem van_T {F : Nat → Nat} (hF : ∀ k, F k < 256) {n m : Nat} (h : ∀ j, j < m → syX F n j = 0) : ∀ (R : List Nat), (∀ r ∈ R, r < 256) → ∀ j, j + R.length < m →
    X (fun k => gmul (F k) (gmul (gexp (j * k)) (prR (gexp k) R))) n = 0
  | [], _, j, hj => by
    rw [← h j (by simpa using hj)]
    exact X_congr n fun k _ => by rw [show prR (gexp k) [] = 1 from rfl, gmul_one (gexp_lt _)]
  | r :: R, hR, j, hj => by
    have hr := fun s hs => hR s (List.mem_cons_of_mem r hs)
    have hrr := hR r (List.mem_cons_self ..)
    have h1 := van_T hF h R hr (j + 1) (by simp only [List.length_cons] at hj; omega)
    have h2 := van_T hF h R hr j (by simp only [List.length_cons] at hj; omega)
    have e : ∀ k, gmul (F k) (gmul (gexp (j * k)) (prR (gexp k) (r :: R))) = Nat.xor (gmul (F k) (gmul (gexp ((j + 1) * k)) (prR (gexp k) R))) (gmul r (gmul (F k) (gmul (gexp (j * k)) (prR (gexp k) R)))) := fun k => by
      have lQ := prR_lt (gexp_lt k) R hr
      have lk := gexp_lt k
      have lj := gexp_lt (j * k)
      show gmul (F k) (gmul (gexp (j * k)) (gmul (Nat.xor (gexp k) r) (prR (gexp k) R))) = _
      generalize prR (gexp k) R = Q at *
      have e1 : gexp ((j + 1) * k) = gmul (gexp (j * k)) (gexp k) := by rw [Nat.succ_mul, gexp_add]
      rw [gmul_lin Q lk hrr, gmul_linr, gmul_linr, e1]
      congr 1
      · rw [gmul_assoc _ lj lk]
      · rw [gmul_assoc _ lj hrr, gmul_comm lj hrr, ← gmul_assoc _ hrr lj, gmul_assoc _ (hF k) hrr, gmul_comm (hF k) hrr, ← gmul_assoc _ hrr (hF k)]
    rw [X_congr n fun k _ => e k, X_xor, X_mul, h1, h2, gmul_zero]
    rfl
theorem gexp_inj {i k : Nat} (hi : i < 255) (hk : k < 255) (h : gexp i = gexp k) : i = k := by rw [← glog_gexp hi, h, glog_gexp hk]
theorem X_one {f : Nat → Nat} {a : Nat} : ∀ n, a < n → (∀ k, k < n → k ≠ a → f k = 0) → X f n = f a
  | 0, h, _ => by omega
  | n + 1, h, hz => by
    show Nat.xor (X f n) (f n) = f a
    by_cases q : a = n
    · rw [X_congr (g := fun _ => 0) n fun k hk => hz k (by omega) (by omega), X_zero, xor0', q]
    · rw [hz n (by omega) (by omega), xor0, X_one n (by omega) fun k hk hn => hz k (by omega) hn]
/-- Few places, no zero: all are zero. -/
theorem van {F : Nat → Nat} (hF : ∀ k, F k < 256) {n m : Nat} (hn : n ≤ 255) (P : List Nat) (hP : P.length ≤ m) (hs : ∀ k, k < n → F k ≠ 0 → k ∈ P) (h : ∀ j, j < m → syX F n j = 0) : ∀ k, k < n → F k = 0 := by
  intro i hi
  by_cases h0 : F i = 0
  · exact h0
  exfalso
  have hiP := hs i hi h0
  have hR : ∀ r ∈ ((P.filter fun k => decide (k ≠ i) && decide (k < n)).map gexp), r < 256 := fun r hr => by
    obtain ⟨k, -, rfl⟩ := List.mem_map.1 hr
    exact gexp_lt k
  have hlen : ((P.filter fun k => decide (k ≠ i) && decide (k < n)).map gexp).length < m := by
    rw [List.length_map]
    refine Nat.lt_of_lt_of_le ?_ hP
    apply Nat.lt_of_le_of_ne (List.length_filter_le ..)
    intro e
    have := List.length_filter_eq_length_iff.1 e i hiP
    simp at this
  have hT := van_T hF h _ hR 0 (by omega)
  rw [X_one (a := i) n hi fun k hk hne => ?_] at hT
  · refine gmul_ne (hF i) (gmul_lt (gexp_lt _)) h0 ?_ hT
    rw [Nat.zero_mul]
    refine gmul_ne (gexp_lt _) (prR_lt (gexp_lt _) _ hR) (gexp_ne _) (prR_ne (gexp_lt _) _ hR fun hm => ?_)
    obtain ⟨k, hk, e⟩ := List.mem_map.1 hm
    have hk := List.mem_filter.1 hk
    have hk2 := hk.2
    rw [Bool.and_eq_true, decide_eq_true_eq, decide_eq_true_eq] at hk2
    exact hk2.1 (gexp_inj (by omega) (by omega) e)
  · by_cases hz : F k = 0
    · rw [hz, gzero_mul (gmul_lt (gexp_lt _))]
    · rw [prR_zero (gexp_lt _) _ hR (List.mem_map.2 ⟨k, List.mem_filter.2 ⟨hs k hk hz, by rw [Bool.and_eq_true, decide_eq_true_eq, decide_eq_true_eq]; exact ⟨hne, hk⟩⟩, rfl⟩), gmul_zero, gmul_zero]

/-! ### words -/
theorem pwN_gexp {j : Nat} (h : j < 255) : pwN (j : Nat) = gexp j := by
  have h1 := powI_eq (j : Nat)
  unfold powI at h1
  rw [if_neg (by decide)] at h1
  have h2 : ((gpow (Int.toNat 2) (expI (j : Nat)) : Nat) : Int) = (pwN (j : Nat) : Nat) := h1
  have e : expI ((j : Nat) : Int) = j := by unfold expI; omega
  have h3 : gpow 2 (expI ((j : Nat) : Int)) = pwN ((j : Nat) : Int) := by
    have : gpow (Int.toNat 2) (expI ((j : Nat) : Int)) = pwN ((j : Nat) : Int) := by omega
    exact this
  rw [← h3, e]
  have h4 := gpow_gexp 1 j
  rw [Nat.one_mul] at h4
  exact h4
theorem co_rev {l : List UInt8} {k : Nat} (h : k < l.length) : co (revL l) k = co l (l.length - 1 - k) := byt_get (F := fun k => co l (l.length - 1 - k)) (fun k => co_lt _ _) h
theorem syn0_X (b : List UInt8) {j : Nat} (h : j < 255) : syn0 b j = syX (co (revL b)) b.length j := by
  unfold syn0 evalF
  rw [evA_X, revL_len, pwN_gexp h]
  unfold ev syX
  exact X_congr _ fun k _ => by rw [gpow_gexp]
theorem co_app1 {l m : List UInt8} {k : Nat} (h : k < l.length) : co (l ++ m) k = co l k := by
  unfold co
  rw [List.getD_eq_getElem?_getD, List.getElem?_append_left h, List.getD_eq_getElem?_getD]
theorem co_app2 {l m : List UInt8} {k : Nat} (h : l.length ≤ k) : co (l ++ m) k = co m (k - l.length) := by
  unfold co
  rw [List.getD_eq_getElem?_getD, List.getElem?_append_right h, List.getD_eq_getElem?_getD]
theorem gp_zero : ∀ j, j < 8 → evalF gpoly (gexp j) = 0 := fun j hj => by
  rw [gpoly_eq]
  have h : allN (fun j => Nat.beq (evalF [24, 200, 173, 239, 54, 81, 11, 255, 1] (gexp j)) 0) 8 = true := by kernel_rfl
  exact Nat.eq_of_beq_eq_true (allN_true h j hj)
theorem xor_can (a b : Nat) : Nat.xor (Nat.xor a b) b = a := by
  show (a ^^^ b) ^^^ b = a
  rw [Nat.xor_assoc, Nat.xor_self, Nat.xor_zero]
theorem encL_ln {d : List UInt8} (h1 : 1 ≤ d.length) (h2 : d.length ≤ 223) : (encL d).length = d.length + 8 := by
  rw [encL_of h1 h2, List.length_append, revL_len, parP_len]
theorem enc_syn {d : List UInt8} (h1 : 1 ≤ d.length) (h2 : d.length ≤ 223) : ∀ j, j < 8 → syn0 (encL d) j = 0 := fun j hj => by
  have hg : tlen gpoly ≠ 0 := by rw [genK_tlen]; decide
  obtain ⟨q1, q2⟩ := quot_facts (p := [0, 0, 0, 0, 0, 0, 0, 0] ++ revL d) hg
  have hl := encL_ln h1 h2
  have hlp : ([0, 0, 0, 0, 0, 0, 0, 0] ++ revL d).length = d.length + 8 := by rw [List.length_append, revL_len]; simp; omega
  have hB : prodB (quoL ([0, 0, 0, 0, 0, 0, 0, 0] ++ revL d) gpoly) gpoly = false := prodB_of (by
    rw [genK_tlen]
    have a1 := tlen_le (quoL ([0, 0, 0, 0, 0, 0, 0, 0] ++ revL d) gpoly)
    have a2 : (quoL ([0, 0, 0, 0, 0, 0, 0, 0] ++ revL d) gpoly).length ≤ tlen ([0, 0, 0, 0, 0, 0, 0, 0] ++ revL d) := by
      unfold quoL
      rw [if_neg hg]
      refine Nat.le_trans (trimL_le _) ?_
      rw [ofN_len]
      exact Nat.le_refl _
    have a3 := tlen_le ([0, 0, 0, 0, 0, 0, 0, 0] ++ revL d)
    omega)
  have key : ∀ k, co (revL (encL d)) k = co (prodL (quoL ([0, 0, 0, 0, 0, 0, 0, 0] ++ revL d) gpoly) gpoly) k := fun k => by
    rw [co_prod hB]
    have e := q1 k
    have e2 : cv (co (quoL ([0, 0, 0, 0, 0, 0, 0, 0] ++ revL d) gpoly)) (co gpoly) k = Nat.xor (co ([0, 0, 0, 0, 0, 0, 0, 0] ++ revL d) k) (co (parR d) k) := by
      rw [e]
      exact (xor_can _ _).symm
    rw [e2]
    by_cases hk : k < d.length + 8
    · rw [co_rev (by omega), hl, encL_of h1 h2]
      by_cases h8 : k < 8
      · rw [co_app2 (by omega), co_app1 (l := [0, 0, 0, 0, 0, 0, 0, 0]) (by simpa using h8), co_rev (by rw [parP_len]; omega), parP_len]
        have e3 : co (parP d) (8 - 1 - (d.length + 8 - 1 - k - d.length)) = co (parR d) k := by
          rw [show 8 - 1 - (d.length + 8 - 1 - k - d.length) = k by omega]
          exact byt_get (F := co (parR d)) (fun k => co_lt _ _) h8
        rw [e3]
        have e4 : co [0, 0, 0, 0, 0, 0, 0, 0] k = 0 := by
          have h : allN (fun k => Nat.beq (co [0, 0, 0, 0, 0, 0, 0, 0] k) 0) 8 = true := by kernel_rfl
          exact Nat.eq_of_beq_eq_true (allN_true h k h8)
        rw [e4, xor0']
      · rw [co_app1 (by omega), co_app2 (l := [0, 0, 0, 0, 0, 0, 0, 0]) (by simp; omega), co_over (p := parR d) (Nat.le_trans (parR_len d) (by omega)), xor0]
        show _ = co (revL d) (k - 8)
        rw [co_rev (by omega)]
        congr 1
        omega
    · rw [co_over (p := revL (encL d)) (by rw [revL_len]; omega), co_over (p := [0, 0, 0, 0, 0, 0, 0, 0] ++ revL d) (by omega), co_over (p := parR d) (Nat.le_trans (parR_len d) (by omega))]
      rfl
  unfold syn0
  rw [pwN_gexp (by omega)]
  have hx := gexp_lt j
  have z : ∀ k, d.length + 8 ≤ k → co (revL (encL d)) k = 0 := fun k hk => co_over (by rw [revL_len]; omega)
  rw [eval_N hx z, show co (revL (encL d)) = co (prodL (quoL ([0, 0, 0, 0, 0, 0, 0, 0] ++ revL d) gpoly) gpoly) from funext key, ← eval_N hx fun k hk => (key k).symm.trans (z k hk), eval_prod hx hB, gp_zero j hj, gmul_zero]
/-- The difference of two words, from behind. -/
def dfF (b c : List UInt8) (k : Nat) : Nat := Nat.xor (co (revL b) k) (co (revL c) k)
theorem dfF_lt (b c : List UInt8) (k : Nat) : dfF b c k < 256 := xor_lt (co_lt _ _) (co_lt _ _)
theorem df_syn {b c : List UInt8} (hl : c.length = b.length) {j : Nat} (hj : j < 255) : syX (dfF b c) b.length j = Nat.xor (syn0 b j) (syn0 c j) := by
  rw [syn0_X b hj, syn0_X c hj, hl]
  unfold syX
  rw [← X_xor]
  exact X_congr _ fun k _ => by unfold dfF; rw [gmul_lin _ (co_lt _ _) (co_lt _ _)]
theorem df_eq {b c : List UInt8} (hl : c.length = b.length) (h : ∀ k, k < b.length → dfF b c k = 0) : b = c := by
  refine list_ext hl.symm fun k hk => ?_
  have h1 := h (b.length - 1 - k) (by omega)
  unfold dfF at h1
  rw [co_rev (by omega), co_rev (by omega), hl, show b.length - 1 - (b.length - 1 - k) = k by omega] at h1
  by_cases e : co b k = co c k
  · exact e
  · exact (xor_ne e h1).elim
/-- Two code words with one beginning are one. -/
theorem code_pre {b c : List UInt8} (hl : c.length = b.length) (hn : b.length ≤ 255) (hb : ∀ j, j < 8 → syn0 b j = 0) (hc : ∀ j, j < 8 → syn0 c j = 0) (hp : ∀ k, k < b.length - 8 → co b k = co c k) (h8 : 8 ≤ b.length) : b = c := by
  refine df_eq hl (van (dfF_lt b c) hn (List.range 8) (m := 8) (by simp) (fun k hk h0 => ?_) fun j hj => ?_)
  · refine List.mem_range.2 (Nat.lt_of_not_le fun h => h0 ?_)
    unfold dfF
    rw [co_rev hk, co_rev (by omega), hl, hp _ (by omega)]
    exact Nat.xor_self _
  · rw [df_syn hl (by omega), hb j hj, hc j hj]
    rfl
end Galois
