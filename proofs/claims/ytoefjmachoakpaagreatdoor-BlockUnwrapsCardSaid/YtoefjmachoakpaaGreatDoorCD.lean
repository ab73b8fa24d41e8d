/-
  OWN WORK. Block: the erased places in another order make no difference; the specification's small functions.
-/
import Derived.Test.YtoefjmachoakpaaGreatDoorBT
namespace Galois
open Go Go.Proofs Eng
set_option linter.unusedVariables false
set_option linter.unusedSimpArgs false
set_option maxHeartbeats 8000000
set_option maxRecDepth 100000

theorem stepS_z (x : Nat) (S : Nat → Nat) : stepS x S 0 = S 0 := rfl
theorem stepS_s (x : Nat) (S : Nat → Nat) (j : Nat) : stepS x S (j + 1) = Nat.xor (S (j + 1)) (gmul x (S j)) := rfl
theorem xor3 (a b c : Nat) : Nat.xor (Nat.xor a b) c = Nat.xor (Nat.xor a c) b := by
  show (a ^^^ b) ^^^ c = (a ^^^ c) ^^^ b
  rw [Nat.xor_assoc, Nat.xor_comm b, ← Nat.xor_assoc]
theorem stepS_comm {x y : Nat} (hx : x < 256) (hy : y < 256) {S : Nat → Nat} (hS : ∀ j, S j < 256) : stepS x (stepS y S) = stepS y (stepS x S) := by
  funext j
  rcases j with _ | _ | j
  · rfl
  · rw [stepS_s, stepS_s, stepS_s, stepS_s, stepS_z, stepS_z]
    exact xor3 _ _ _
  · rw [stepS_s, stepS_s, stepS_s, stepS_s, stepS_s, stepS_s, gmul_linr, gmul_linr, gmul_assoc _ hx hy, gmul_assoc _ hy hx, gmul_comm hx hy]
    generalize gmul y (S (j + 1)) = A
    generalize gmul x (S (j + 1)) = B
    generalize gmul (gmul y x) (S j) = C
    show (S (j + 1 + 1) ^^^ A) ^^^ (B ^^^ C) = (S (j + 1 + 1) ^^^ B) ^^^ (A ^^^ C)
    rw [← Nat.xor_assoc, ← Nat.xor_assoc]
    congr 1
    exact xor3 _ _ _
/-- The syndromes, of a list. -/
def synL (b : List UInt8) (S : Nat → Nat) : List Int → Nat → Nat
  | [] => S
  | v :: r => synL b (stepS (pwN ((b.length : Int) - 1 - v)) S) r
theorem synL_app (b : List UInt8) (v : Int) : ∀ (l : List Int) (S : Nat → Nat), synL b S (l ++ [v]) = stepS (pwN ((b.length : Int) - 1 - v)) (synL b S l)
  | [], S => rfl
  | u :: r, S => synL_app b v r _
theorem synL_perm {b : List UInt8} {l m : List Int} (p : l.Perm m) : ∀ {S : Nat → Nat}, (∀ j, S j < 256) → synL b S l = synL b S m := by
  induction p with
  | nil => intro S hS; rfl
  | cons x _ ih => intro S hS; exact ih fun j => stepS_lt (pwN_lt _) hS j
  | swap x y l =>
    intro S hS
    show synL b (stepS _ (stepS _ S)) l = synL b (stepS _ (stepS _ S)) l
    rw [stepS_comm (pwN_lt _) (pwN_lt _) hS]
  | trans _ _ i1 i2 => intro S hS; rw [i1 hS, i2 hS]
theorem gL_app1 {l : List Int} {v : Int} {k : Nat} (h : k < l.length) : gL (l ++ [v]) k = gL l k := by
  unfold gL
  rw [List.getD_eq_getElem?_getD, List.getElem?_append_left h, List.getD_eq_getElem?_getD]
theorem gL_app2 (l : List Int) (v : Int) : gL (l ++ [v]) l.length = v := by
  unfold gL
  rw [List.getD_eq_getElem?_getD, List.getElem?_append_right (Nat.le_refl _), Nat.sub_self]
  rfl
theorem synE_list (b : List UInt8) (l : List Int) : synE b (gL l) l.length = synL b (syn0 b) l := by
  suffices h : ∀ m : List Int, synE b (gL m.reverse) m.reverse.length = synL b (syn0 b) m.reverse by
    have := h l.reverse
    rwa [List.reverse_reverse] at this
  intro m
  induction m with
  | nil => rfl
  | cons v r ih =>
    rw [List.reverse_cons, synL_app, ← ih, List.length_append]
    show stepS (pwN ((b.length : Int) - 1 - gL (r.reverse ++ [v]) r.reverse.length)) (synE b (gL (r.reverse ++ [v])) r.reverse.length) = _
    rw [gL_app2, synE_congr _ fun i hi => gL_app1 hi]
theorem gL_idx {l : List Int} {v : Int} (h : v ∈ l) : ∃ i, i < l.length ∧ gL l i = v := by
  obtain ⟨i, hi, e⟩ := List.getElem_of_mem h
  exact ⟨i, hi, by rw [gL_at hi]; exact e⟩
theorem inB_mem {l : List Int} {v : Int} : inB (gL l) l.length v = true ↔ v ∈ l := by
  rw [inB_true]
  constructor
  · rintro ⟨i, hi, e⟩
    rw [← e]
    exact gL_mem hi
  · exact gL_idx
theorem inB_perm {l m : List Int} (p : l.Perm m) (v : Int) : inB (gL l) l.length v = inB (gL m) m.length v := by
  rw [Bool.eq_iff_iff, inB_mem, inB_mem]
  exact p.mem_iff
theorem wrongM_perm {b : List UInt8} {l m : List Int} (p : l.Perm m) (e : Nat) : wrongM b (gL l) l.length e = wrongM b (gL m) m.length e := by
  unfold wrongM
  rw [synE_list, synE_list, synL_perm p (syn0_lt b), p.length_eq]
theorem plL_perm {b : List UInt8} {l m : List Int} (p : l.Perm m) (e k : Nat) : plL b (gL l) l.length e k = plL b (gL m) m.length e k := by
  have hP : plP b (gL l) l.length e = plP b (gL m) m.length e := by
    funext q
    unfold plP locL
    rw [inB_perm p, wrongM_perm p]
  unfold plL
  rw [hP]
theorem wrOk_perm {b : List UInt8} {l m : List Int} (p : l.Perm m) (e : Nat) : wrOk b (gL l) l.length e = wrOk b (gL m) m.length e := by
  unfold wrOk wrGood
  rw [wrongM_perm p, plL_perm p]
theorem allL2_perm {b : List UInt8} {l m : List Int} (p : l.Perm m) (e : Nat) : (allL2 b l e).Perm (allL2 b m e) := by
  unfold allL2
  rw [plL_perm p]
  exact p.append_right _
theorem gL_inj {l : List Int} (h : l.Nodup) {i j : Nat} (hi : i < l.length) (hj : j < l.length) (e : gL l i = gL l j) : i = j := by
  rw [gL_at hi, gL_at hj] at e
  exact (List.getElem_inj h).1 e
/-- The mended word does not depend on the order of the places. -/
theorem md_perm {b : List UInt8} (h9 : 9 ≤ b.length) (hL : b.length ≤ 231) {l m : List Int} (p : l.Perm m) (hn : l.Nodup) (h8 : l.length ≤ 8) (hr : ∀ v ∈ l, 0 ≤ v ∧ v < (b.length : Int)) (h : mdOk b (gL l) l.length = true) :
    mdOk b (gL m) m.length = true ∧ mdC b (gL m) m.length = mdC b (gL l) l.length := by
  unfold mdOk at h
  rw [Bool.and_eq_true] at h
  have hc2 : mdC b (gL l) l.length = ofN (fixF b (gL l) l.length l.length) b.length := by simpa using h.2
  have hc3 : encL (ofN (fixF b (gL l) l.length l.length) (b.length - 8)) = mdC b (gL l) l.length := by
    unfold mdC
    rw [h.1, if_pos rfl]
  have sy : ∀ j, j < 8 → syn0 (mdC b (gL l) l.length) j = 0 := by
    rw [← hc3]
    exact enc_syn (by rw [ofN_len]; omega) (by rw [ofN_len]; omega)
  have lc : (mdC b (gL l) l.length).length = b.length := by rw [hc2, ofN_len]
  obtain ⟨m1, m2⟩ := md_right lc h9 hL sy (pl := gL m) (m := m.length) (by rw [← p.length_eq]; exact h8) (fun i hi => hr _ (p.mem_iff.2 (gL_mem hi)))
    (fun i j hi hj e => gL_inj (p.nodup_iff.1 hn) hi hj e) (fun q hq hne => by
      by_cases hex : ∃ t, t < l.length ∧ gL l t = (q : Int)
      · obtain ⟨t, ht, e⟩ := hex
        exact gL_idx (p.mem_iff.1 (e ▸ gL_mem ht))
      · have e1 : co (mdC b (gL l) l.length) q = co b q := by
          rw [hc2, byt_get (fun k => fixF_lt b _ _ _ k) hq]
          exact fix_no b _ _ _ fun t ht e2 => hex ⟨t, ht, e2⟩
        exact absurd e1.symm hne)
  exact ⟨m1, m2⟩
theorem allL2_nodup {b : List UInt8} {l : List Int} (hn : l.Nodup) (e : Nat) : (allL2 b l e).Nodup := by
  unfold allL2
  rw [List.nodup_append]
  refine ⟨hn, ?_, ?_⟩
  · refine List.Pairwise.map _ (R := (· ≠ ·)) (fun x y h e => h (by omega)) ?_
    exact List.Pairwise.filter _ List.nodup_range
  · intro v hv w hw q
    subst q
    obtain ⟨u, hu, e1⟩ := List.mem_map.1 hw
    have hu := (List.mem_filter.1 hu).2
    unfold plP at hu
    rw [Bool.and_eq_true] at hu
    have h1 : inB (gL l) l.length (u : Int) = true := inB_mem.2 (by rw [e1]; exact hv)
    rw [h1] at hu
    cases hu.1
theorem decTry_perm {b : List UInt8} (h9 : 9 ≤ b.length) (hL : b.length ≤ 231) {l m : List Int} (p : l.Perm m) (hn : l.Nodup) (hr : ∀ v ∈ l, 0 ≤ v ∧ v < (b.length : Int)) {e : Nat} (h8 : l.length + 2 * e ≤ 8) : decTry b l e = decTry b m e := by
  unfold decTry
  rw [← wrOk_perm p]
  cases hw : wrOk b (gL l) l.length e with
  | false => rw [Bool.false_and, Bool.false_and, if_neg (by decide), if_neg (by decide)]
  | true =>
    unfold wrOk at hw
    rw [Bool.and_eq_true] at hw
    have hple : (plL b (gL l) l.length e b.length).length = e := of_decide_eq_true hw.2
    have hq := allL2_perm (b := b) p e
    have hal := allL2_len b l e
    have hin := allL2_in (b := b) (e := e) hr
    have hnd := allL2_nodup (b := b) hn e
    have k1 := md_perm h9 hL hq hnd (by omega) (fun v hv => hin v hv)
    have k2 := md_perm h9 hL hq.symm (hq.nodup_iff.1 hnd) (by rw [← hq.length_eq]; omega) (fun v hv => hin v (hq.mem_iff.2 hv))
    rw [Bool.true_and, Bool.true_and]
    cases h1 : mdOk b (gL (allL2 b l e)) (allL2 b l e).length with
    | true =>
      obtain ⟨a1, a2⟩ := k1 h1
      rw [a1, if_pos rfl, if_pos rfl, a2]
    | false =>
      cases h2 : mdOk b (gL (allL2 b m e)) (allL2 b m e).length with
      | false => rw [if_neg (by decide), if_neg (by decide)]
      | true => rw [(k2 h2).1] at h1; cases h1
theorem decK_perm {b : List UInt8} (h9 : 9 ≤ b.length) (hL : b.length ≤ 231) {l m : List Int} (p : l.Perm m) (hn : l.Nodup) (hr : ∀ v ∈ l, 0 ≤ v ∧ v < (b.length : Int)) : ∀ k e, decK b l k e = decK b m k e
  | 0, e => rfl
  | k + 1, e => by
    show (if l.length + 2 * e ≤ 8 then (match decTry b l e with
      | some c => some c
      | none => decK b l k (e + 1)) else none) = if m.length + 2 * e ≤ 8 then (match decTry b m e with
      | some c => some c
      | none => decK b m k (e + 1)) else none
    rw [← p.length_eq]
    by_cases h8 : l.length + 2 * e ≤ 8
    · rw [if_pos h8, if_pos h8, decTry_perm h9 hL p hn hr h8, decK_perm h9 hL p hn hr k (e + 1)]
    · rw [if_neg h8, if_neg h8]
/-- The erased places, each once, in the order in which they are told. -/
def fstL (er : Nat → Int) : Nat → List Int
  | 0 => []
  | n + 1 => if inB (gL (fstL er n)) (fstL er n).length (er n) then fstL er n else fstL er n ++ [er n]
theorem fstL_mem (er : Nat → Int) (v : Int) : ∀ n, v ∈ fstL er n ↔ ∃ i, i < n ∧ er i = v
  | 0 => ⟨fun h => (by cases h), fun ⟨i, hi, _⟩ => by omega⟩
  | n + 1 => by
    have ih := fstL_mem er v n
    unfold fstL
    cases hb : inB (gL (fstL er n)) (fstL er n).length (er n) with
    | true =>
      rw [if_pos rfl, ih]
      refine ⟨fun ⟨i, hi, e⟩ => ⟨i, by omega, e⟩, fun ⟨i, hi, e⟩ => ?_⟩
      by_cases q : i = n
      · subst q
        rw [inB_mem] at hb
        rw [← e]
        exact (fstL_mem er _ i).1 hb
      · exact ⟨i, by omega, e⟩
    | false =>
      rw [if_neg (by decide), List.mem_append, ih, List.mem_singleton]
      constructor
      · rintro (⟨i, hi, e⟩ | e)
        · exact ⟨i, by omega, e⟩
        · exact ⟨n, by omega, e.symm⟩
      · rintro ⟨i, hi, e⟩
        by_cases q : i = n
        · subst q; exact .inr e.symm
        · exact .inl ⟨i, by omega, e⟩
theorem fstL_nodup (er : Nat → Int) : ∀ n, (fstL er n).Nodup
  | 0 => List.nodup_nil
  | n + 1 => by
    have ih := fstL_nodup er n
    unfold fstL
    cases hb : inB (gL (fstL er n)) (fstL er n).length (er n) with
    | true => rw [if_pos rfl]; exact ih
    | false =>
      rw [if_neg (by decide), List.nodup_append]
      refine ⟨ih, by simp, fun v hv w hw q => ?_⟩
      rw [List.mem_singleton] at hw
      subst q hw
      rw [inB_mem.2 hv] at hb
      cases hb
/-- THE TWO ORDERS DECODE ALIKE. -/
theorem fst_own {b : List UInt8} {er : Nat → Int} {n : Nat} (h9 : 9 ≤ b.length) (hL : b.length ≤ 231) (hr : ∀ i, i < n → 0 ≤ er i ∧ er i < (b.length : Int)) : decR b (fstL er n) = decR b (ownL er n) := by
  have hp : (fstL er n).Perm (ownL er n) := by
    refine (List.perm_ext_iff_of_nodup (fstL_nodup er n) ?_).2 fun v => ?_
    · exact List.Pairwise.imp (fun h e => by omega) (ownL_lt er n)
    · rw [fstL_mem]
      constructor
      · rintro ⟨i, hi, e⟩
        rw [← e]
        exact ownL_all hi
      · intro h
        obtain ⟨i, hi, e⟩ := ownL_mem h
        exact ⟨i, hi, e.symm⟩
  exact decK_perm h9 hL hp (fstL_nodup er n) (fun v hv => by
    obtain ⟨i, hi, e⟩ := (fstL_mem er v n).1 hv
    rw [← e]
    exact hr i hi) 5 0
theorem inside_ok : PcOk Tryz.prog 25 contains := by
  refine pcOf_run (fun _ => E0_ok) Tryz.func25 rfl (by kernel_rfl) (fun _ => trivial)
    (fun x => [.lp 2 Nat [5] (fun i => [.int .i64 (i : Nat)]) (fun i => i ≤ x.1.n ∧ noneTo (fun k => x.2.1 == x.1.f k) i = true) fun i => x.1.n - i])
    (fun _ => Nat.le_of_ble_eq_true rfl) (fun ⟨⟨b, off, n, c, z, f⟩, v, ()⟩ hp hw => ?_)
  have hn : n ≤ c ∧ c ≤ 9223372036854775807 := (hw _ (List.mem_cons_self ..)).2
  refine vc_of (q :=
      (∃ (x1 : Nat), (0 : Int) = (↑x1 : Int) ∧ x1 ≤ n ∧ noneTo (fun (k : Nat) ↦ v == f k) x1 = true) ∧ ∀ (b1 : Nat), b1 ≤ n ∧ noneTo (fun (k : Nat) ↦ v == f k) b1 = true → ∀ (v1 : Int), v1 = (↑n : Int) → (decide ((↑b1 : Int) < v1) = true → (0 : Int) ≤ (↑b1 : Int) ∧ (↑b1 : Int) < (↑n : Int) ∧ (b = b ∧ off = off) ∧ Int.toNat (↑b1 : Int) < n ∧ ((f (Int.toNat (↑b1 : Int)) == v) = true → true = inB f n v) ∧
      ((f (Int.toNat (↑b1 : Int)) == v) = false → ∀ (v2 : Int), v2 = IntKind.i64.wrap ((↑b1 : Int) + (1 : Int)) → ∃ (x2 : Nat), v2 = (↑x2 : Int) ∧ (x2 ≤ n ∧ noneTo (fun (k : Nat) ↦ v == f k) x2 = true) ∧ n - x2 < n - b1)) ∧ (decide ((↑b1 : Int) < v1) = false → false = inB f n v)) (by kernel_rfl) ?_
  try simp only [eq_self, true_and, and_true, Nat.le_refl, implies_true, forall_const, Bool.false_eq_true, Bool.true_eq_false, reduceCtorEq, false_imp_iff, true_imp_iff, Int.toNat_zero, Int.toNat_natCast, Nat.zero_lt_one, Int.le_refl, allGet]
  refine ⟨⟨0, rfl, Nat.zero_le _, rfl⟩, ?_⟩
  rintro i ⟨hi, hs⟩ v1 h1
  subst h1
  refine ⟨fun hlt => ?_, fun hge => ?_⟩
  · have hlt := of_decide_eq_true hlt
    refine ⟨by omega, by omega, by omega, fun h => ?_, fun h v3 h3 => ⟨i + 1, h3.trans (l_succ (by omega)), ⟨by omega, ?_⟩, by omega⟩⟩
    · show true = !noneTo _ n
      cases q : noneTo (fun k => v == f k) n with
      | false => rfl
      | true =>
        have := noneTo_iff.1 q i (by omega)
        have h : f i = v := by simpa using h
        rw [h] at this
        simp at this
    · simp only [noneTo, hs, Bool.true_and]
      have h : (f i == v) = false := h
      rw [show (v == f i) = (f i == v) from Bool.beq_comm, h]
      rfl
  · have hge := of_decide_eq_false hge
    obtain rfl : i = n := by omega
    show false = !noneTo _ i
    rw [hs]
    rfl
def differC := pcOf aStrS (fun x => [x.1.length ≤ x.2.1.length]) (fun x => .int .i64 (difN x.1 x.2.1 x.1.length : Nat))
theorem differ_ok : PcOk Tryz.prog 30 differC := by
  refine pcOf_run (fun _ => E0_ok) Tryz.func30 rfl (by kernel_rfl) (fun _ => trivial)
    (fun x => [.lp 3 Nat [6, 5] (fun i => [.int .i64 (i : Nat), .int .i64 (difN x.1 x.2.1 i : Nat)]) (fun i => i ≤ x.1.length) fun i => x.1.length - i, .draw 5 (.take 0 (.take 1 (.take 2 (.take 3 (.take 4 (.take 5 (.take 6 .fin))))))) []])
    (fun _ => Nat.le_of_ble_eq_true rfl) (fun ⟨a, b, ()⟩ hp hw => ?_)
  have ha : a.length ≤ 9223372036854775807 := hw _ (List.mem_cons_self ..)
  refine vc_of (q :=
      (∃ (x1 : Nat), (0 : Int) = (↑x1 : Int) ∧ (0 : Int) = (↑(difN a b x1) : Int) ∧ Nat.le x1 (List.length a)) ∧ ∀ (b1 : Nat), b1 ≤ List.length a → ∀ (v1 : Int), v1 = (↑(List.length a) : Int) → (decide ((↑b1 : Int) < v1) = true → (0 : Int) ≤ (↑b1 : Int) ∧ (↑b1 : Int) < (↑(List.length a) : Int) ∧ (0 : Int) ≤ (↑b1 : Int) ∧ (↑b1 : Int) < (↑(List.length b) : Int) ∧ (((↑(UInt8.toNat (List.getD a (Int.toNat
      (↑b1 : Int)) 0)) : Int) != (↑(UInt8.toNat (List.getD b (Int.toNat (↑b1 : Int)) 0)) : Int)) = true → ∀ (v2 : Int), v2 = IntKind.i64.wrap ((↑(difN a b b1) : Int) + (1 : Int)) → ∀ (v3 : Int), v3 = IntKind.i64.wrap ((↑b1 : Int) + (1 : Int)) → ∃ (x2 : Nat), v3 = (↑x2 : Int) ∧ v2 = (↑(difN a b x2) : Int) ∧ x2 ≤ List.length a ∧ List.length a - x2 < List.length a - b1) ∧ (((↑(UInt8.toNat (List.getD a
      (Int.toNat (↑b1 : Int)) 0)) : Int) != (↑(UInt8.toNat (List.getD b (Int.toNat (↑b1 : Int)) 0)) : Int)) = false → ∀ (v3 : Int), v3 = IntKind.i64.wrap ((↑b1 : Int) + (1 : Int)) → ∃ (x2 : Nat), v3 = (↑x2 : Int) ∧ (↑(difN a b b1) : Int) = (↑(difN a b x2) : Int) ∧ x2 ≤ List.length a ∧ List.length a - x2 < List.length a - b1)) ∧ (decide ((↑b1 : Int) < v1) = false → (↑(difN a b b1) : Int) = (↑(difN a b
      (List.length a)) : Int))) (by kernel_rfl) ?_
  try simp only [eq_self, true_and, and_true, Nat.le_refl, implies_true, forall_const, Bool.false_eq_true, Bool.true_eq_false, reduceCtorEq, false_imp_iff, true_imp_iff, Int.toNat_zero, Int.toNat_natCast, Nat.zero_lt_one, Int.le_refl, allGet]
  obtain ⟨p1, _⟩ := hp
  dsimp only at p1
  refine ⟨⟨0, rfl, rfl, Nat.zero_le _⟩, fun i hi v1 h1 => ?_⟩
  subst h1
  have hd := difN_le a b i
  refine ⟨fun hlt => ?_, fun hge => ?_⟩
  · have hlt := of_decide_eq_true hlt
    have hco : ∀ {x : Bool}, (((a.getD i 0).toNat : Int) != ((b.getD i 0).toNat : Int)) = x → (x = true → co a i ≠ co b i) ∧ (x = false → co a i = co b i) := fun {x} hx => by
      subst hx
      refine ⟨fun h e => ?_, fun h => ?_⟩
      · rw [show (((a.getD i 0).toNat : Nat) : Int) = ((co a i : Nat) : Int) from rfl, e] at h
        simp [co] at h
      · have : ((a.getD i 0).toNat : Int) = ((b.getD i 0).toNat : Int) := by simpa using h
        unfold co
        omega
    refine ⟨by omega, by omega, by omega, by omega, fun h v2 h2 v3 h3 => ⟨i + 1, h3.trans (l_succ (by omega)), ?_, by omega, by omega⟩, fun h v3 h3 => ⟨i + 1, h3.trans (l_succ (by omega)), ?_, by omega, by omega⟩⟩
    · rw [difN_succ, if_neg ((hco h).1 rfl), h2, w64_id (by omega) (by omega)]; omega
    · rw [difN_succ, if_pos ((hco h).2 rfl)]
  · have hge := of_decide_eq_false hge
    obtain rfl : i = a.length := by omega
    rfl
noncomputable def ERA : Env := ((EBD.addP 27 eval).addP 31 enc)
theorem ERA_ok : EnvOk Tryz.prog ERA := ((EBD_ok.addP evalR_ok).addP encR_ok)
noncomputable def wholeC := pcOf aStr (fun x => [9 ≤ x.1.length, x.1.length ≤ 231]) (fun x => .bool (encL (x.1.take (x.1.length - 8)) == x.1))
theorem whole_ok : PcOk Tryz.prog 55 wholeC := by
  refine pcOf_run (fun _ => ERA_ok) Tryz.func55 rfl (by kernel_rfl) (fun _ => trivial)
    (fun x => []) (fun _ => Nat.le_of_ble_eq_true rfl) (fun ⟨b, ()⟩ hp hw => ?_)
  refine vc_of (q :=
      ∀ (v1 : Int), v1 = (↑(List.length b) : Int) → ∀ (v2 : Int), v2 = (↑(List.length b) : Int) → ∀ (t1 : Bool), (t1 = if decide (v1 ≤ (8 : Int)) = true then true else decide (v2 > (231 : Int))) → (t1 = true → false = (encL (List.take (List.length b - 8) b) == b)) ∧ (t1 = false → ∀ (v3 : Int), v3 = (↑(List.length b) : Int) → ∀ (v4 : Int), v4 = IntKind.i64.wrap (v3 - (8 : Int)) → 0 ≤ v4 ∧ v4 ≤
      (↑(List.length b) : Int) ∧ (0 : Int) ≤ (0 : Int) ∧ 0 ≤ v4 ∧ ∀ (s1 : List UInt8), s1 = encL (List.drop (Int.toNat (0 : Int)) (List.take (Int.toNat v4) b)) → ∀ (v5 : Int), v5 = encE (List.drop (Int.toNat (0 : Int)) (List.take (Int.toNat v4) b)) → (s1 == b) = (encL (List.take (List.length b - 8) b) == b))) (by kernel_rfl) ?_
  try simp only [eq_self, true_and, and_true, Nat.le_refl, implies_true, forall_const, Bool.false_eq_true, Bool.true_eq_false, reduceCtorEq, false_imp_iff, true_imp_iff, Int.toNat_zero, Int.toNat_natCast, Nat.zero_lt_one, Int.le_refl, allGet]
  obtain ⟨p1, p2, _⟩ := hp
  dsimp only at p1 p2
  intro v1 h1 v2 h2 t1 ht1
  have f1 : t1 = false := by
    rw [ht1, if_neg (by rw [decide_eq_false (by omega)]; decide)]
    exact decide_eq_false (by omega)
  refine ⟨fun h => (by rw [f1] at h; cases h), fun _ v3 h3 v4 h4 => ?_⟩
  have e4 : v4 = ((b.length - 8 : Nat) : Int) := by rw [h4, h3, w64_id (by omega) (by omega)]; omega
  refine ⟨by omega, by omega, by omega, fun s1 hs1 v5 _ => ?_⟩
  rw [hs1, e4]
  rfl
end Galois
