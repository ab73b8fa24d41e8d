/-
  OWN WORK. Galois: the laws on quotients and on zeros at the end: the walks.
-/
import Derived.Test.YtpmahmcjejobpaaDoorG9
import Derived.Test.YtpmahmcjejobpaaDoorGD
namespace Galois
open Go Go.Proofs Eng
set_option linter.unusedVariables false
set_option linter.unusedSimpArgs false
set_option maxHeartbeats 4000000
set_option maxRecDepth 100000

theorem sumL_len (p q : List UInt8) : (sumL p q).length ≤ max p.length q.length := by
  unfold sumL
  rw [trimL_len]
  have := tlen_le (ofN (fun k => Nat.xor (co p k) (co q k)) (max p.length q.length))
  rwa [ofN_len] at this
theorem tlen_ofN (F : Nat → Nat) (n : Nat) : tlen (ofN F n) ≤ n := by
  have := tlen_le (ofN F n)
  rwa [ofN_len] at this
theorem prodL_len (p q : List UInt8) : (prodL p q).length ≤ tlen p + tlen q := by
  unfold prodL
  split
  · exact Nat.zero_le _
  · rw [trimL_len]; exact tlen_ofN _ _
theorem derL_len (p : List UInt8) : (derL p).length ≤ p.length - 1 := by
  unfold derL
  rw [trimL_len]; exact tlen_ofN _ _
theorem quoL_len (p q : List UInt8) : (quoL p q).length ≤ tlen p ∧ (resL p q).length ≤ tlen p := by
  unfold quoL resL
  split
  · exact ⟨Nat.zero_le _, Nat.zero_le _⟩
  · rw [trimL_len, trimL_len]; exact ⟨tlen_ofN _ _, tlen_ofN _ _⟩
theorem dvd_walk : ∀ (x : List UInt8 × List UInt8 × Int × Unit) (hR : PolIn x) (hw : ∀ v ∈ aPol.svs 0 x, v.wf), exCode EL Tryd.f7.ntmps [] (match Tryd.f7.body with | some c => c | none => .skip) (argFr 0 (aPol.svs 0 x)) (aPol.hp 0 x) aPol.tags (atEnd EL Tryd.f7.results.toList fun r _ _ => eqv r (.bool true)) := by
  refine fun ⟨p, q, x, ()⟩ hR hw => ?_
  refine vc_of (q :=
      ∀ (v1 : Int), v1 = (↑(List.length p) : Int) → ∀ (v2 : Int), v2 = (↑(List.length q) : Int) → ∀ (t1 : Bool), (t1 = if Decidable.decide (v1 > (400 : Int)) = Bool.true then Bool.true else Decidable.decide (v2 > (400 : Int))) → (t1 = Bool.true → ∀ (x'1 : Unit), x'1 = () → ∀ (y1 : Unit), True → ∀ (t2 : Bool), t2 = Bool.true → t2 = Bool.true) ∧ (t1 = Bool.false → List.length p ≤ (3000 : Nat) ∧ List.length
      q ≤ (3000 : Nat) ∧ ∀ (s1 : List UInt8), s1 = Galois.sumL p q → ∀ (x'2 : List UInt8 × List UInt8 × Unit), x'2 = (p, q, ()) → List.length (Prod.fst x'2) ≤ (3000 : Nat) ∧ List.length (Prod.fst (Prod.snd x'2)) ≤ (3000 : Nat) ∧ ∀ (y1 : Unit), True → ∀ (s2 : List UInt8), s2 = Galois.prodL (Prod.fst x'2) (Prod.fst (Prod.snd x'2)) → ∀ (v3 : Int), (v3 = if Galois.prodB (Prod.fst x'2) (Prod.fst (Prod.snd
      x'2)) = Bool.true then (3 : Int) else (0 : Int)) → ((v3 != (0 : Int)) = Bool.false → (0 : Int) ≤ x ∧ x ≤ (255 : Int)) ∧ ∀ (v4 : Int), v4 = (↑(Galois.evalF s1 (Int.toNat x)) : Int) → ((v3 != (0 : Int)) = Bool.false → (0 : Int) ≤ x ∧ x ≤ (255 : Int)) ∧ ∀ (v5 : Int), v5 = (↑(Galois.evalF p (Int.toNat x)) : Int) → ((v3 != (0 : Int)) = Bool.false → (0 : Int) ≤ x ∧ x ≤ (255 : Int)) ∧ ∀ (v6 : Int), v6 =
      (↑(Galois.evalF q (Int.toNat x)) : Int) → ∀ (v7 : Int), v7 = Go.IntKind.wrap Go.IntKind.u8 (↑(BitVec.toNat (BitVec.ofInt (Go.IntKind.bits Go.IntKind.u8) v5 ^^^ BitVec.ofInt (Go.IntKind.bits Go.IntKind.u8) v6)) : Int) → ∀ (t2 : Bool), (t2 = if (v3 != (0 : Int)) = Bool.true then Bool.true else v4 != v7) → (t2 = Bool.false → (0 : Int) ≤ x ∧ x ≤ (255 : Int)) ∧ ∀ (v8 : Int), v8 = (↑(Galois.evalF s2
      (Int.toNat x)) : Int) → (t2 = Bool.false → (0 : Int) ≤ x ∧ x ≤ (255 : Int)) ∧ ∀ (v9 : Int), v9 = (↑(Galois.evalF p (Int.toNat x)) : Int) → (t2 = Bool.false → (0 : Int) ≤ x ∧ x ≤ (255 : Int)) ∧ ∀ (v10 : Int), v10 = (↑(Galois.evalF q (Int.toNat x)) : Int) → (t2 = Bool.false → (0 : Int) ≤ v9 ∧ v9 ≤ (255 : Int)) ∧ (t2 = Bool.false → (0 : Int) ≤ v10 ∧ v10 ≤ (255 : Int)) ∧ ∀ (v11 : Int), v11 =
      Galois.mulI v9 v10 → ∀ (t3 : Bool), (t3 = if t2 = Bool.true then Bool.true else v8 != v11) → (t3 = Bool.true → Bool.false = Bool.true) ∧ (t3 = Bool.false → List.length p ≤ (5000 : Nat) ∧ ∀ (s3 : List UInt8), s3 = Galois.derL p → ∀ (x'3 : List UInt8 × List UInt8 × Unit), x'3 = (s3, q, ()) → List.length (Prod.fst x'3) ≤ (3000 : Nat) ∧ List.length (Prod.fst (Prod.snd x'3)) ≤ (3000 : Nat) ∧ ∀ (y2 :
      Unit), True → ∀ (s4 : List UInt8), s4 = Galois.prodL (Prod.fst x'3) (Prod.fst (Prod.snd x'3)) → ∀ (v12 : Int), (v12 = if Galois.prodB (Prod.fst x'3) (Prod.fst (Prod.snd x'3)) = Bool.true then (3 : Int) else (0 : Int)) → List.length q ≤ (5000 : Nat) ∧ ∀ (s5 : List UInt8), s5 = Galois.derL q → ∀ (x'4 : List UInt8 × List UInt8 × Unit), x'4 = (p, s5, ()) → List.length (Prod.fst x'4) ≤ (3000 : Nat) ∧
      List.length (Prod.fst (Prod.snd x'4)) ≤ (3000 : Nat) ∧ ∀ (y3 : Unit), True → ∀ (s6 : List UInt8), s6 = Galois.prodL (Prod.fst x'4) (Prod.fst (Prod.snd x'4)) → ∀ (v13 : Int), (v13 = if Galois.prodB (Prod.fst x'4) (Prod.fst (Prod.snd x'4)) = Bool.true then (3 : Int) else (0 : Int)) → ∀ (t4 : Bool), (t4 = if (v12 != (0 : Int)) = Bool.true then Bool.true else v13 != (0 : Int)) → (t4 = Bool.false →
      List.length s2 ≤ (5000 : Nat)) ∧ ∀ (s7 : List UInt8), s7 = Galois.derL s2 → (t4 = Bool.false → List.length s4 ≤ (3000 : Nat)) ∧ (t4 = Bool.false → List.length s6 ≤ (3000 : Nat)) ∧ ∀ (s8 : List UInt8), s8 = Galois.sumL s4 s6 → ∀ (t5 : Bool), (t5 = if t4 = Bool.true then Bool.true else !s7 == s8) → (t5 = Bool.true → Bool.false = Bool.true) ∧ (t5 = Bool.false → ∀ (x'5 : List UInt8 × List UInt8 ×
      Unit), x'5 = (p, q, ()) → List.length (Prod.fst x'5) ≤ (3000 : Nat) ∧ List.length (Prod.fst (Prod.snd x'5)) ≤ (3000 : Nat) ∧ ∀ (y4 : Unit), True → ∀ (s9 : List UInt8), s9 = Galois.quoL (Prod.fst x'5) (Prod.fst (Prod.snd x'5)) → ∀ (s10 : List UInt8), s10 = Galois.resL (Prod.fst x'5) (Prod.fst (Prod.snd x'5)) → ∀ (v14 : Int), (v14 = if Galois.tlen (Prod.fst (Prod.snd x'5)) = (0 : Nat) then (2 : Int)
      else (0 : Int)) → ∀ (v15 : Int), v15 = (↑(Galois.tlen q) : Int) - (1 : Int) → (Decidable.decide (v15 < (0 : Int)) = Bool.true → ((v14 == (2 : Int)) = Bool.true → ∀ (x'6 : Unit), x'6 = () → ∀ (y5 : Unit), True → ∀ (t6 : Bool), t6 = Bool.true → ∀ (t7 : Bool), (t7 = if (v14 == (2 : Int)) = Bool.true then t6 else Bool.false) → t7 = Bool.true) ∧ (((v14 == (2 : Int)) = Bool.true → False) → ∀ (t6 : Bool),
      (t6 = if (v14 == (2 : Int)) = Bool.true then Bool.false else Bool.false) → t6 = Bool.true)) ∧ (Decidable.decide (v15 < (0 : Int)) = Bool.false → ∀ (x'7 : List UInt8 × List UInt8 × Unit), x'7 = (s9, q, ()) → List.length (Prod.fst x'7) ≤ (3000 : Nat) ∧ List.length (Prod.fst (Prod.snd x'7)) ≤ (3000 : Nat) ∧ ∀ (y5 : Unit), True → ∀ (s11 : List UInt8), s11 = Galois.prodL (Prod.fst x'7) (Prod.fst
      (Prod.snd x'7)) → ∀ (v16 : Int), (v16 = if Galois.prodB (Prod.fst x'7) (Prod.fst (Prod.snd x'7)) = Bool.true then (3 : Int) else (0 : Int)) → ∀ (t7 : Bool), (t7 = if (v14 == (0 : Int)) = Bool.true then v16 == (0 : Int) else Bool.false) → (t7 = Bool.true → List.length s11 ≤ (3000 : Nat)) ∧ (t7 = Bool.true → List.length s10 ≤ (3000 : Nat)) ∧ ∀ (s12 : List UInt8), s12 = Galois.sumL s11 s10 → (t7 =
      Bool.true → List.length p ≤ (3000 : Nat)) ∧ (t7 = Bool.true → List.length ([] : List UInt8) ≤ (3000 : Nat)) ∧ ∀ (s13 : List UInt8), s13 = Galois.sumL p [] → ∀ (t8 : Bool), (t8 = if t7 = Bool.true then s12 == s13 else Bool.false) → ∀ (v17 : Int), v17 = (↑(Galois.tlen s10) : Int) - (1 : Int) → ∀ (v18 : Int), v18 = (↑(Galois.tlen q) : Int) - (1 : Int) → ∀ (t9 : Bool), (t9 = if t8 = Bool.true then
      Decidable.decide (v17 < v18) else Bool.false) → (t9 = Bool.true → ∀ (x'8 : Unit), x'8 = () → ∀ (y6 : Unit), True → ∀ (t10 : Bool), t10 = Bool.true → ∀ (t11 : Bool), (t11 = if t9 = Bool.true then t10 else Bool.false) → t11 = Bool.true) ∧ ((t9 = Bool.true → False) → ∀ (t10 : Bool), (t10 = if t9 = Bool.true then Bool.false else Bool.false) → t10 = Bool.true)))))) (by kernel_rfl) ?_
  try simp only [eq_self, true_and, and_true, Nat.le_refl, implies_true, forall_const, Bool.false_eq_true, Bool.true_eq_false, reduceCtorEq, false_imp_iff, true_imp_iff, Int.toNat_zero, Int.toNat_natCast, Nat.zero_lt_one, Int.le_refl, allGet]
  obtain ⟨_, _, rx, _⟩ := hR
  replace rx := u8_in rx
  dsimp only at rx
  have hx : x.toNat < 256 := by omega
  intro v1 h1 v2 h2 t1 ht1
  refine ⟨fun _ t2 h => h, fun ht => ?_⟩
  have hlen : p.length ≤ 400 ∧ q.length ≤ 400 := by
    rw [ht] at ht1
    subst h1 h2
    by_cases h : (p.length : Int) > 400
    · rw [if_pos (decide_eq_true h)] at ht1; cases ht1
    · rw [if_neg (by simpa using h)] at ht1
      have := of_decide_eq_false ht1.symm
      omega
  obtain ⟨hp, hq⟩ := hlen
  have tp := tlen_le p
  have tq := tlen_le q
  have dp := derL_len p
  have dq := derL_len q
  have tdp := tlen_le (derL p)
  have tdq := tlen_le (derL q)
  have b0 : prodB p q = false := prodB_of (by omega)
  have b1 : prodB (derL p) q = false := prodB_of (by omega)
  have b2 : prodB p (derL q) = false := prodB_of (by omega)
  have pl := prodL_len p q
  have pl1 := prodL_len (derL p) q
  have pl2 := prodL_len p (derL q)
  refine ⟨by omega, by omega, fun s1 hs1 x2 hx2 => ?_⟩
  subst hx2
  refine ⟨by show p.length ≤ _; omega, by show q.length ≤ _; omega, fun s2 hs2 v3 h3 => ?_⟩
  dsimp only at hs2 h3
  rw [b0] at h3
  have e3 : v3 = 0 := h3
  subst e3
  have le := fun r : List UInt8 => evA_lt r x.toNat r.length
  have le' : ∀ r : List UInt8, evalF r x.toNat < 256 := fun r => evA_lt r x.toNat r.length
  refine ⟨fun _ => rx, fun v4 h4 => ⟨fun _ => rx, fun v5 h5 => ⟨fun _ => rx, fun v6 h6 v7 h7 t2 ht2 => ?_⟩⟩⟩
  have e4 : v4 = v7 := by
    rw [h7, h4, hs1, h5, h6, eval_sum hx]
    exact (xor8 (le' p) (le' q)).symm
  have et2 : t2 = false := by rw [ht2, e4]; simp
  refine ⟨fun _ => rx, fun v8 h8 => ⟨fun _ => rx, fun v9 h9 => ⟨fun _ => rx, fun v10 h10 => ⟨fun _ => ?_, fun _ => ?_, fun v11 h11 t3 ht3 => ?_⟩⟩⟩⟩
  · have := le' p; omega
  · have := le' q; omega
  have e8 : v8 = v11 := by
    rw [h11, h9, h10, h8, hs2, eval_prod hx b0]
    rfl
  have et3 : t3 = false := by rw [ht3, et2, e8]; simp
  refine ⟨fun h => (by rw [et3] at h; cases h), fun _ => ⟨by omega, fun s3 hs3 x3 hx3 => ?_⟩⟩
  subst hs3 hx3
  refine ⟨by show (derL p).length ≤ _; omega, by show q.length ≤ _; omega, fun s4 hs4 v12 h12 => ⟨by omega, fun s5 hs5 x4 hx4 => ?_⟩⟩
  dsimp only at hs4 h12
  rw [b1] at h12
  have e12 : v12 = 0 := h12
  subst hs5 hx4
  refine ⟨by show p.length ≤ _; omega, by show (derL q).length ≤ _; omega, fun s6 hs6 v13 h13 t4 ht4 => ?_⟩
  dsimp only at hs6 h13
  rw [b2] at h13
  have e13 : v13 = 0 := h13
  have et4 : t4 = false := by rw [ht4, e12, e13]; rfl
  refine ⟨fun _ => by rw [hs2]; omega, fun s7 hs7 => ⟨fun _ => by rw [hs4]; omega, fun _ => by rw [hs6]; omega, fun s8 hs8 t5 ht5 => ?_⟩⟩
  have e7 : s7 = s8 := by rw [hs7, hs8, hs2, hs4, hs6, der_prod b0 b1 b2]
  have et5 : t5 = false := by rw [ht5, et4, e7]; simp
  refine ⟨fun h => (by rw [et5] at h; cases h), fun _ x5 hx5 => ?_⟩
  subst hx5
  refine ⟨by show p.length ≤ _; omega, by show q.length ≤ _; omega, fun s9 hs9 s10 hs10 v14 h14 v15 h15 => ⟨fun hc => ?_, fun hc x7 hx7 => ?_⟩⟩
  · have hc := of_decide_eq_true hc
    have hq0 : tlen q = 0 := by omega
    have e14 : v14 = 2 := by rw [h14]; exact if_pos hq0
    subst e14
    simp
  · have hc := of_decide_eq_false hc
    have hq0 : tlen q ≠ 0 := by omega
    have e14 : v14 = 0 := by rw [h14]; exact if_neg hq0
    dsimp only at hs9 hs10
    obtain ⟨ql, rl⟩ := quoL_len p q
    obtain ⟨f1, f2⟩ := quot_facts (p := p) hq0
    have tql := tlen_le (quoL p q)
    have b3 : prodB (quoL p q) q = false := prodB_of (by omega)
    have pl3 := prodL_len (quoL p q) q
    subst hs9 hs10 hx7
    refine ⟨by show (quoL p q).length ≤ _; omega, by show q.length ≤ _; omega, fun s11 hs11 v16 h16 t7 ht7 => ?_⟩
    dsimp only at hs11 h16
    rw [b3] at h16
    have e16 : v16 = 0 := h16
    refine ⟨fun _ => by rw [hs11]; omega, fun _ => by omega, fun s12 hs12 => ⟨fun _ => by omega, fun _ => Nat.zero_le _, fun s13 hs13 t8 ht8 v17 h17 v18 h18 t9 ht9 => ?_⟩⟩
    have e12' : s12 = s13 := by
      rw [hs12, hs13, hs11]
      refine sum_canon fun k => ?_
      rw [co_prod b3, ← f1 k, co_over (p := []) (Nat.zero_le _), xor0]
    have et9 : t9 = true := by
      rw [ht9, ht8, ht7, e14, e16, e12']
      simp
      omega
    subst et9
    simp
theorem tlen_congr {a p : List UInt8} (h : ∀ k, co a k = co p k) : tlen a = tlen p := by
  have e : co a = co p := funext h
  rw [tlen_eq, tlen_eq, e]
  have h1 := tl_more (G := co p) p.length (max a.length p.length) (by omega) fun k h1 _ => co_over h1
  have h2 := tl_more (G := co p) a.length (max a.length p.length) (by omega) fun k h1 _ => by rw [← e]; exact co_over h1
  rw [← h1, ← h2]
theorem prodL_congr {a b p q : List UInt8} (h : ∀ k, co a k = co p k) (h' : ∀ k, co b k = co q k) : prodB a b = prodB p q ∧ prodL a b = prodL p q := by
  have e : prodB a b = prodB p q := by unfold prodB; rw [tlen_congr h, tlen_congr h']
  refine ⟨e, ?_⟩
  unfold prodL
  rw [e, tlen_congr h, tlen_congr h', prodF_congr h h']
theorem qst_congr {a b p q : List UInt8} (h : ∀ k, co a k = co p k) (h' : ∀ k, co b k = co q k) (L : Nat) : ∀ t, qst a b L t = qst p q L t
  | 0 => by
    show (co a, fun _ => 0) = (co p, fun _ => 0)
    rw [funext h]
  | t + 1 => by
    show qstep b _ _ = qstep q _ _
    rw [qst_congr h h' L t]
    have hs : ∀ F at' c, spr F b at' c = spr F q at' c := fun F at' c => by funext k; unfold spr; rw [h']
    unfold qstep qc
    rw [tlen_congr h', h', hs]
theorem quoL_congr {a b p q : List UInt8} (h : ∀ k, co a k = co p k) (h' : ∀ k, co b k = co q k) : quoL a b = quoL p q ∧ resL a b = resL p q := by
  unfold quoL resL qfin
  rw [tlen_congr h, tlen_congr h', qst_congr h h']
  exact ⟨rfl, rfl⟩
theorem derL_congr {a p : List UInt8} (h : ∀ k, co a k = co p k) : derL a = derL p := by
  unfold derL
  refine canon (derN_lt a) (fun k => ?_) (fun k hk => derN_over (by omega)) fun k hk => derN_over (by omega)
  unfold derN
  rw [h]
theorem co_zeros (p : List UInt8) (n k : Nat) : co (p ++ Byt.of (fun _ => 0) n) k = co p k := by
  unfold co Byt.of
  by_cases h : k < p.length
  · simp [List.getD, List.getElem?_append, h]
  · have h2 : p[k]? = none := List.getElem?_eq_none (by omega)
    by_cases h3 : k - p.length < n
    · simp [List.getD, List.getElem?_append, h, h2, h3]
    · simp [List.getD, List.getElem?_append, h, h2, h3]
theorem u16_in {x : Int} (h : inKind .u16 x) : 0 ≤ x ∧ x ≤ 65535 := by
  have h' : (decide _ && decide _) = true := h
  simpa [IntKind.min, IntKind.max, IntKind.bits, IntKind.signed] using h'
abbrev aTrm : ArgL (List UInt8 × List UInt8 × Int × Unit) := .cons (.elt .str) (.cons (.elt .str) (.cons (.elt (.int .u16)) .nil))
abbrev TrmIn (x : List UInt8 × List UInt8 × Int × Unit) : Prop := x.1.length ≤ 140737488351232 ∧ x.2.1.length ≤ 140737488351232 ∧ inKind .u16 x.2.2.1 ∧ True
theorem trm_walk : ∀ (x : List UInt8 × List UInt8 × Int × Unit) (hR : TrmIn x) (hw : ∀ v ∈ aTrm.svs 0 x, v.wf), exCode EL Tryd.f8.ntmps [.draw 3 (.take 0 (.take 1 (.take 2 (.take 6 (.take 7 (.take 8 (.take 9 (.br 3 (.br 4 (.take 5 (.take 13 (.br 10 (.br 11 (.take 12 (.take 14 .fin)) .stop) .stop))) (.br 10 (.br 4 (.take 5 (.take 13 (.br 11 (.take 12 (.take 14 .fin)) .stop))) (.br 11 (.take 12 (.br 4 (.take 5 (.take 13 (.take 14 .fin))) .stop)) .stop)) .stop)) (.br 10 (.br 3 (.br 4 (.take 5 (.take 13 (.br 11 (.take 12 (.take 14 .fin)) .stop))) (.br 11 (.take 12 (.br 4 (.take 5 (.take 13 (.take 14 .fin))) .stop)) .stop)) (.br 11 (.take 12 (.br 3 (.br 4 (.take 5 (.take 13 (.take 14 .fin))) .stop) .stop)) .stop)) .stop))))))))) [], .join ⟨4, List UInt8 × List UInt8, [7, 8], fun y => [.str y.1, .str y.2], [], fun _ => [], fun y => ((∀ k, co y.1 k = co x.1 k) ∧ y.1.length ≤ 500) ∧ (∀ k, co y.2 k = co x.2.1 k) ∧ y.2.length ≤ 500 ∧ x.1.length ≤ 400 ∧ x.2.1.length ≤ 400, fun _ => 0⟩ 100] (match Tryd.f8.body with | some c => c | none => .skip) (argFr 0 (aTrm.svs 0 x)) (aTrm.hp 0 x) aTrm.tags (atEnd EL Tryd.f8.results.toList fun r _ _ => eqv r (.bool true)) := by
  refine fun ⟨p, q, n, ()⟩ hR hw => ?_
  refine vc_of (q :=
      ∀ (v1 : Int), v1 = (↑(List.length p) : Int) → ∀ (v2 : Int), v2 = (↑(List.length q) : Int) → ∀ (t1 : Bool), (t1 = if Decidable.decide (v1 > (400 : Int)) = Bool.true then Bool.true else Decidable.decide (v2 > (400 : Int))) → (t1 = Bool.true → ∀ (x'1 : Unit), x'1 = () → ∀ (y1 : Unit), True → ∀ (t2 : Bool), t2 = Bool.true → t2 = Bool.true) ∧ (t1 = Bool.false → ((100 : Int) ≠ (0 : Int) ∧ ∀ (v3 : Int),
      v3 = Int.tmod n (100 : Int) → (100 : Int) ≠ (0 : Int) ∧ ∀ (v4 : Int), v4 = Go.IntKind.wrap Go.IntKind.u16 (Int.tdiv n (100 : Int)) → (100 : Int) ≠ (0 : Int) ∧ ∀ (v5 : Int), v5 = Int.tmod v4 (100 : Int) → ((0 : Int) ≤ v3 ∧ v3 ≤ v3 ∧ v3 * (↑(1 : Nat) : Int) ≤ (140737488355328 : Int) ∧ v3 ≤ (9223372036854775807 : Int) ∧ ∀ (b1 : Nat), (Int.toNat v3 ≤ Int.toNat v3 ∧ (∀ (k1 : Nat), k1 < Int.toNat v3 →
      Bool.true = Bool.true) ∧ (b1 = b1 ∧ (0 : Nat) = (0 : Nat)) ∧ ∀ (s1 : List UInt8), s1 = Byt.of (fun (k : Nat) ↦ (0 : Int)) (Int.toNat v3) → List.length p + List.length s1 ≤ (9223372036854775807 : Nat) ∧ ∀ (s2 : List UInt8), s2 = p ++ s1 → ((0 : Int) ≤ v5 ∧ v5 ≤ v5 ∧ v5 * (↑(1 : Nat) : Int) ≤ (140737488355328 : Int) ∧ v5 ≤ (9223372036854775807 : Int) ∧ ∀ (b2 : Nat), (Int.toNat v5 ≤ Int.toNat v5 ∧ (∀
      (k2 : Nat), k2 < Int.toNat v5 → Bool.true = Bool.true) ∧ (b2 = b2 ∧ (0 : Nat) = (0 : Nat)) ∧ ∀ (s3 : List UInt8), s3 = Byt.of (fun (k : Nat) ↦ (0 : Int)) (Int.toNat v5) → List.length q + List.length s3 ≤ (9223372036854775807 : Nat) ∧ ∀ (s4 : List UInt8), s4 = q ++ s3 → ∃ (x1 : List UInt8 × List UInt8), s2 = Prod.fst x1 ∧ s4 = Prod.snd x1 ∧ ((∀ (k3 : Nat), Galois.co (Prod.fst x1) k3 = Galois.co p
      k3) ∧ List.length (Prod.fst x1) ≤ (500 : Nat)) ∧ (∀ (k4 : Nat), Galois.co (Prod.snd x1) k4 = Galois.co q k4) ∧ List.length (Prod.snd x1) ≤ (500 : Nat) ∧ List.length p ≤ (400 : Nat) ∧ List.length q ≤ (400 : Nat)) ∧ True) ∧ True) ∧ ((0 : Int) ≤ v5 ∧ v5 ≤ v5 ∧ v5 * (↑(1 : Nat) : Int) ≤ (140737488355328 : Int) ∧ v5 ≤ (9223372036854775807 : Int) ∧ ∀ (b2 : Nat), (Int.toNat v3 ≤ Int.toNat v3 ∧ (∀ (k2 :
      Nat), k2 < Int.toNat v3 → Bool.true = Bool.true) ∧ (b1 = b1 ∧ (0 : Nat) = (0 : Nat)) ∧ ∀ (s2 : List UInt8), s2 = Byt.of (fun (k : Nat) ↦ (0 : Int)) (Int.toNat v3) → List.length p + List.length s2 ≤ (9223372036854775807 : Nat) ∧ ∀ (s3 : List UInt8), s3 = p ++ s2 → (Int.toNat v5 ≤ Int.toNat v5 ∧ (∀ (k3 : Nat), k3 < Int.toNat v5 → Bool.true = Bool.true) ∧ (b2 = b2 ∧ (0 : Nat) = (0 : Nat)) ∧ ∀ (s4 :
      List UInt8), s4 = Byt.of (fun (k : Nat) ↦ (0 : Int)) (Int.toNat v5) → List.length q + List.length s4 ≤ (9223372036854775807 : Nat) ∧ ∀ (s5 : List UInt8), s5 = q ++ s4 → ∃ (x1 : List UInt8 × List UInt8), s3 = Prod.fst x1 ∧ s5 = Prod.snd x1 ∧ ((∀ (k4 : Nat), Galois.co (Prod.fst x1) k4 = Galois.co p k4) ∧ List.length (Prod.fst x1) ≤ (500 : Nat)) ∧ (∀ (k5 : Nat), Galois.co (Prod.snd x1) k5 = Galois.co
      q k5) ∧ List.length (Prod.snd x1) ≤ (500 : Nat) ∧ List.length p ≤ (400 : Nat) ∧ List.length q ≤ (400 : Nat)) ∧ True) ∧ (Int.toNat v5 ≤ Int.toNat v5 ∧ (∀ (k3 : Nat), k3 < Int.toNat v5 → Bool.true = Bool.true) ∧ (b2 = b2 ∧ (0 : Nat) = (0 : Nat)) ∧ ∀ (s3 : List UInt8), s3 = Byt.of (fun (k : Nat) ↦ (0 : Int)) (Int.toNat v5) → List.length q + List.length s3 ≤ (9223372036854775807 : Nat) ∧ ∀ (s4 : List
      UInt8), s4 = q ++ s3 → (Int.toNat v3 ≤ Int.toNat v3 ∧ (∀ (k4 : Nat), k4 < Int.toNat v3 → Bool.true = Bool.true) ∧ (b1 = b1 ∧ (0 : Nat) = (0 : Nat)) ∧ ∀ (s5 : List UInt8), s5 = Byt.of (fun (k : Nat) ↦ (0 : Int)) (Int.toNat v3) → List.length p + List.length s5 ≤ (9223372036854775807 : Nat) ∧ ∀ (s6 : List UInt8), s6 = p ++ s5 → ∃ (x1 : List UInt8 × List UInt8), s6 = Prod.fst x1 ∧ s4 = Prod.snd x1 ∧
      ((∀ (k5 : Nat), Galois.co (Prod.fst x1) k5 = Galois.co p k5) ∧ List.length (Prod.fst x1) ≤ (500 : Nat)) ∧ (∀ (k6 : Nat), Galois.co (Prod.snd x1) k6 = Galois.co q k6) ∧ List.length (Prod.snd x1) ≤ (500 : Nat) ∧ List.length p ≤ (400 : Nat) ∧ List.length q ≤ (400 : Nat)) ∧ True) ∧ True) ∧ True) ∧ ((0 : Int) ≤ v5 ∧ v5 ≤ v5 ∧ v5 * (↑(1 : Nat) : Int) ≤ (140737488355328 : Int) ∧ v5 ≤ (9223372036854775807
      : Int) ∧ ∀ (b2 : Nat), ((0 : Int) ≤ v3 ∧ v3 ≤ v3 ∧ v3 * (↑(1 : Nat) : Int) ≤ (140737488355328 : Int) ∧ v3 ≤ (9223372036854775807 : Int) ∧ ∀ (b3 : Nat), (Int.toNat v3 ≤ Int.toNat v3 ∧ (∀ (k1 : Nat), k1 < Int.toNat v3 → Bool.true = Bool.true) ∧ (b3 = b3 ∧ (0 : Nat) = (0 : Nat)) ∧ ∀ (s1 : List UInt8), s1 = Byt.of (fun (k : Nat) ↦ (0 : Int)) (Int.toNat v3) → List.length p + List.length s1 ≤
      (9223372036854775807 : Nat) ∧ ∀ (s2 : List UInt8), s2 = p ++ s1 → (Int.toNat v5 ≤ Int.toNat v5 ∧ (∀ (k2 : Nat), k2 < Int.toNat v5 → Bool.true = Bool.true) ∧ (b2 = b2 ∧ (0 : Nat) = (0 : Nat)) ∧ ∀ (s3 : List UInt8), s3 = Byt.of (fun (k : Nat) ↦ (0 : Int)) (Int.toNat v5) → List.length q + List.length s3 ≤ (9223372036854775807 : Nat) ∧ ∀ (s4 : List UInt8), s4 = q ++ s3 → ∃ (x1 : List UInt8 × List
      UInt8), s2 = Prod.fst x1 ∧ s4 = Prod.snd x1 ∧ ((∀ (k3 : Nat), Galois.co (Prod.fst x1) k3 = Galois.co p k3) ∧ List.length (Prod.fst x1) ≤ (500 : Nat)) ∧ (∀ (k4 : Nat), Galois.co (Prod.snd x1) k4 = Galois.co q k4) ∧ List.length (Prod.snd x1) ≤ (500 : Nat) ∧ List.length p ≤ (400 : Nat) ∧ List.length q ≤ (400 : Nat)) ∧ True) ∧ (Int.toNat v5 ≤ Int.toNat v5 ∧ (∀ (k2 : Nat), k2 < Int.toNat v5 → Bool.true
      = Bool.true) ∧ (b2 = b2 ∧ (0 : Nat) = (0 : Nat)) ∧ ∀ (s2 : List UInt8), s2 = Byt.of (fun (k : Nat) ↦ (0 : Int)) (Int.toNat v5) → List.length q + List.length s2 ≤ (9223372036854775807 : Nat) ∧ ∀ (s3 : List UInt8), s3 = q ++ s2 → (Int.toNat v3 ≤ Int.toNat v3 ∧ (∀ (k3 : Nat), k3 < Int.toNat v3 → Bool.true = Bool.true) ∧ (b3 = b3 ∧ (0 : Nat) = (0 : Nat)) ∧ ∀ (s4 : List UInt8), s4 = Byt.of (fun (k :
      Nat) ↦ (0 : Int)) (Int.toNat v3) → List.length p + List.length s4 ≤ (9223372036854775807 : Nat) ∧ ∀ (s5 : List UInt8), s5 = p ++ s4 → ∃ (x1 : List UInt8 × List UInt8), s5 = Prod.fst x1 ∧ s3 = Prod.snd x1 ∧ ((∀ (k4 : Nat), Galois.co (Prod.fst x1) k4 = Galois.co p k4) ∧ List.length (Prod.fst x1) ≤ (500 : Nat)) ∧ (∀ (k5 : Nat), Galois.co (Prod.snd x1) k5 = Galois.co q k5) ∧ List.length (Prod.snd x1) ≤
      (500 : Nat) ∧ List.length p ≤ (400 : Nat) ∧ List.length q ≤ (400 : Nat)) ∧ True) ∧ True) ∧ (Int.toNat v5 ≤ Int.toNat v5 ∧ (∀ (k1 : Nat), k1 < Int.toNat v5 → Bool.true = Bool.true) ∧ (b2 = b2 ∧ (0 : Nat) = (0 : Nat)) ∧ ∀ (s1 : List UInt8), s1 = Byt.of (fun (k : Nat) ↦ (0 : Int)) (Int.toNat v5) → List.length q + List.length s1 ≤ (9223372036854775807 : Nat) ∧ ∀ (s2 : List UInt8), s2 = q ++ s1 → ((0 :
      Int) ≤ v3 ∧ v3 ≤ v3 ∧ v3 * (↑(1 : Nat) : Int) ≤ (140737488355328 : Int) ∧ v3 ≤ (9223372036854775807 : Int) ∧ ∀ (b4 : Nat), (Int.toNat v3 ≤ Int.toNat v3 ∧ (∀ (k2 : Nat), k2 < Int.toNat v3 → Bool.true = Bool.true) ∧ (b4 = b4 ∧ (0 : Nat) = (0 : Nat)) ∧ ∀ (s3 : List UInt8), s3 = Byt.of (fun (k : Nat) ↦ (0 : Int)) (Int.toNat v3) → List.length p + List.length s3 ≤ (9223372036854775807 : Nat) ∧ ∀ (s4 :
      List UInt8), s4 = p ++ s3 → ∃ (x1 : List UInt8 × List UInt8), s4 = Prod.fst x1 ∧ s2 = Prod.snd x1 ∧ ((∀ (k3 : Nat), Galois.co (Prod.fst x1) k3 = Galois.co p k3) ∧ List.length (Prod.fst x1) ≤ (500 : Nat)) ∧ (∀ (k4 : Nat), Galois.co (Prod.snd x1) k4 = Galois.co q k4) ∧ List.length (Prod.snd x1) ≤ (500 : Nat) ∧ List.length p ≤ (400 : Nat) ∧ List.length q ≤ (400 : Nat)) ∧ True) ∧ True) ∧ True) ∧ True)
      ∧ ∀ (x1 : List UInt8 × List UInt8), ((∀ (k : Nat), Galois.co (Prod.fst x1) k = Galois.co p k) ∧ List.length (Prod.fst x1) ≤ (500 : Nat)) ∧ (∀ (k : Nat), Galois.co (Prod.snd x1) k = Galois.co q k) ∧ List.length (Prod.snd x1) ≤ (500 : Nat) ∧ List.length p ≤ (400 : Nat) ∧ List.length q ≤ (400 : Nat) → ∀ (x'2 : List UInt8 × List UInt8 × Unit), x'2 = (Prod.fst x1, Prod.snd x1, ()) → List.length
      (Prod.fst x'2) ≤ (3000 : Nat) ∧ List.length (Prod.fst (Prod.snd x'2)) ≤ (3000 : Nat) ∧ ∀ (y1 : Unit), True → ∀ (s1 : List UInt8), s1 = Galois.prodL (Prod.fst x'2) (Prod.fst (Prod.snd x'2)) → ∀ (v4 : Int), (v4 = if Galois.prodB (Prod.fst x'2) (Prod.fst (Prod.snd x'2)) = Bool.true then (3 : Int) else (0 : Int)) → ∀ (x'3 : List UInt8 × List UInt8 × Unit), x'3 = (p, q, ()) → List.length (Prod.fst x'3)
      ≤ (3000 : Nat) ∧ List.length (Prod.fst (Prod.snd x'3)) ≤ (3000 : Nat) ∧ ∀ (y2 : Unit), True → ∀ (s2 : List UInt8), s2 = Galois.prodL (Prod.fst x'3) (Prod.fst (Prod.snd x'3)) → ∀ (v5 : Int), (v5 = if Galois.prodB (Prod.fst x'3) (Prod.fst (Prod.snd x'3)) = Bool.true then (3 : Int) else (0 : Int)) → ∀ (x'4 : List UInt8 × List UInt8 × Unit), x'4 = (Prod.fst x1, Prod.snd x1, ()) → List.length (Prod.fst
      x'4) ≤ (3000 : Nat) ∧ List.length (Prod.fst (Prod.snd x'4)) ≤ (3000 : Nat) ∧ ∀ (y3 : Unit), True → ∀ (s3 : List UInt8), s3 = Galois.quoL (Prod.fst x'4) (Prod.fst (Prod.snd x'4)) → ∀ (s4 : List UInt8), s4 = Galois.resL (Prod.fst x'4) (Prod.fst (Prod.snd x'4)) → ∀ (v6 : Int), (v6 = if Galois.tlen (Prod.fst (Prod.snd x'4)) = (0 : Nat) then (2 : Int) else (0 : Int)) → ∀ (x'5 : List UInt8 × List UInt8 ×
      Unit), x'5 = (p, q, ()) → List.length (Prod.fst x'5) ≤ (3000 : Nat) ∧ List.length (Prod.fst (Prod.snd x'5)) ≤ (3000 : Nat) ∧ ∀ (y4 : Unit), True → ∀ (s5 : List UInt8), s5 = Galois.quoL (Prod.fst x'5) (Prod.fst (Prod.snd x'5)) → ∀ (s6 : List UInt8), s6 = Galois.resL (Prod.fst x'5) (Prod.fst (Prod.snd x'5)) → ∀ (v7 : Int), (v7 = if Galois.tlen (Prod.fst (Prod.snd x'5)) = (0 : Nat) then (2 : Int) else
      (0 : Int)) → ∀ (v8 : Int), v8 = (↑(Galois.tlen (Prod.fst x1)) : Int) - (1 : Int) → ∀ (v9 : Int), v9 = (↑(Galois.tlen p) : Int) - (1 : Int) → ((v8 == v9) = Bool.true → List.length (Prod.fst x1) ≤ (3000 : Nat)) ∧ ((v8 == v9) = Bool.true → List.length (Prod.snd x1) ≤ (3000 : Nat)) ∧ ∀ (s7 : List UInt8), s7 = Galois.sumL (Prod.fst x1) (Prod.snd x1) → ((v8 == v9) = Bool.true → List.length p ≤ (3000 :
      Nat)) ∧ ((v8 == v9) = Bool.true → List.length q ≤ (3000 : Nat)) ∧ ∀ (s8 : List UInt8), s8 = Galois.sumL p q → ∀ (t2 : Bool), (t2 = if (v8 == v9) = Bool.true then s7 == s8 else Bool.false) → ∀ (t3 : Bool), (t3 = if t2 = Bool.true then s1 == s2 else Bool.false) → ∀ (t4 : Bool), (t4 = if t3 = Bool.true then v4 == v5 else Bool.false) → ∀ (t5 : Bool), (t5 = if t4 = Bool.true then s3 == s5 else
      Bool.false) → ∀ (t6 : Bool), (t6 = if t5 = Bool.true then s4 == s6 else Bool.false) → ∀ (t7 : Bool), (t7 = if t6 = Bool.true then v6 == v7 else Bool.false) → (t7 = Bool.true → List.length (Prod.fst x1) ≤ (5000 : Nat)) ∧ ∀ (s9 : List UInt8), s9 = Galois.derL (Prod.fst x1) → (t7 = Bool.true → List.length p ≤ (5000 : Nat)) ∧ ∀ (s10 : List UInt8), s10 = Galois.derL p → ∀ (t8 : Bool), (t8 = if t7 =
      Bool.true then s9 == s10 else Bool.false) → (t8 = Bool.true → ∀ (x'6 : Unit), x'6 = () → ∀ (y5 : Unit), True → ∀ (t9 : Bool), t9 = Bool.true → ∀ (t10 : Bool), (t10 = if t8 = Bool.true then t9 else Bool.false) → t10 = Bool.true) ∧ ((t8 = Bool.true → False) → ∀ (t9 : Bool), (t9 = if t8 = Bool.true then Bool.false else Bool.false) → t9 = Bool.true))) (by kernel_rfl) ?_
  try simp only [eq_self, true_and, and_true, Nat.le_refl, implies_true, forall_const, Bool.false_eq_true, Bool.true_eq_false, reduceCtorEq, false_imp_iff, true_imp_iff, Int.toNat_zero, Int.toNat_natCast, Nat.zero_lt_one, Int.le_refl, allGet]
  obtain ⟨_, _, rn, _⟩ := hR
  replace rn := u16_in rn
  dsimp only at rn
  intro v1 h1 v2 h2 t1 ht1
  refine ⟨fun _ t2 h => h, fun ht => ?_⟩
  have hlen : p.length ≤ 400 ∧ q.length ≤ 400 := by
    rw [ht] at ht1
    subst h1 h2
    by_cases h : (p.length : Int) > 400
    · rw [if_pos (decide_eq_true h)] at ht1; cases ht1
    · rw [if_neg (by simpa using h)] at ht1
      have := of_decide_eq_false ht1.symm
      omega
  obtain ⟨hp, hq⟩ := hlen
  clear ht ht1 h1 h2 hw
  refine ⟨⟨by decide, fun v3 h3 => ⟨by decide, fun v4 h4 => ⟨by decide, fun v5 h5 => ?_⟩⟩⟩, ?_⟩
  · have b3 : 0 ≤ v3 ∧ v3 ≤ 99 := by
      rw [h3, Int.tmod_eq_emod_of_nonneg (by omega)]; omega
    have b4 : 0 ≤ v4 := by rw [h4, IntKind.wrap_u16]; omega
    have b5 : 0 ≤ v5 ∧ v5 ≤ 99 := by
      rw [h5, Int.tmod_eq_emod_of_nonneg (by omega)]; omega
    clear h3 h4 h5 b4
    have len : ∀ (z : List UInt8) (v : Int), z = Byt.of (fun _ => 0) v.toNat → 0 ≤ v ∧ v ≤ 99 → z.length ≤ 99 := fun z v hz hv => by rw [hz, byt_len]; omega
    have fin : ∀ z1 z2 a b : List UInt8, z1 = Byt.of (fun _ => 0) v3.toNat → a = p ++ z1 → z2 = Byt.of (fun _ => 0) v5.toNat → b = q ++ z2 → ∃ x1 : List UInt8 × List UInt8, a = x1.1 ∧ b = x1.2 ∧
        ((∀ k, co x1.1 k = co p k) ∧ x1.1.length ≤ 500) ∧ (∀ k, co x1.2 k = co q k) ∧ x1.2.length ≤ 500 ∧ p.length ≤ 400 ∧ q.length ≤ 400 := by
      intro z1 z2 a b hz1 ha hz2 hb
      have l1 := len z1 v3 hz1 b3
      have l2 := len z2 v5 hz2 b5
      refine ⟨(a, b), rfl, rfl, ⟨fun k => ?_, ?_⟩, fun k => ?_, ?_, hp, hq⟩
      · show co a k = _; rw [ha, hz1, co_zeros]
      · show a.length ≤ _; rw [ha, List.length_append]; omega
      · show co b k = _; rw [hb, hz2, co_zeros]
      · show b.length ≤ _; rw [hb, List.length_append]; omega
    have ok3 : 0 ≤ v3 ∧ v3 * ((1 : Nat) : Int) ≤ 140737488355328 ∧ v3 ≤ 9223372036854775807 := ⟨by omega, by omega, by omega⟩
    have ok5 : 0 ≤ v5 ∧ v5 * ((1 : Nat) : Int) ≤ 140737488355328 ∧ v5 ≤ 9223372036854775807 := ⟨by omega, by omega, by omega⟩
    have lp : ∀ z : List UInt8, z = Byt.of (fun _ => 0) v3.toNat → p.length + z.length ≤ 9223372036854775807 := fun z hz => by have := len z v3 hz b3; omega
    have lq : ∀ z : List UInt8, z = Byt.of (fun _ => 0) v5.toNat → q.length + z.length ≤ 9223372036854775807 := fun z hz => by have := len z v5 hz b5; omega
    repeat' (first | exact ok3.1 | exact ok3.2.1 | exact ok3.2.2 | exact ok5.1 | exact ok5.2.1 | exact ok5.2.2 | (refine lp _ ?_; assumption) | (refine lq _ ?_; assumption) | apply And.intro | intro _ | exact fin _ _ _ _ (by assumption) (by assumption) (by assumption) (by assumption))
  · rintro ⟨a, b⟩ ⟨⟨ha, la⟩, hb, lb, _, _⟩ x2 hx2
    dsimp only at ha la hb lb hx2 ⊢
    obtain ⟨e1, e2⟩ := prodL_congr ha hb
    obtain ⟨e3, e4⟩ := quoL_congr ha hb
    have e5 : sumL a b = sumL p q := sum_canon fun k => by rw [ha, hb]
    have e6 := derL_congr ha
    have e7 := tlen_congr ha
    have e8 := tlen_congr hb
    subst hx2
    refine ⟨by show a.length ≤ _; omega, by show b.length ≤ _; omega, fun s1 k1 v4 k2 x3 hx3 => ?_⟩
    subst hx3
    refine ⟨by show p.length ≤ _; omega, by show q.length ≤ _; omega, fun s2 k3 v5 k4 x4 hx4 => ?_⟩
    subst hx4
    refine ⟨by show a.length ≤ _; omega, by show b.length ≤ _; omega, fun s3 k5 s4 k6 v6 k7 x5 hx5 => ?_⟩
    subst hx5
    refine ⟨by show p.length ≤ _; omega, by show q.length ≤ _; omega, fun s5 k8 s6 k9 v7 k10 v8 k11 v9 k12 => ⟨fun _ => by omega, fun _ => by omega, fun s7 k13 => ⟨fun _ => by omega, fun _ => by omega, fun s8 k14 t2 g2 t3 g3 t4 g4 t5 g5 t6 g6 t7 g7 => ⟨fun _ => by omega, fun s13 k15 => ⟨fun _ => by omega, fun s14 k16 t8 g8 => ?_⟩⟩⟩⟩⟩
    dsimp only at k1 k2 k3 k4 k5 k6 k7 k8 k9 k10
    have f1 : s1 = s2 := by rw [k1, k3, e2]
    have f2 : v4 = v5 := by rw [k2, k4, e1]
    have f3 : s3 = s5 := by rw [k5, k8, e3]
    have f4 : s4 = s6 := by rw [k6, k9, e4]
    have f5 : v6 = v7 := by rw [k7, k10, e8]
    have f6 : v8 = v9 := by rw [k11, k12, e7]
    have f7 : s7 = s8 := by rw [k13, k14, e5]
    have f8 : s13 = s14 := by rw [k15, k16, e6]
    have f9 : t8 = true := by rw [g8, g7, g6, g5, g4, g3, g2, f1, f2, f3, f4, f5, f6, f7, f8]; simp
    subst f9
    simp
theorem trmTop {H : Type} {enc : TypeId × Value → H} (W : World) (base : Nat) : OpTop enc Tryd.prog W base Tryd.f8.params.toList aTrm TrmIn :=
  .cons (.elt (ct := [9]) (.str (by kernel_rfl) (by kernel_rfl)) (by kernel_rfl)) (.inr ⟨notStruct (by kernel_rfl), notArray (by kernel_rfl), rfl, fun _ _ => rfl⟩)
    (.cons (.elt (ct := [9]) (.str (by kernel_rfl) (by kernel_rfl)) (by kernel_rfl)) (.inr ⟨notStruct (by kernel_rfl), notArray (by kernel_rfl), rfl, fun _ _ => rfl⟩)
    (.cons (.elt (ct := [42]) (.int (by kernel_rfl) (by kernel_rfl)) (by kernel_rfl)) (.inr ⟨notStruct (by kernel_rfl), notArray (by kernel_rfl), rfl, fun _ _ => rfl⟩) .nil))
theorem dvdTop {H : Type} {enc : TypeId × Value → H} (W : World) (base : Nat) : OpTop enc Tryd.prog W base Tryd.f7.params.toList aPol PolIn :=
  .cons (.elt (ct := [9]) (.str (by kernel_rfl) (by kernel_rfl)) (by kernel_rfl)) (.inr ⟨notStruct (by kernel_rfl), notArray (by kernel_rfl), rfl, fun _ _ => rfl⟩)
    (.cons (.elt (ct := [9]) (.str (by kernel_rfl) (by kernel_rfl)) (by kernel_rfl)) (.inr ⟨notStruct (by kernel_rfl), notArray (by kernel_rfl), rfl, fun _ _ => rfl⟩)
    (.cons (.elt (ct := [5]) (.int (by kernel_rfl) (by kernel_rfl)) (by kernel_rfl)) (.inr ⟨notStruct (by kernel_rfl), notArray (by kernel_rfl), rfl, fun _ _ => rfl⟩) .nil))
end Galois
