/-
  OWN WORK. Galois: quotients of polynomials.
-/
import Derived.Test.YtnibcchhhebfaaaGreatDoorG6
namespace Galois
open Go Go.Proofs Eng
set_option linter.unusedVariables false
set_option linter.unusedSimpArgs false
set_option maxHeartbeats 4000000
set_option maxRecDepth 100000

abbrev QS := (Nat → Nat) × (Nat → Nat)
def qc (q : List UInt8) (i : Nat) (s : QS) : Nat := gdiv (s.1 i) (co q (tlen q - 1))
/-- A step: the term i goes. -/
def qstep (q : List UInt8) (i : Nat) (s : QS) : QS := (spr s.1 q (i - (tlen q - 1)) (qc q i s), fun k => if k = i - (tlen q - 1) then qc q i s else s.2 k)
/-- t steps, from L terms. -/
def qst (p q : List UInt8) (L : Nat) : Nat → QS
  | 0 => (co p, fun _ => 0)
  | t + 1 => qstep q (L - 1 - t) (qst p q L t)
theorem qc_lt (q : List UInt8) (i : Nat) (s : QS) : qc q i s < 256 := gdiv_lt _ _
theorem qst_lt (p q : List UInt8) (L : Nat) : ∀ t k, (qst p q L t).1 k < 256 ∧ (qst p q L t).2 k < 256
  | 0, k => ⟨co_lt p k, by show 0 < 256; decide⟩
  | t + 1, k => by
    refine ⟨spr_lt (fun k => (qst_lt p q L t k).1) q _ (qc_lt q _ _) k, ?_⟩
    show (if k = _ then _ else _) < 256
    split
    · exact qc_lt q _ _
    · exact (qst_lt p q L t k).2
/-- What is not reached is 0 still. -/
theorem qst_zero (p q : List UInt8) (L : Nat) : ∀ t k, t + (tlen q - 1) ≤ L → k + (tlen q - 1) + t < L → (qst p q L t).2 k = 0
  | 0, k, _, _ => rfl
  | t + 1, k, h1, h2 => by
    show (if k = L - 1 - t - (tlen q - 1) then _ else _) = 0
    rw [if_neg (by omega)]
    exact qst_zero p q L t k (by omega) (by omega)
theorem gdiv_zero (b : Nat) : gdiv 0 b = 0 := rfl
/-- The terms above the degree change nothing. -/
theorem qst_skip (p q : List UInt8) {L : Nat} (hL : L = p.length) : ∀ t, t + tlen p ≤ L → t + (tlen q - 1) ≤ L → qst p q L t = (co p, fun _ => 0)
  | 0, _, _ => rfl
  | t + 1, h1, h2 => by
    have ih := qst_skip p q hL t (by omega) (by omega)
    show qstep q (L - 1 - t) (qst p q L t) = _
    rw [ih]
    have h0 : co p (L - 1 - t) = 0 := by
      rw [tlen_eq] at h1
      exact tl_zero (n := p.length) (by omega) (by omega)
    have hc : qc q (L - 1 - t) (co p, fun _ => 0) = 0 := by unfold qc; dsimp only; rw [h0, gdiv_zero]
    unfold qstep
    rw [hc]
    refine Prod.ext ?_ ?_
    · funext k
      show spr (co p) q _ 0 k = co p k
      unfold spr
      rw [gzero_mul (co_lt q _), xor0]
      split <;> rfl
    · funext k
      show (if k = _ then 0 else 0) = 0
      split <;> rfl
theorem qst_shift (p q : List UInt8) {L L' : Nat} (hs : qst p q L (L - L') = (co p, fun _ => 0)) (hl : L' ≤ L) : ∀ t, t ≤ L' → qst p q L (L - L' + t) = qst p q L' t
  | 0, _ => hs
  | t + 1, h => by
    show qstep q (L - 1 - (L - L' + t)) (qst p q L (L - L' + t)) = qstep q (L' - 1 - t) (qst p q L' t)
    rw [qst_shift p q hs hl t (by omega), show L - 1 - (L - L' + t) = L' - 1 - t by omega]
/-- The state at the end. -/
def qfin (p q : List UInt8) (L : Nat) : QS := qst p q L (L - (tlen q - 1))
theorem qfin_eq (p q : List UInt8) : qfin p q p.length = qfin p q (tlen p) := by
  have ht := tlen_le p
  unfold qfin
  by_cases h : tlen q - 1 ≤ tlen p
  · have hs := qst_skip p q (L := p.length) rfl (p.length - tlen p) (by omega) (by omega)
    have := qst_shift p q hs ht (tlen p - (tlen q - 1)) (by omega)
    rw [← this]
    congr 1
    omega
  · rw [show tlen p - (tlen q - 1) = 0 by omega]
    by_cases h2 : tlen q - 1 ≤ p.length
    · exact qst_skip p q rfl _ (by omega) (by omega)
    · rw [show p.length - (tlen q - 1) = 0 by omega]
      rfl
/-- No term from L on comes. -/
theorem qst_over (p q : List UInt8) {L : Nat} (hL : tlen p ≤ L) (hq : 0 < tlen q) : ∀ t, t + (tlen q - 1) ≤ L → ∀ k, L ≤ k → (qst p q L t).1 k = 0 ∧ (qst p q L t).2 k = 0
  | 0, _, k, hk => by
    refine ⟨?_, rfl⟩
    show co p k = 0
    by_cases h : k < p.length
    · rw [tlen_eq] at hL; exact tl_zero (n := p.length) (by omega) h
    · exact co_over (by omega)
  | t + 1, ht, k, hk => by
    obtain ⟨h1, h2⟩ := qst_over p q hL hq t (by omega) k hk
    have hz : co q (k - (L - 1 - t - (tlen q - 1))) = 0 := by
      by_cases h : k - (L - 1 - t - (tlen q - 1)) < q.length
      · have := tlen_eq q
        exact tl_zero (n := q.length) (by omega) h
      · exact co_over (by omega)
    refine ⟨?_, ?_⟩
    · show spr _ q (L - 1 - t - (tlen q - 1)) _ k = 0
      unfold spr
      rw [if_pos (by omega), h1, hz, gmul_zero]
      rfl
    · show (if k = _ then _ else _) = 0
      rw [if_neg (by omega)]
      exact h2
def quoL (p q : List UInt8) : List UInt8 := if tlen q = 0 then [] else trimL (ofN (qfin p q (tlen p)).2 (tlen p))
def resL (p q : List UInt8) : List UInt8 := if tlen q = 0 then [] else trimL (ofN (qfin p q (tlen p)).1 (tlen p))
theorem quo_at {p q : List UInt8} (h : tlen q ≠ 0) : trimL (ofN (qfin p q p.length).2 p.length) = quoL p q ∧ trimL (ofN (qfin p q p.length).1 p.length) = resL p q := by
  have hlt := fun k => qst_lt p q (tlen p) (tlen p - (tlen q - 1)) k
  unfold quoL resL
  rw [if_neg h, if_neg h, qfin_eq]
  have ov : ∀ k, tlen p ≤ k → (qfin p q (tlen p)).1 k = 0 ∧ (qfin p q (tlen p)).2 k = 0 := fun k hk => by
    unfold qfin
    by_cases h2 : tlen q - 1 ≤ tlen p
    · exact qst_over p q (Nat.le_refl _) (by omega) _ (by omega) k hk
    · rw [show tlen p - (tlen q - 1) = 0 by omega]
      refine ⟨?_, rfl⟩
      show co p k = 0
      have := tlen_eq p
      by_cases h : k < p.length
      · exact tl_zero (n := p.length) (by omega) h
      · exact co_over (by omega)
  exact ⟨(trim_more (fun k => (hlt k).2) (fun k => (hlt k).2) (tlen_le p) (fun _ _ => rfl) fun k h1 _ => (ov k h1).2).symm, (trim_more (fun k => (hlt k).1) (fun k => (hlt k).1) (tlen_le p) (fun _ _ => rfl) fun k h1 _ => (ov k h1).1).symm⟩
theorem lead_ne {q : List UInt8} (h : tlen q ≠ 0) : co q (tlen q - 1) ≠ 0 := by
  have := tlen_eq q
  rw [this] at h ⊢
  exact tl_ne (by omega)
theorem div_qc {q : List UInt8} {i : Nat} {s : QS} (h : tlen q ≠ 0) : divI ((s.1 i : Nat) : Int) ((co q (tlen q - 1) : Nat) : Int) = ((qc q i s : Nat) : Int) := by
  unfold divI qc
  rw [if_neg (by have := lead_ne h; omega)]
  rfl
def quotient := ecC aStrS (fun x => [x.1.length ≤ 3000, x.2.1.length ≤ 3000]) (fun _ (_ : Unit) => True) (fun x _ => .tup [.str (quoL x.1 x.2.1), .str (resL x.1 x.2.1), .int .i64 (if tlen x.2.1 = 0 then 2 else 0)]) (fun _ _ => []) 0
theorem quotient_ok : EcOk Tryz.prog 112 quotient := by
  refine ecC_run (fun _ => EZ_ok) Tryz.func112 rfl (by kernel_rfl) []
    (fun x => [.draw 10 (.take 0 (.take 1 (.take 2 (.take 3 (.take 4 (.take 5 (.take 6 (.br 7 (.take 8 (.take 9 (.take 10 (.take 11 (.take 12 .fin))))) .stop)))))))) [],
      .loop ⟨8, Nat × Nat × Nat × Nat, [8, 9, 10], fun y => [.slice 0 y.2.1 0 [] 1 0 x.1.length y.2.2.1 false, .slice 1 y.2.2.2 0 [] 1 0 x.1.length x.1.length false, .int .i64 ((x.1.length : Int) - 1 - y.1)], [0, 1],
        fun y => [⟨0, y.2.1, 0, 1, x.1.length, fun k => .int .u8 ((qst x.1 x.2.1 x.1.length y.1).1 k : Nat), true, false, y.2.2.1, 5, false, none⟩, ⟨1, y.2.2.2, 0, 1, x.1.length, fun k => .int .u8 ((qst x.1 x.2.1 x.1.length y.1).2 k : Nat), true, false, x.1.length, 5, false, none⟩],
        fun y => y.1 ≤ x.1.length - (tlen x.2.1 - 1) ∧ x.1.length ≤ y.2.2.1, fun y => x.1.length - y.1⟩])
    (fun _ => Nat.le_of_ble_eq_true rfl) (fun ⟨p, q, ()⟩ hp hw => ?_)
  refine vc_of (q :=
      ∀ (s1:List UInt8), s1=trimL q→∀ (v1:Int), v1=(↑(List.length s1):Int)→∀ (v2:Int), v2=IntKind.i64.wrap (v1 - (1:Int))→(decide (v2 < (0:Int))=true→∃ (x1:Unit), ([]=quoL p q∧[]=resL p q∧(2:Int)=if tlen q=0 then (2:Int) else (0:Int))∧True)∧(decide (v2 < (0:Int))=false→∀ (b1 b2:Nat), List.length p≤b2→b2≤9223372036854775807→∀ (v3:Int), v3=(↑(List.length
      p):Int)→0≤v3∧v3≤v3∧v3*(↑(1:Nat):Int)≤(140737488355328:Int)∧v3≤9223372036854775807∧∀ (b3:Nat) (v4:Int), v4=(↑(List.length p):Int)→∀ (v5:Int), v5=IntKind.i64.wrap (v4 - (1:Int))→(∃ (x2:Nat × Nat × Nat × Nat), (b1=x2.2.1∧0=0∧0=0∧List.length p=List.length p∧b2=x2.2.2.1∧false=false)∧(b3=x2.2.2.2∧0=0∧0=0∧Int.toNat v3=List.length p∧Int.toNat v3=List.length p∧false=false)∧v5=(↑(List.length p):Int) -
      (1:Int) - (↑x2.1:Int)∧((b1=x2.2.1∧0=0∧false=false∧List.length p≤List.length p∧List.length p≤x2.2.2.1∧x2.2.2.1≤b2)∧∀ (i1:Nat), i1 < List.length p→(↑(UInt8.toNat (List.getD p i1 0)):Int)=(↑((qst p q (List.length p) x2.1).1 i1):Int))∧((b3=x2.2.2.2∧0=0∧false=false∧List.length p≤Int.toNat v3∧List.length p≤List.length p∧List.length p≤Int.toNat v3)∧∀ (i2:Nat), i2 < List.length p→(0:Int)=(↑((qst p q
      (List.length p) x2.1).2 i2):Int))∧x2.1≤List.length p - (tlen q - 1)∧List.length p≤x2.2.2.1)∧∀ (x3:Nat × Nat × Nat × Nat), x3.1≤List.length p - (tlen q - 1)∧List.length p≤x3.2.2.1→(decide ((↑(List.length p):Int) - (1:Int) - (↑x3.1:Int)≥v2)=true→(0:Int)≤(↑(List.length p):Int) - (1:Int) - (↑x3.1:Int)∧(↑(List.length p):Int) - (1:Int) - (↑x3.1:Int) < (↑(List.length p):Int)∧(x3.2.1=x3.2.1∧0=0)∧Int.toNat
      ((↑(List.length p):Int) - (1:Int) - (↑x3.1:Int)) < List.length p∧0≤v2∧v2 < (↑(List.length s1):Int)∧(∀ (x'1:Int × Int × Unit), x'1=((↑((qst p q (List.length p) x3.1).1 (Int.toNat ((↑(List.length p):Int) - (1:Int) - (↑x3.1:Int)))):Int), (↑(UInt8.toNat (List.getD s1 (Int.toNat v2) 0)):Int), ())→((0:Int)≤Prod.fst x'1∧Prod.fst x'1≤(255:Int))∧((0:Int)≤(Prod.snd x'1).1∧(Prod.snd x'1).1≤(255:Int))∧∀
      (y1:Unit), True→∀ (v6:Int), v6=divI (Prod.fst x'1) ((Prod.snd x'1).1)→∀ (v7:Int), v7=errB ((Prod.snd x'1).1==(0:Int))→∀ (v8:Int), v8=IntKind.i64.wrap ((↑(List.length p):Int) - (1:Int) - (↑x3.1:Int) - v2)→(x3.2.2.2=x3.2.2.2∧0=0)∧(0=0∧∀ (k1:Nat), k1 < List.length p→true=true)∧∀ (x'2:Eng.OwnD Int × Int × Int × Unit), x'2=(Eng.OwnD.mk x3.2.2.2 0 (List.length p) (List.length p) false (List.length p)
      (List.length p) false fun (k:Nat) ↦ (↑((qst p q (List.length p) x3.1).2 k):Int), v8, v6, ())→(0:Int)≤(Prod.snd x'2).1∧(Prod.snd x'2).1 < (↑(Eng.OwnD.n (Prod.fst x'2)):Int)∧Eng.OwnD.n (Prod.fst x'2)≤Eng.OwnD.m (Prod.fst x'2)∧Eng.OwnD.m (Prod.fst x'2)≤Eng.OwnD.cap (Prod.fst x'2)∧∀ (y2:Unit), True→∀ (v9:Int), v9=IntKind.i64.wrap ((↑(List.length p):Int) - (1:Int) - (↑x3.1:Int) -
      v2)→(x3.2.1=x3.2.1∧0=0)∧(0=0∧∀ (k2:Nat), k2 < List.length p→true=true)∧∀ (x'3:(Eng.OwnD Int × Unit) × List UInt8 × Int × Int × Unit), x'3=((Eng.OwnD.mk x3.2.1 0 (List.length p) x3.2.2.1 false (List.length p) x3.2.2.1 false fun (k:Nat) ↦ (↑((qst p q (List.length p) x3.1).1 k):Int), ()), s1, v9, v6, ())→(0:Int)≤((Prod.snd x'3).2.1)∧((Prod.snd x'3).2.1)+(↑(List.length ((Prod.snd
      x'3).1)):Int)≤(↑(Eng.OwnD.n ((Prod.fst x'3).1)):Int)∧Eng.OwnD.n ((Prod.fst x'3).1)≤Eng.OwnD.m ((Prod.fst x'3).1)∧Eng.OwnD.m ((Prod.fst x'3).1)≤Eng.OwnD.cap ((Prod.fst x'3).1)∧Eng.OwnD.n ((Prod.fst x'3).1)≤1000000∧((0:Int)≤(((Prod.snd x'3).2.2)).1∧(((Prod.snd x'3).2.2)).1≤(255:Int))∧∀ (y3:Unit), True→∀ (v10:Int), v10=IntKind.i64.wrap ((↑(List.length p):Int) - (1:Int) - (↑x3.1:Int) - (1:Int))→∃
      (x4:Nat × Nat × Nat × Nat), (x3.2.1=x4.2.1∧0=0∧0=0∧List.length p=List.length p∧x3.2.2.1=x4.2.2.1∧false=false)∧(x3.2.2.2=x4.2.2.2∧0=0∧0=0∧List.length p=List.length p∧List.length p=List.length p∧false=false)∧v10=(↑(List.length p):Int) - (1:Int) - (↑x4.1:Int)∧((Eng.OwnD.b ((Prod.fst x'3).1)=x4.2.1∧Eng.OwnD.off ((Prod.fst x'3).1)=0∧Eng.OwnD.ez ((Prod.fst x'3).1)=false∧List.length p≤Eng.OwnD.m
      ((Prod.fst x'3).1)∧List.length p≤x4.2.2.1∧x4.2.2.1≤Eng.OwnD.cap ((Prod.fst x'3).1))∧∀ (i3:Nat), i3 < List.length p→sprF (Eng.OwnD.f ((Prod.fst x'3).1)) ((Prod.snd x'3).1) (Int.toNat (((Prod.snd x'3).2.1))) ((((Prod.snd x'3).2.2)).1) (List.length ((Prod.snd x'3).1)) i3=(↑((qst p q (List.length p) x4.1).1 i3):Int))∧((Eng.OwnD.b (Prod.fst x'2)=x4.2.2.2∧Eng.OwnD.off (Prod.fst x'2)=0∧Eng.OwnD.ez
      (Prod.fst x'2)=false∧List.length p≤Eng.OwnD.m (Prod.fst x'2)∧List.length p≤List.length p∧List.length p≤Eng.OwnD.cap (Prod.fst x'2))∧∀ (i4:Nat), i4 < List.length p→addF (Eng.OwnD.f (Prod.fst x'2)) (Int.toNat ((Prod.snd x'2).1)) (((Prod.snd x'2).2.1)) i4=(↑((qst p q (List.length p) x4.1).2 i4):Int))∧(x4.1≤List.length p - (tlen q - 1)∧List.length p≤x4.2.2.1)∧List.length p - x4.1 < List.length p -
      x3.1)∧True)∧(decide ((↑(List.length p):Int) - (1:Int) - (↑x3.1:Int)≥v2)=false→List.length p≤List.length p∧(∀ (k1:Nat), k1 < List.length p→true=true)∧(x3.2.2.2=x3.2.2.2∧0=0)∧∀ (s2:List UInt8), s2=trimL (Byt.of (fun (k:Nat) ↦ (↑((qst p q (List.length p) x3.1).2 k):Int)) (List.length p))→List.length p≤List.length p∧(∀ (k2:Nat), k2 < List.length p→true=true)∧(x3.2.1=x3.2.1∧0=0)∧∀ (s3:List UInt8),
      s3=trimL (Byt.of (fun (k:Nat) ↦ (↑((qst p q (List.length p) x3.1).1 k):Int)) (List.length p))→∃ (x4:Unit), (s2=quoL p q∧s3=resL p q∧(0:Int)=if tlen q=0 then (2:Int) else (0:Int))∧True))) (by kernel_rfl) ?_
  try simp only [eq_self, true_and, and_true, Nat.le_refl, implies_true, forall_const, Bool.false_eq_true, Bool.true_eq_false, reduceCtorEq, false_imp_iff, true_imp_iff, Int.toNat_zero, Int.toNat_natCast, Nat.zero_lt_one, Int.le_refl, allGet]
  obtain ⟨h1, h2, _⟩ := hp
  dsimp only at h1 h2
  have t2 := tlen_le q
  intro s1 hs1 v1 hv1 v2 hv2
  have l1 : s1.length = tlen q := by rw [hs1, trimL_len]
  have c1 : ∀ k, co s1 k = co q k := fun k => by rw [hs1, co_trim]
  rw [l1] at hv1 ⊢
  subst hv1
  rw [w64_id (by omega) (by omega)] at hv2
  refine ⟨fun hc => ?_, fun hc b1 b2 g1 g2 v3 h3 => ?_⟩
  · have hc := of_decide_eq_true hc
    have e : tlen q = 0 := by omega
    refine ⟨(), ?_, ?_, ?_⟩
    · unfold quoL; rw [if_pos e]
    · unfold resL; rw [if_pos e]
    · rw [if_pos e]
  have hc := of_decide_eq_false hc
  have hq : tlen q ≠ 0 := by omega
  obtain ⟨d, hd⟩ : ∃ d, tlen q = d + 1 := ⟨tlen q - 1, by omega⟩
  have hd' : tlen q - 1 = d := by omega
  have e2 : v2.toNat = d := by omega
  have e3 : v3.toNat = p.length := by omega
  subst h3
  refine ⟨by omega, by omega, by omega, fun b3 v4 h4 v5 h5 => ?_⟩
  subst h4
  rw [w64_id (by omega) (by omega)] at h5
  refine ⟨⟨(0, b1, b2, b3), ⟨rfl, rfl⟩, ⟨rfl, e3, e3⟩, by rw [h5]; show _ = (p.length : Int) - 1 - ((0 : Nat) : Int); omega, ⟨⟨rfl, g1, Nat.le_refl _⟩, fun _ _ => rfl⟩, ⟨⟨rfl, by omega, by omega⟩, fun _ _ => rfl⟩, Nat.zero_le _, g1⟩, ?_⟩
  rintro ⟨t, c1', c2', c3'⟩ ⟨ht, hcap⟩
  dsimp only at ht hcap ⊢
  rw [hd'] at ht
  refine ⟨fun hc2 => ?_, fun hc2 s2 hs2 s3 hs3 => ⟨(), ?_⟩⟩
  · have hc2 := of_decide_eq_true hc2
    have ei : ((p.length : Int) - 1 - t).toNat = p.length - 1 - t := by omega
    rw [ei, e2]
    have hF := fun k => (qst_lt p q p.length t k).1
    have hG := fun k => (qst_lt p q p.length t k).2
    have hlead : ((s1.getD d 0).toNat : Int) = (co q d : Nat) := by rw [← c1]; rfl
    rw [hlead]
    refine ⟨by omega, by omega, by omega, by omega, by omega, fun x1 hx1 => ?_⟩
    subst hx1
    have hl := co_lt q d
    have hFi := hF (p.length - 1 - t)
    refine ⟨⟨by show 0 ≤ (((qst p q p.length t).1 (p.length - 1 - t) : Nat) : Int); omega, by show (((qst p q p.length t).1 (p.length - 1 - t) : Nat) : Int) ≤ 255; omega⟩, ⟨by show 0 ≤ ((co q d : Nat) : Int); omega, by show ((co q d : Nat) : Int) ≤ 255; omega⟩, fun v6 h6 v7 h7 v8 h8 x2 hx2 => ?_⟩
    have e6 : v6 = ((qc q (p.length - 1 - t) (qst p q p.length t) : Nat) : Int) := by
      rw [h6]
      have := div_qc (i := p.length - 1 - t) (s := qst p q p.length t) hq
      rw [hd'] at this
      exact this
    have hql := qc_lt q (p.length - 1 - t) (qst p q p.length t)
    rw [w64_id (by omega) (by omega)] at h8
    have e8 : v8.toNat = p.length - 1 - t - d := by omega
    subst hx2
    refine ⟨by show 0 ≤ v8; omega, by show v8 < (p.length : Nat); omega, Nat.le_refl _, Nat.le_refl _, fun v9 h9 x3 hx3 => ?_⟩
    rw [w64_id (by omega) (by omega)] at h9
    have e9 : v9.toNat = p.length - 1 - t - d := by omega
    subst hx3
    refine ⟨by show 0 ≤ v9; omega, by show v9 + (s1.length : Nat) ≤ (p.length : Nat); omega, Nat.le_refl _, hcap, by show p.length ≤ 1000000; omega, ⟨by show 0 ≤ v6; omega, by show v6 ≤ 255; omega⟩, fun v10 h10 => ⟨(t + 1, c1', c2', c3'), ⟨rfl, rfl⟩, rfl, ?_, ⟨⟨rfl, rfl, rfl, Nat.le_refl _, hcap, Nat.le_refl _⟩, fun k hk => ?_⟩, ⟨⟨rfl, rfl, rfl, Nat.le_refl _, Nat.le_refl _⟩, fun k hk => ?_⟩, ⟨by show t + 1 ≤ _; omega, hcap⟩, by show p.length - (t + 1) < _; omega⟩⟩
    · rw [h10, w64_id (by omega) (by omega)]
      show _ = (p.length : Int) - 1 - ((t + 1 : Nat) : Int)
      omega
    · show sprF (fun k => (((qst p q p.length t).1 k : Nat) : Int)) s1 v9.toNat v6 s1.length k = (((qst p q p.length (t + 1)).1 k : Nat) : Int)
      rw [e9, e6, sprF_nat hF s1 _ hql]
      show ((spr _ s1 _ _ k : Nat) : Int) = ((spr _ q (p.length - 1 - t - (tlen q - 1)) _ k : Nat) : Int)
      rw [hd']
      unfold spr
      rw [c1]
    · show (if k = v8.toNat then xr (((qst p q p.length t).2 v8.toNat : Nat) : Int) v6 else (((qst p q p.length t).2 k : Nat) : Int)) = ((if k = p.length - 1 - t - (tlen q - 1) then qc q (p.length - 1 - t) (qst p q p.length t) else (qst p q p.length t).2 k : Nat) : Int)
      rw [e8, e6, hd']
      by_cases e : k = p.length - 1 - t - d
      · rw [if_pos e, if_pos e, qst_zero p q p.length t _ (by omega) (by omega)]
        exact (xr_nat (a := 0) (by decide) hql).trans (by rw [xor0'])
      · rw [if_neg e, if_neg e]
  · have hc2 := of_decide_eq_false hc2
    obtain rfl : t = p.length - d := by omega
    obtain ⟨q1, q2⟩ := quo_at (p := p) hq
    unfold qfin at q1 q2
    rw [hd'] at q1 q2
    exact ⟨by rw [hs2]; exact q1, by rw [hs3]; exact q2, by rw [if_neg hq]⟩
end Galois
