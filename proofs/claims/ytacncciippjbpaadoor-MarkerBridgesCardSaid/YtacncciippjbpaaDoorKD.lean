/-
  OWN WORK. Marker: the reference's finder: Soft, wrong, examine.
-/
import Derived.Test.YtacncciippjbpaaDoorK9
namespace Mk
open Go Go.Proofs Eng
set_option linter.unusedVariables false
set_option linter.unusedSimpArgs false
set_option maxRecDepth 100000
set_option maxHeartbeats 4000000

abbrev aRow1 : ArgL (RowD Int × Unit) := .cons (.row (.int .i64)) .nil
def softC := pcOf aRow1 (fun _ => []) (fun x => .bool (softB x.1.f x.1.n))
theorem soft_ok : PcOk Tryd.prog 42 softC := by
  refine pcOf_run (fun _ => E0_ok) Tryd.func42 rfl (by kernel_rfl) (fun x => trivial)
    (fun x => [.lp 2 Nat [3] (fun i => [.int .i64 (i : Nat)]) (fun i => i ≤ x.1.n ∧ softB x.1.f i = true) fun i => x.1.n - i]) (fun _ => Nat.le_of_ble_eq_true rfl) (fun ⟨⟨b, off, n, c, z, f⟩, ()⟩ hp hw => ?_)
  have hn : n ≤ c ∧ c ≤ 9223372036854775807 := (hw _ (List.mem_cons_self ..)).2
  refine vc_of (q :=
      (∃ (x1 : Nat), (0 : Int) = (↑x1 : Int) ∧ x1 ≤ n ∧ Mk.softB f x1 = Bool.true) ∧ ∀ (b1 : Nat), b1 ≤ n ∧ Mk.softB f b1 = Bool.true → ∀ (v1 : Int), v1 = (↑n : Int) → (Decidable.decide ((↑b1 : Int) < v1) = Bool.true → (0 : Int) ≤ (↑b1 : Int) ∧ (↑b1 : Int) < (↑n : Int) ∧ (b = b ∧ off = off) ∧ Int.toNat (↑b1 : Int) < n ∧ (Decidable.decide (f (Int.toNat (↑b1 : Int)) < (-8 : Int)) = Bool.false → (0 : Int) ≤
      (↑b1 : Int)) ∧ (Decidable.decide (f (Int.toNat (↑b1 : Int)) < (-8 : Int)) = Bool.false → (↑b1 : Int) < (↑n : Int)) ∧ (Decidable.decide (f (Int.toNat (↑b1 : Int)) < (-8 : Int)) = Bool.false → b = b ∧ off = off) ∧ (Decidable.decide (f (Int.toNat (↑b1 : Int)) < (-8 : Int)) = Bool.false → Int.toNat (↑b1 : Int) < n) ∧ ∀ (t1 : Bool), (t1 = if Decidable.decide (f (Int.toNat (↑b1 : Int)) < (-8 : Int)) =
      Bool.true then Bool.true else Decidable.decide (f (Int.toNat (↑b1 : Int)) > (7 : Int))) → (t1 = Bool.true → Bool.false = Mk.softB f n) ∧ (t1 = Bool.false → ∀ (v2 : Int), v2 = Go.IntKind.wrap Go.IntKind.i64 ((↑b1 : Int) + (1 : Int)) → ∃ (x2 : Nat), v2 = (↑x2 : Int) ∧ (x2 ≤ n ∧ Mk.softB f x2 = Bool.true) ∧ n - x2 < n - b1)) ∧ (Decidable.decide ((↑b1 : Int) < v1) = Bool.false → Bool.true = Mk.softB f
      n)) (by kernel_rfl) ?_
  try simp only [eq_self, true_and, and_true, Nat.le_refl, implies_true, forall_const, Bool.false_eq_true, Bool.true_eq_false, reduceCtorEq, false_imp_iff, true_imp_iff, Int.toNat_zero, Int.toNat_natCast, Nat.zero_lt_one, Int.le_refl, allGet]
  refine ⟨⟨0, rfl, Nat.zero_le _, rfl⟩, ?_⟩
  rintro i ⟨hi, hs⟩ v1 hv1
  subst hv1
  refine ⟨fun hlt => ?_, fun hge => ?_⟩
  · have hlt := of_decide_eq_true hlt
    have ht : ∀ t2 : Bool, (t2 = if decide (f i < -8) = true then true else decide (f i > 7)) → t2 = !isV (f i) := fun t2 h2 => by
      rw [h2, isV]
      by_cases q : f i < -8
      · rw [if_pos (decide_eq_true q), decide_eq_false (show ¬ (-8 ≤ f i) by omega)]; rfl
      · rw [if_neg (by simpa using q), decide_eq_true (show -8 ≤ f i by omega), Bool.true_and]
        by_cases q2 : f i > 7
        · rw [decide_eq_true q2, decide_eq_false (show ¬ f i ≤ 7 by omega)]; rfl
        · rw [decide_eq_false q2, decide_eq_true (show f i ≤ 7 by omega)]; rfl
    refine ⟨by omega, by omega, by omega, fun _ => by omega, fun _ => by omega, fun _ => by omega, fun t2 h2 => ⟨fun h => ?_, fun h v3 h3 => ⟨i + 1, h3.trans (l_succ (by omega)), ⟨by omega, ?_⟩, by omega⟩⟩⟩
    · have hv : isV (f i) = false := by have := ht t2 h2; rw [h] at this; simpa using this.symm
      rw [softB_false hv (by omega)]
    · have hv : isV (f i) = true := by have := ht t2 h2; rw [h] at this; simpa using this.symm
      rw [softB, hs, hv]; rfl
  · have hge := of_decide_eq_false hge
    obtain rfl : i = n := by omega
    rw [hs]
/-! ### the reference's finder -/
abbrev RD := Nat × Nat × (Int × OwnD Int × Bool × Int × Bool × Int × Int × Unit)
abbrev aRef : Arg RD := .optr 46 7 (.agg (.cons (.elt (.int .i64)) (.cons (.orow 3 (.int .i64)) (.cons (.elt .bool) (.cons (.elt (.int .i64)) (.cons (.elt .bool) (.cons (.elt (.int .i64)) (.cons (.elt (.int .i64)) .nil))))))))
namespace RD
abbrev len (d : RD) : Int := d.2.2.1
abbrev l (d : RD) : OwnD Int := d.2.2.2.1
abbrev lk (d : RD) : Bool := d.2.2.2.2.1
abbrev pl (d : RD) : Int := d.2.2.2.2.2.1
abbrev op (d : RD) : Bool := d.2.2.2.2.2.2.1
abbrev wg (d : RD) : Int := d.2.2.2.2.2.2.2.1
abbrev ms (d : RD) : Int := d.2.2.2.2.2.2.2.2.1
abbrev mk (b off : Nat) (len : Int) (l : OwnD Int) (lk : Bool) (pl : Int) (op : Bool) (wg ms : Int) : RD := (b, off, (len, l, lk, pl, op, wg, ms, ()))
end RD
abbrev aRR : ArgL ((Nat × Nat × (Int × RowD Int × Bool × Int × Bool × Int × Int × Unit)) × Unit) := .cons (.ptr 7 (.agg (.cons (.elt (.int .i64)) (.cons (.row (.int .i64)) (.cons (.elt .bool) (.cons (.elt (.int .i64)) (.cons (.elt .bool) (.cons (.elt (.int .i64)) (.cons (.elt (.int .i64)) .nil))))))))) .nil
def ER : Env := (E0.addP 29 syms).addQ 4 eqBool
theorem ER_ok : EnvOk Tryd.prog ER := (E0_ok.addP symsR_ok).addQ (eqBool_ok (by kernel_rfl))
def wrongC := pcOf aRR (fun x => [0 ≤ x.1.2.2.2.2.2.1, x.1.2.2.2.2.2.1 + 32 ≤ x.1.2.2.2.1.n, x.1.2.2.2.1.n ≤ 4611686018427387904]) (fun x => .int .i64 (wrA x.1.2.2.2.1.f x.1.2.2.2.2.2.1.toNat : Nat))
theorem wrong_ok : PcOk Tryd.prog 55 wrongC := by
  refine pcOf_run (fun _ => ER_ok) Tryd.func55 rfl (by kernel_rfl) (fun x => trivial)
    (fun x => [.lp 4 Nat [4, 5] (fun k => [.int .i64 (wr (fun i => x.1.2.2.2.1.f (x.1.2.2.2.2.2.1.toNat + i)) k : Nat), .int .i64 (k : Nat)]) (fun k => k ≤ 32) fun k => 32 - k,
      .draw 6 (.take 0 (.take 1 (.take 2 (.take 3 (.take 4 (.take 5 (.take 6 (.take 7 (.take 8 (.take 9 (.take 10 (.take 11 (.take 12 (.take 13 (.take 14 (.take 15 (.take 16 (.take 17 .fin)))))))))))))))))) []]) (fun _ => Nat.le_of_ble_eq_true rfl) (fun ⟨⟨fb, fo, (len, ⟨b, off, n, c, z, f⟩, lk, pl, op, wg, ms, ())⟩, ()⟩ hp hw => ?_)
  refine vc_of (q :=
      ∀ (s1 : List UInt8), s1 = Mk.symL → (∃ (x1 : Nat), (0 : Int) = (↑(Mk.wr (fun (i : Nat) ↦ f (Int.toNat pl + i)) x1) : Int) ∧ (0 : Int) = (↑x1 : Int) ∧ Nat.le x1 (32 : Nat)) ∧ ∀ (b1 : Nat), b1 ≤ (32 : Nat) → (Decidable.decide ((↑b1 : Int) < (32 : Int)) = Bool.true → (fb = fb ∧ fo = fo) ∧ (fb = fb ∧ fo = fo) ∧ ∀ (v1 : Int), v1 = Go.IntKind.wrap Go.IntKind.i64 (pl + (↑b1 : Int)) → (0 : Int) ≤ v1 ∧ v1 <
      (↑n : Int) ∧ (b = b ∧ off = off) ∧ Int.toNat v1 < n ∧ (0 : Int) ≤ (↑b1 : Int) ∧ (↑b1 : Int) < (↑(List.length s1) : Int) ∧ ((!Decidable.decide (f (Int.toNat v1) ≥ (0 : Int)) == ((↑(UInt8.toNat (List.getD s1 (Int.toNat (↑b1 : Int)) (0 : UInt8))) : Int) == (1 : Int))) = Bool.true → ∀ (v2 : Int), v2 = Go.IntKind.wrap Go.IntKind.i64 ((↑(Mk.wr (fun (i : Nat) ↦ f (Int.toNat pl + i)) b1) : Int) + (1 :
      Int)) → ∀ (v3 : Int), v3 = Go.IntKind.wrap Go.IntKind.i64 ((↑b1 : Int) + (1 : Int)) → ∃ (x2 : Nat), v2 = (↑(Mk.wr (fun (i : Nat) ↦ f (Int.toNat pl + i)) x2) : Int) ∧ v3 = (↑x2 : Int) ∧ x2 ≤ (32 : Nat) ∧ (32 : Nat) - x2 < (32 : Nat) - b1) ∧ ((!Decidable.decide (f (Int.toNat v1) ≥ (0 : Int)) == ((↑(UInt8.toNat (List.getD s1 (Int.toNat (↑b1 : Int)) (0 : UInt8))) : Int) == (1 : Int))) = Bool.false → ∀
      (v3 : Int), v3 = Go.IntKind.wrap Go.IntKind.i64 ((↑b1 : Int) + (1 : Int)) → ∃ (x2 : Nat), (↑(Mk.wr (fun (i : Nat) ↦ f (Int.toNat pl + i)) b1) : Int) = (↑(Mk.wr (fun (i : Nat) ↦ f (Int.toNat pl + i)) x2) : Int) ∧ v3 = (↑x2 : Int) ∧ x2 ≤ (32 : Nat) ∧ (32 : Nat) - x2 < (32 : Nat) - b1)) ∧ (Decidable.decide ((↑b1 : Int) < (32 : Int)) = Bool.false → (↑(Mk.wr (fun (i : Nat) ↦ f (Int.toNat pl + i)) b1) :
      Int) = (↑(Mk.wrA f (Int.toNat pl)) : Int))) (by kernel_rfl) ?_
  try simp only [eq_self, true_and, and_true, Nat.le_refl, implies_true, forall_const, Bool.false_eq_true, Bool.true_eq_false, reduceCtorEq, false_imp_iff, true_imp_iff, Int.toNat_zero, Int.toNat_natCast, Nat.zero_lt_one, Int.le_refl, allGet]
  obtain ⟨h0, h1, h2, _⟩ := hp
  dsimp only at h0 h1 h2
  obtain ⟨q, rfl⟩ : ∃ q : Nat, pl = q := ⟨pl.toNat, by omega⟩
  rw [toNat_nat]
  intro s1 hs1
  have hl : s1.length = 32 := by rw [hs1, symL_len]
  refine ⟨⟨0, rfl, rfl, Nat.zero_le _⟩, fun k hk => ⟨fun hlt v1 hv1 => ?_, fun hge => ?_⟩⟩
  · have hlt := of_decide_eq_true hlt
    have e1 : v1 = ((q + k : Nat) : Int) := by rw [hv1, w64_id (by omega) (by omega)]; omega
    subst e1
    rw [toNat_nat, hl]
    have hw := wr_le (fun i => f (q + i)) k
    have hsy : ((s1.getD k 0).toNat : Int) = symF k := by rw [hs1]; exact bytof_getD (f := symF) (by omega) (symF_nat k).1 (symF_nat k).2
    have hi : (!decide (f (q + k) ≥ 0) == (((s1.getD k 0).toNat : Int) == 1)) = isW (f (q + k)) k := by rw [hsy]; rfl
    rw [hi]
    refine ⟨by omega, by omega, by omega, by omega, by omega, fun h v2 h2 v3 h3 => ⟨k + 1, ?_, h3.trans (l_succ (by omega)), by omega, by omega⟩, fun h v3 h3 => ⟨k + 1, ?_, h3.trans (l_succ (by omega)), by omega, by omega⟩⟩
    · rw [h2, w64_id (by omega) (by omega), wr, if_pos h]; rfl
    · rw [wr, if_neg (by rw [h]; decide)]; rfl
  · have hge := of_decide_eq_false hge
    obtain rfl : k = 32 := by omega
    rfl
/-! ### examine -/
def RD.ok (d : RD) : Prop := (d.l.n ≤ d.l.m ∧ d.l.m ≤ d.l.cap ∧ d.l.n ≤ d.l.c ∧ d.l.c ≤ d.l.cap) ∧ (d.l.z = true → d.l.ez = true) ∧ 0 ≤ d.pl ∧ d.pl ≤ d.l.n ∧ d.l.n ≤ 1099511627776 ∧ 0 ≤ d.ms ∧ d.ms ≤ 3 ∧ (d.ms < 3 ∨ d.lk = false)
/-- What the reference's examine does. -/
def RD.exam (d : RD) : RD × Bool :=
  if d.op = true ∨ (d.l.n : Int) < d.pl + 32 then (d, false)
  else if wrA d.l.f d.pl.toNat ≤ 2 then (RD.mk d.1 d.2.1 d.len d.l true d.pl true (wrA d.l.f d.pl.toNat : Nat) 0, true)
  else if d.lk = false then (RD.mk d.1 d.2.1 d.len d.l d.lk (d.pl + 1) d.op d.wg d.ms, true)
  else if d.ms + 1 = 3 then (RD.mk d.1 d.2.1 d.len d.l false (d.pl + 1) d.op d.wg (d.ms + 1), true)
  else (RD.mk d.1 d.2.1 d.len d.l d.lk d.pl true (wrA d.l.f d.pl.toNat : Nat) (d.ms + 1), true)
abbrev aRf : ArgL (RD × Unit) := .cons aRef .nil
def examR := ecU aRf (fun x => [x.1.ok]) (fun x (y : RD × Bool) => y = x.1.exam) (fun x y => (y.1, ())) (fun x y => .bool y.2)
def ERX : Env := E0.addP 55 wrongC
theorem ERX_ok : EnvOk Tryd.prog ERX := E0_ok.addP wrong_ok
theorem examR_ok : EcOk Tryd.prog 43 examR := by
  refine ecC_run (fun _ => ERX_ok) Tryd.func43 rfl (by kernel_rfl) []
    (fun x => [.draw 1 (.take 0 (.take 1 (.take 2 (.take 3 (.take 4 (.take 5 (.take 6 (.take 7 (.take 8 (.take 9 (.take 10 (.take 11 (.take 12 (.take 13 (.take 14 (.take 15 (.take 16 .fin))))))))))))))))) []]) (fun _ => Nat.le_of_ble_eq_true rfl) (fun ⟨⟨fb, fo, (len, ⟨b, off, n, c, z, m, cap, ez, f⟩, lk, pl, op, wg, ms, ())⟩, ()⟩ hp hw => ?_)
  refine vc_of (q :=
      (fb = fb ∧ fo = fo) ∧ (op = Bool.false → fb = fb ∧ fo = fo) ∧ ∀ (v1 : Int), v1 = Go.IntKind.wrap Go.IntKind.i64 (pl + (32 : Int)) → (op = Bool.false → fb = fb ∧ fo = fo) ∧ ∀ (v2 : Int), v2 = (↑n : Int) → ∀ (t1 : Bool), (t1 = if op = Bool.true then Bool.true else Decidable.decide (v1 > v2)) → (t1 = Bool.true → ∃ (x1 : (Nat × Nat × Int × Eng.OwnD Int × Bool × Int × Bool × Int × Int × Unit) × Bool),
      Bool.false = Prod.snd x1 ∧ ((fb = Prod.fst (Prod.fst x1) ∧ fo = Prod.fst (Prod.snd (Prod.fst x1)) ∧ Bool.false = Bool.false ∧ (1 : Nat) ≤ (1 : Nat) ∧ (1 : Nat) ≤ (1 : Nat) ∧ (1 : Nat) ≤ (1 : Nat)) ∧ len = Prod.fst (Prod.snd (Prod.snd (Prod.fst x1))) ∧ (b = Eng.OwnD.b (Prod.fst (Prod.snd (Prod.snd (Prod.snd (Prod.fst x1))))) ∧ off = Eng.OwnD.off (Prod.fst (Prod.snd (Prod.snd (Prod.snd (Prod.fst
      x1))))) ∧ (0 : Nat) = (0 : Nat) ∧ n = Eng.OwnD.n (Prod.fst (Prod.snd (Prod.snd (Prod.snd (Prod.fst x1))))) ∧ c = Eng.OwnD.c (Prod.fst (Prod.snd (Prod.snd (Prod.snd (Prod.fst x1))))) ∧ z = Eng.OwnD.z (Prod.fst (Prod.snd (Prod.snd (Prod.snd (Prod.fst x1)))))) ∧ lk = Prod.fst (Prod.snd (Prod.snd (Prod.snd (Prod.snd (Prod.fst x1))))) ∧ pl = Prod.fst (Prod.snd (Prod.snd (Prod.snd (Prod.snd (Prod.snd
      (Prod.fst x1)))))) ∧ op = Prod.fst (Prod.snd (Prod.snd (Prod.snd (Prod.snd (Prod.snd (Prod.snd (Prod.fst x1))))))) ∧ wg = Prod.fst (Prod.snd (Prod.snd (Prod.snd (Prod.snd (Prod.snd (Prod.snd (Prod.snd (Prod.fst x1)))))))) ∧ ms = Prod.fst (Prod.snd (Prod.snd (Prod.snd (Prod.snd (Prod.snd (Prod.snd (Prod.snd (Prod.snd (Prod.fst x1)))))))))) ∧ ((b = Eng.OwnD.b (Prod.fst (Prod.snd (Prod.snd (Prod.snd
      (Prod.fst x1))))) ∧ off = Eng.OwnD.off (Prod.fst (Prod.snd (Prod.snd (Prod.snd (Prod.fst x1))))) ∧ ez = Eng.OwnD.ez (Prod.fst (Prod.snd (Prod.snd (Prod.snd (Prod.fst x1))))) ∧ Eng.OwnD.m (Prod.fst (Prod.snd (Prod.snd (Prod.snd (Prod.fst x1))))) ≤ m ∧ Eng.OwnD.m (Prod.fst (Prod.snd (Prod.snd (Prod.snd (Prod.fst x1))))) ≤ Eng.OwnD.cap (Prod.fst (Prod.snd (Prod.snd (Prod.snd (Prod.fst x1))))) ∧
      Eng.OwnD.cap (Prod.fst (Prod.snd (Prod.snd (Prod.snd (Prod.fst x1))))) ≤ cap) ∧ ∀ (i1 : Nat), i1 < Eng.OwnD.m (Prod.fst (Prod.snd (Prod.snd (Prod.snd (Prod.fst x1))))) → f i1 = Eng.OwnD.f (Prod.fst (Prod.snd (Prod.snd (Prod.snd (Prod.fst x1))))) i1) ∧ x1 = Mk.RD.exam (fb, fo, len, Eng.OwnD.mk b off n c z m cap ez f, lk, pl, op, wg, ms, ())) ∧ (t1 = Bool.false → (fb = fb ∧ fo = fo) ∧ n ≤ m ∧ (∀ (k1
      : Nat), k1 < n → Bool.true = Bool.true) ∧ (b = b ∧ off = off) ∧ (0 : Int) ≤ pl ∧ pl + (32 : Int) ≤ (↑n : Int) ∧ n ≤ (4611686018427387904 : Nat) ∧ ∀ (v3 : Int), v3 = (↑(Mk.wrA f (Int.toNat pl)) : Int) → (Decidable.decide (v3 ≤ (2 : Int)) = Bool.true → (fb = fb ∧ fo = fo) ∧ (fb = fb ∧ fo = fo) ∧ (fb = fb ∧ fo = fo) ∧ (fb = fb ∧ fo = fo) ∧ ∃ (x2 : (Nat × Nat × Int × Eng.OwnD Int × Bool × Int × Bool ×
      Int × Int × Unit) × Bool), Bool.true = Prod.snd x2 ∧ ((fb = Prod.fst (Prod.fst x2) ∧ fo = Prod.fst (Prod.snd (Prod.fst x2)) ∧ Bool.false = Bool.false ∧ (1 : Nat) ≤ (1 : Nat) ∧ (1 : Nat) ≤ (1 : Nat) ∧ (1 : Nat) ≤ (1 : Nat)) ∧ len = Prod.fst (Prod.snd (Prod.snd (Prod.fst x2))) ∧ (b = Eng.OwnD.b (Prod.fst (Prod.snd (Prod.snd (Prod.snd (Prod.fst x2))))) ∧ off = Eng.OwnD.off (Prod.fst (Prod.snd
      (Prod.snd (Prod.snd (Prod.fst x2))))) ∧ (0 : Nat) = (0 : Nat) ∧ n = Eng.OwnD.n (Prod.fst (Prod.snd (Prod.snd (Prod.snd (Prod.fst x2))))) ∧ c = Eng.OwnD.c (Prod.fst (Prod.snd (Prod.snd (Prod.snd (Prod.fst x2))))) ∧ z = Eng.OwnD.z (Prod.fst (Prod.snd (Prod.snd (Prod.snd (Prod.fst x2)))))) ∧ Bool.true = Prod.fst (Prod.snd (Prod.snd (Prod.snd (Prod.snd (Prod.fst x2))))) ∧ pl = Prod.fst (Prod.snd
      (Prod.snd (Prod.snd (Prod.snd (Prod.snd (Prod.fst x2)))))) ∧ Bool.true = Prod.fst (Prod.snd (Prod.snd (Prod.snd (Prod.snd (Prod.snd (Prod.snd (Prod.fst x2))))))) ∧ v3 = Prod.fst (Prod.snd (Prod.snd (Prod.snd (Prod.snd (Prod.snd (Prod.snd (Prod.snd (Prod.fst x2)))))))) ∧ (0 : Int) = Prod.fst (Prod.snd (Prod.snd (Prod.snd (Prod.snd (Prod.snd (Prod.snd (Prod.snd (Prod.snd (Prod.fst x2)))))))))) ∧ ((b
      = Eng.OwnD.b (Prod.fst (Prod.snd (Prod.snd (Prod.snd (Prod.fst x2))))) ∧ off = Eng.OwnD.off (Prod.fst (Prod.snd (Prod.snd (Prod.snd (Prod.fst x2))))) ∧ ez = Eng.OwnD.ez (Prod.fst (Prod.snd (Prod.snd (Prod.snd (Prod.fst x2))))) ∧ Eng.OwnD.m (Prod.fst (Prod.snd (Prod.snd (Prod.snd (Prod.fst x2))))) ≤ m ∧ Eng.OwnD.m (Prod.fst (Prod.snd (Prod.snd (Prod.snd (Prod.fst x2))))) ≤ Eng.OwnD.cap (Prod.fst
      (Prod.snd (Prod.snd (Prod.snd (Prod.fst x2))))) ∧ Eng.OwnD.cap (Prod.fst (Prod.snd (Prod.snd (Prod.snd (Prod.fst x2))))) ≤ cap) ∧ ∀ (i2 : Nat), i2 < Eng.OwnD.m (Prod.fst (Prod.snd (Prod.snd (Prod.snd (Prod.fst x2))))) → f i2 = Eng.OwnD.f (Prod.fst (Prod.snd (Prod.snd (Prod.snd (Prod.fst x2))))) i2) ∧ x2 = Mk.RD.exam (fb, fo, len, Eng.OwnD.mk b off n c z m cap ez f, lk, pl, op, wg, ms, ())) ∧
      (Decidable.decide (v3 ≤ (2 : Int)) = Bool.false → (fb = fb ∧ fo = fo) ∧ ((!lk) = Bool.true → (fb = fb ∧ fo = fo) ∧ ∀ (v4 : Int), v4 = Go.IntKind.wrap Go.IntKind.i64 (pl + (1 : Int)) → (fb = fb ∧ fo = fo) ∧ ∃ (x3 : (Nat × Nat × Int × Eng.OwnD Int × Bool × Int × Bool × Int × Int × Unit) × Bool), Bool.true = Prod.snd x3 ∧ ((fb = Prod.fst (Prod.fst x3) ∧ fo = Prod.fst (Prod.snd (Prod.fst x3)) ∧
      Bool.false = Bool.false ∧ (1 : Nat) ≤ (1 : Nat) ∧ (1 : Nat) ≤ (1 : Nat) ∧ (1 : Nat) ≤ (1 : Nat)) ∧ len = Prod.fst (Prod.snd (Prod.snd (Prod.fst x3))) ∧ (b = Eng.OwnD.b (Prod.fst (Prod.snd (Prod.snd (Prod.snd (Prod.fst x3))))) ∧ off = Eng.OwnD.off (Prod.fst (Prod.snd (Prod.snd (Prod.snd (Prod.fst x3))))) ∧ (0 : Nat) = (0 : Nat) ∧ n = Eng.OwnD.n (Prod.fst (Prod.snd (Prod.snd (Prod.snd (Prod.fst
      x3))))) ∧ c = Eng.OwnD.c (Prod.fst (Prod.snd (Prod.snd (Prod.snd (Prod.fst x3))))) ∧ z = Eng.OwnD.z (Prod.fst (Prod.snd (Prod.snd (Prod.snd (Prod.fst x3)))))) ∧ lk = Prod.fst (Prod.snd (Prod.snd (Prod.snd (Prod.snd (Prod.fst x3))))) ∧ v4 = Prod.fst (Prod.snd (Prod.snd (Prod.snd (Prod.snd (Prod.snd (Prod.fst x3)))))) ∧ op = Prod.fst (Prod.snd (Prod.snd (Prod.snd (Prod.snd (Prod.snd (Prod.snd
      (Prod.fst x3))))))) ∧ wg = Prod.fst (Prod.snd (Prod.snd (Prod.snd (Prod.snd (Prod.snd (Prod.snd (Prod.snd (Prod.fst x3)))))))) ∧ ms = Prod.fst (Prod.snd (Prod.snd (Prod.snd (Prod.snd (Prod.snd (Prod.snd (Prod.snd (Prod.snd (Prod.fst x3)))))))))) ∧ ((b = Eng.OwnD.b (Prod.fst (Prod.snd (Prod.snd (Prod.snd (Prod.fst x3))))) ∧ off = Eng.OwnD.off (Prod.fst (Prod.snd (Prod.snd (Prod.snd (Prod.fst x3)))))
      ∧ ez = Eng.OwnD.ez (Prod.fst (Prod.snd (Prod.snd (Prod.snd (Prod.fst x3))))) ∧ Eng.OwnD.m (Prod.fst (Prod.snd (Prod.snd (Prod.snd (Prod.fst x3))))) ≤ m ∧ Eng.OwnD.m (Prod.fst (Prod.snd (Prod.snd (Prod.snd (Prod.fst x3))))) ≤ Eng.OwnD.cap (Prod.fst (Prod.snd (Prod.snd (Prod.snd (Prod.fst x3))))) ∧ Eng.OwnD.cap (Prod.fst (Prod.snd (Prod.snd (Prod.snd (Prod.fst x3))))) ≤ cap) ∧ ∀ (i3 : Nat), i3 <
      Eng.OwnD.m (Prod.fst (Prod.snd (Prod.snd (Prod.snd (Prod.fst x3))))) → f i3 = Eng.OwnD.f (Prod.fst (Prod.snd (Prod.snd (Prod.snd (Prod.fst x3))))) i3) ∧ x3 = Mk.RD.exam (fb, fo, len, Eng.OwnD.mk b off n c z m cap ez f, lk, pl, op, wg, ms, ())) ∧ ((!lk) = Bool.false → (fb = fb ∧ fo = fo) ∧ ∀ (v5 : Int), v5 = Go.IntKind.wrap Go.IntKind.i64 (ms + (1 : Int)) → (fb = fb ∧ fo = fo) ∧ (fb = fb ∧ fo = fo)
      ∧ ((v5 == (3 : Int)) = Bool.true → (fb = fb ∧ fo = fo) ∧ (fb = fb ∧ fo = fo) ∧ ∀ (v6 : Int), v6 = Go.IntKind.wrap Go.IntKind.i64 (pl + (1 : Int)) → (fb = fb ∧ fo = fo) ∧ ∃ (x3 : (Nat × Nat × Int × Eng.OwnD Int × Bool × Int × Bool × Int × Int × Unit) × Bool), Bool.true = Prod.snd x3 ∧ ((fb = Prod.fst (Prod.fst x3) ∧ fo = Prod.fst (Prod.snd (Prod.fst x3)) ∧ Bool.false = Bool.false ∧ (1 : Nat) ≤ (1 :
      Nat) ∧ (1 : Nat) ≤ (1 : Nat) ∧ (1 : Nat) ≤ (1 : Nat)) ∧ len = Prod.fst (Prod.snd (Prod.snd (Prod.fst x3))) ∧ (b = Eng.OwnD.b (Prod.fst (Prod.snd (Prod.snd (Prod.snd (Prod.fst x3))))) ∧ off = Eng.OwnD.off (Prod.fst (Prod.snd (Prod.snd (Prod.snd (Prod.fst x3))))) ∧ (0 : Nat) = (0 : Nat) ∧ n = Eng.OwnD.n (Prod.fst (Prod.snd (Prod.snd (Prod.snd (Prod.fst x3))))) ∧ c = Eng.OwnD.c (Prod.fst (Prod.snd
      (Prod.snd (Prod.snd (Prod.fst x3))))) ∧ z = Eng.OwnD.z (Prod.fst (Prod.snd (Prod.snd (Prod.snd (Prod.fst x3)))))) ∧ Bool.false = Prod.fst (Prod.snd (Prod.snd (Prod.snd (Prod.snd (Prod.fst x3))))) ∧ v6 = Prod.fst (Prod.snd (Prod.snd (Prod.snd (Prod.snd (Prod.snd (Prod.fst x3)))))) ∧ op = Prod.fst (Prod.snd (Prod.snd (Prod.snd (Prod.snd (Prod.snd (Prod.snd (Prod.fst x3))))))) ∧ wg = Prod.fst
      (Prod.snd (Prod.snd (Prod.snd (Prod.snd (Prod.snd (Prod.snd (Prod.snd (Prod.fst x3)))))))) ∧ v5 = Prod.fst (Prod.snd (Prod.snd (Prod.snd (Prod.snd (Prod.snd (Prod.snd (Prod.snd (Prod.snd (Prod.fst x3)))))))))) ∧ ((b = Eng.OwnD.b (Prod.fst (Prod.snd (Prod.snd (Prod.snd (Prod.fst x3))))) ∧ off = Eng.OwnD.off (Prod.fst (Prod.snd (Prod.snd (Prod.snd (Prod.fst x3))))) ∧ ez = Eng.OwnD.ez (Prod.fst
      (Prod.snd (Prod.snd (Prod.snd (Prod.fst x3))))) ∧ Eng.OwnD.m (Prod.fst (Prod.snd (Prod.snd (Prod.snd (Prod.fst x3))))) ≤ m ∧ Eng.OwnD.m (Prod.fst (Prod.snd (Prod.snd (Prod.snd (Prod.fst x3))))) ≤ Eng.OwnD.cap (Prod.fst (Prod.snd (Prod.snd (Prod.snd (Prod.fst x3))))) ∧ Eng.OwnD.cap (Prod.fst (Prod.snd (Prod.snd (Prod.snd (Prod.fst x3))))) ≤ cap) ∧ ∀ (i3 : Nat), i3 < Eng.OwnD.m (Prod.fst (Prod.snd
      (Prod.snd (Prod.snd (Prod.fst x3))))) → f i3 = Eng.OwnD.f (Prod.fst (Prod.snd (Prod.snd (Prod.snd (Prod.fst x3))))) i3) ∧ x3 = Mk.RD.exam (fb, fo, len, Eng.OwnD.mk b off n c z m cap ez f, lk, pl, op, wg, ms, ())) ∧ ((v5 == (3 : Int)) = Bool.false → (fb = fb ∧ fo = fo) ∧ (fb = fb ∧ fo = fo) ∧ ∃ (x3 : (Nat × Nat × Int × Eng.OwnD Int × Bool × Int × Bool × Int × Int × Unit) × Bool), Bool.true =
      Prod.snd x3 ∧ ((fb = Prod.fst (Prod.fst x3) ∧ fo = Prod.fst (Prod.snd (Prod.fst x3)) ∧ Bool.false = Bool.false ∧ (1 : Nat) ≤ (1 : Nat) ∧ (1 : Nat) ≤ (1 : Nat) ∧ (1 : Nat) ≤ (1 : Nat)) ∧ len = Prod.fst (Prod.snd (Prod.snd (Prod.fst x3))) ∧ (b = Eng.OwnD.b (Prod.fst (Prod.snd (Prod.snd (Prod.snd (Prod.fst x3))))) ∧ off = Eng.OwnD.off (Prod.fst (Prod.snd (Prod.snd (Prod.snd (Prod.fst x3))))) ∧ (0 :
      Nat) = (0 : Nat) ∧ n = Eng.OwnD.n (Prod.fst (Prod.snd (Prod.snd (Prod.snd (Prod.fst x3))))) ∧ c = Eng.OwnD.c (Prod.fst (Prod.snd (Prod.snd (Prod.snd (Prod.fst x3))))) ∧ z = Eng.OwnD.z (Prod.fst (Prod.snd (Prod.snd (Prod.snd (Prod.fst x3)))))) ∧ lk = Prod.fst (Prod.snd (Prod.snd (Prod.snd (Prod.snd (Prod.fst x3))))) ∧ pl = Prod.fst (Prod.snd (Prod.snd (Prod.snd (Prod.snd (Prod.snd (Prod.fst x3))))))
      ∧ Bool.true = Prod.fst (Prod.snd (Prod.snd (Prod.snd (Prod.snd (Prod.snd (Prod.snd (Prod.fst x3))))))) ∧ v3 = Prod.fst (Prod.snd (Prod.snd (Prod.snd (Prod.snd (Prod.snd (Prod.snd (Prod.snd (Prod.fst x3)))))))) ∧ v5 = Prod.fst (Prod.snd (Prod.snd (Prod.snd (Prod.snd (Prod.snd (Prod.snd (Prod.snd (Prod.snd (Prod.fst x3)))))))))) ∧ ((b = Eng.OwnD.b (Prod.fst (Prod.snd (Prod.snd (Prod.snd (Prod.fst
      x3))))) ∧ off = Eng.OwnD.off (Prod.fst (Prod.snd (Prod.snd (Prod.snd (Prod.fst x3))))) ∧ ez = Eng.OwnD.ez (Prod.fst (Prod.snd (Prod.snd (Prod.snd (Prod.fst x3))))) ∧ Eng.OwnD.m (Prod.fst (Prod.snd (Prod.snd (Prod.snd (Prod.fst x3))))) ≤ m ∧ Eng.OwnD.m (Prod.fst (Prod.snd (Prod.snd (Prod.snd (Prod.fst x3))))) ≤ Eng.OwnD.cap (Prod.fst (Prod.snd (Prod.snd (Prod.snd (Prod.fst x3))))) ∧ Eng.OwnD.cap
      (Prod.fst (Prod.snd (Prod.snd (Prod.snd (Prod.fst x3))))) ≤ cap) ∧ ∀ (i3 : Nat), i3 < Eng.OwnD.m (Prod.fst (Prod.snd (Prod.snd (Prod.snd (Prod.fst x3))))) → f i3 = Eng.OwnD.f (Prod.fst (Prod.snd (Prod.snd (Prod.snd (Prod.fst x3))))) i3) ∧ x3 = Mk.RD.exam (fb, fo, len, Eng.OwnD.mk b off n c z m cap ez f, lk, pl, op, wg, ms, ())))))) (by kernel_rfl) ?_
  try simp only [eq_self, true_and, and_true, Nat.le_refl, implies_true, forall_const, Bool.false_eq_true, Bool.true_eq_false, reduceCtorEq, false_imp_iff, true_imp_iff, Int.toNat_zero, Int.toNat_natCast, Nat.zero_lt_one, Int.le_refl, allGet]
  obtain ⟨⟨⟨h1, h2, h3, h4⟩, h5, h6, h7, h8, h9, h10, h11⟩, _⟩ := hp
  dsimp only [RD.l, RD.pl, RD.ms] at h1 h2 h3 h4 h5 h6 h7 h8 h9 h10
  have hE : RD.exam (fb, fo, len, ⟨b, off, n, c, z, m, cap, ez, f⟩, lk, pl, op, wg, ms, ()) = if op = true ∨ (n : Int) < pl + 32 then ((fb, fo, len, ⟨b, off, n, c, z, m, cap, ez, f⟩, lk, pl, op, wg, ms, ()), false)
      else if wrA f pl.toNat ≤ 2 then (RD.mk fb fo len ⟨b, off, n, c, z, m, cap, ez, f⟩ true pl true (wrA f pl.toNat : Nat) 0, true)
      else if lk = false then (RD.mk fb fo len ⟨b, off, n, c, z, m, cap, ez, f⟩ lk (pl + 1) op wg ms, true)
      else if ms + 1 = 3 then (RD.mk fb fo len ⟨b, off, n, c, z, m, cap, ez, f⟩ false (pl + 1) op wg (ms + 1), true)
      else (RD.mk fb fo len ⟨b, off, n, c, z, m, cap, ez, f⟩ lk pl true (wrA f pl.toNat : Nat) (ms + 1), true) := rfl
  rw [hE]
  intro v1 hv1 v2 hv2 t1 ht1
  have e1 : v1 = pl + 32 := by rw [hv1, w64_id (by omega) (by omega)]
  subst e1 hv2
  refine ⟨fun h => ?_, fun h => ?_⟩
  · have hc : op = true ∨ (n : Int) < pl + 32 := by
      rw [h] at ht1
      by_cases q : op = true
      · exact .inl q
      · rw [if_neg q] at ht1
        exact .inr (of_decide_eq_true ht1.symm)
    rw [if_pos hc]
    refine ⟨(RD.mk fb fo len ⟨b, off, n, c, z, m, cap, ez, f⟩ lk pl op wg ms, false), rfl, ⟨⟨rfl, rfl⟩, rfl, ⟨rfl, rfl, rfl, rfl, rfl⟩, rfl, rfl, rfl, rfl, rfl⟩, ⟨⟨rfl, rfl, rfl, Nat.le_refl _, h2, Nat.le_refl _⟩, fun _ _ => rfl⟩, ?_⟩
    rfl
  have hc : ¬ (op = true ∨ (n : Int) < pl + 32) := by
    rw [h] at ht1
    by_cases q : op = true
    · rw [if_pos q] at ht1; cases ht1
    · rw [if_neg q] at ht1
      have := of_decide_eq_false ht1.symm
      rintro (r | r)
      · exact q r
      · omega
  rw [if_neg hc]
  refine ⟨h1, h6, by omega, by omega, fun v3 hv3 => ?_⟩
  subst hv3
  refine ⟨fun q => ?_, fun q => ?_⟩
  · have q := of_decide_eq_true q
    rw [if_pos (by omega)]
    refine ⟨(RD.mk fb fo len ⟨b, off, n, c, z, m, cap, ez, f⟩ true pl true (wrA f pl.toNat : Nat) 0, true), rfl, ⟨⟨rfl, rfl⟩, rfl, ⟨rfl, rfl, rfl, rfl, rfl⟩, rfl, rfl, rfl, rfl, rfl⟩, ⟨⟨rfl, rfl, rfl, Nat.le_refl _, h2, Nat.le_refl _⟩, fun _ _ => rfl⟩, ?_⟩
    rfl
  have q := of_decide_eq_false q
  rw [if_neg (by omega)]
  refine ⟨fun r v4 hv4 => ?_, fun r v5 hv5 => ?_⟩
  · have r : lk = false := by rw [Bool.not_eq_true'] at r; exact r
    have e4 : v4 = pl + 1 := by rw [hv4, w64_id (by omega) (by omega)]
    subst e4
    rw [if_pos r]
    refine ⟨(RD.mk fb fo len ⟨b, off, n, c, z, m, cap, ez, f⟩ lk (pl + 1) op wg ms, true), rfl, ⟨⟨rfl, rfl⟩, rfl, ⟨rfl, rfl, rfl, rfl, rfl⟩, rfl, rfl, rfl, rfl, rfl⟩, ⟨⟨rfl, rfl, rfl, Nat.le_refl _, h2, Nat.le_refl _⟩, fun _ _ => rfl⟩, ?_⟩
    rfl
  have r : ¬ lk = false := by intro r'; rw [r'] at r; cases r
  rw [if_neg r]
  have e5 : v5 = ms + 1 := by rw [hv5, w64_id (by omega) (by omega)]
  subst e5
  refine ⟨fun w v6 hv6 => ?_, fun w => ?_⟩
  · have w : ms + 1 = 3 := by simpa using w
    have e6 : v6 = pl + 1 := by rw [hv6, w64_id (by omega) (by omega)]
    subst e6
    rw [if_pos w]
    refine ⟨(RD.mk fb fo len ⟨b, off, n, c, z, m, cap, ez, f⟩ false (pl + 1) op wg (ms + 1), true), rfl, ⟨⟨rfl, rfl⟩, rfl, ⟨rfl, rfl, rfl, rfl, rfl⟩, rfl, rfl, rfl, rfl, rfl⟩, ⟨⟨rfl, rfl, rfl, Nat.le_refl _, h2, Nat.le_refl _⟩, fun _ _ => rfl⟩, ?_⟩
    rfl
  · have w : ¬ ms + 1 = 3 := by simpa using w
    rw [if_neg w]
    refine ⟨(RD.mk fb fo len ⟨b, off, n, c, z, m, cap, ez, f⟩ lk pl true (wrA f pl.toNat : Nat) (ms + 1), true), rfl, ⟨⟨rfl, rfl⟩, rfl, ⟨rfl, rfl, rfl, rfl, rfl⟩, rfl, rfl, rfl, rfl, rfl⟩, ⟨⟨rfl, rfl, rfl, Nat.le_refl _, h2, Nat.le_refl _⟩, fun _ _ => rfl⟩, ?_⟩
    rfl
end Mk
