/-
  OWN WORK. Heat: SameLongs, same.
-/
import Derived.Test.YtmcpacfpnljijaaHB
namespace Heat
open Go Go.Proofs Eng
set_option linter.unusedVariables false
set_option linter.unusedSimpArgs false
set_option maxHeartbeats 4000000
set_option maxRecDepth 100000

/-- Are the first n pairs equal? -/
def eqTo (p : Nat → Bool) : Nat → Bool
  | 0 => true
  | n + 1 => eqTo p n && p n
theorem eqTo_no {p : Nat → Bool} {i : Nat} (h : p i = false) : ∀ {n : Nat}, i < n → eqTo p n = false
  | n + 1, hi => by
    simp only [eqTo]
    by_cases e : i = n
    · subst e; rw [h, Bool.and_false]
    · rw [eqTo_no h (by omega), Bool.false_and]
theorem eqTo_yes {p : Nat → Bool} : ∀ {n : Nat}, (∀ i, i < n → p i = true) → eqTo p n = true
  | 0, _ => rfl
  | n + 1, h => by simp only [eqTo]; rw [eqTo_yes fun i hi => h i (by omega), h n (by omega)]; rfl
abbrev aLongs : ArgL (RowD Int × RowD Int × Unit) := .cons (.row (.int .i64)) (.cons (.row (.int .i64)) .nil)
def longsB (a b : RowD Int) : Bool := decide (a.n = b.n) && eqTo (fun i => a.f i == b.f i) a.n
def sameLongs := pcOf aLongs (fun _ => []) (fun x => .bool (longsB x.1 x.2.1))
theorem sameLongs_ok : PcOk Try.prog 38 sameLongs := by
  refine pcOf_run (fun _ => E0_ok) Try.func38 rfl (by kernel_rfl) (fun _ => trivial)
    (fun x => [.lp 4 Nat [5] (fun i => [.int .i64 (i : Nat)]) (fun i => i ≤ x.1.n ∧ eqTo (fun i => x.1.f i == x.2.1.f i) i = true) fun i => x.1.n - i, .draw 6 (.take 0 (.take 1 (.take 2 (.take 3 (.take 4 (.take 5 (.take 6 (.take 7 (.take 8 .fin))))))))) []])
    (fun _ => Nat.le_of_ble_eq_true rfl) (fun ⟨⟨b, o, n, c, z, f⟩, ⟨b2, o2, n2, c2, z2, f2⟩, ()⟩ hp hw => ?_)
  have hn : n ≤ c ∧ c ≤ 9223372036854775807 := (hw _ (List.mem_cons_self ..)).2
  refine vc_of (q :=
      ∀ (v1 : Int), v1 = (↑n : Int) → ∀ (v2 : Int), v2 = (↑n2 : Int) → ((v1 != v2) = Bool.true → Bool.false = Heat.longsB (Eng.RowD.mk b o n c z f) (Eng.RowD.mk b2 o2 n2 c2 z2 f2)) ∧ ((v1 != v2) = Bool.false → (∃ (x1 : Nat), (0 : Int) = (↑x1 : Int) ∧ x1 ≤ n ∧ Heat.eqTo (fun (i : Nat) ↦ f i == f2 i) x1 = Bool.true) ∧ ∀ (b1 : Nat), b1 ≤ n ∧ Heat.eqTo (fun (i : Nat) ↦ f i == f2 i) b1 = Bool.true → ∀ (v3 :
      Int), v3 = (↑n : Int) → (Decidable.decide ((↑b1 : Int) < v3) = Bool.true → (0 : Int) ≤ (↑b1 : Int) ∧ (↑b1 : Int) < (↑n : Int) ∧ (b = b ∧ o = o) ∧ Int.toNat (↑b1 : Int) < n ∧ (0 : Int) ≤ (↑b1 : Int) ∧ (↑b1 : Int) < (↑n2 : Int) ∧ (b2 = b2 ∧ o2 = o2) ∧ Int.toNat (↑b1 : Int) < n2 ∧ ((f (Int.toNat (↑b1 : Int)) != f2 (Int.toNat (↑b1 : Int))) = Bool.true → Bool.false = Heat.longsB (Eng.RowD.mk b o n c z
      f) (Eng.RowD.mk b2 o2 n2 c2 z2 f2)) ∧ ((f (Int.toNat (↑b1 : Int)) != f2 (Int.toNat (↑b1 : Int))) = Bool.false → ∀ (v4 : Int), v4 = Go.IntKind.wrap Go.IntKind.i64 ((↑b1 : Int) + (1 : Int)) → ∃ (x2 : Nat), v4 = (↑x2 : Int) ∧ (x2 ≤ n ∧ Heat.eqTo (fun (i : Nat) ↦ f i == f2 i) x2 = Bool.true) ∧ n - x2 < n - b1)) ∧ (Decidable.decide ((↑b1 : Int) < v3) = Bool.false → Bool.true = Heat.longsB (Eng.RowD.mk b
      o n c z f) (Eng.RowD.mk b2 o2 n2 c2 z2 f2)))) (by kernel_rfl) ?_
  try simp only [eq_self, true_and, and_true, Nat.le_refl, implies_true, forall_const, Bool.false_eq_true, Bool.true_eq_false, reduceCtorEq, false_imp_iff, true_imp_iff, Int.toNat_zero, Int.toNat_natCast, Nat.zero_lt_one, Int.le_refl, allGet]
  intro v1 h1 v2 h2
  subst h1 h2
  refine ⟨fun h => ?_, fun h => ⟨⟨0, rfl, Nat.zero_le _, rfl⟩, fun i hi v3 hv3 => ?_⟩⟩
  · have : ¬ n = n2 := fun q => by subst q; simp at h
    show false = (decide (n = n2) && _)
    rw [decide_eq_false this]; rfl
  have hnn : n = n2 := by
    have : (n : Int) = n2 := by simpa using h
    omega
  obtain ⟨hi, he⟩ := hi
  subst hv3
  refine ⟨fun hlt => ?_, fun hge => ?_⟩
  · have hlt := of_decide_eq_true hlt
    refine ⟨by omega, by omega, by omega, by omega, by omega, by omega, fun q => ?_, fun q v3 h3 => ⟨i + 1, h3.trans (l_succ (by omega)), ⟨by omega, ?_⟩, by omega⟩⟩
    · have q : (f i == f2 i) = false := by simpa using q
      show false = (_ && eqTo (fun i => f i == f2 i) n)
      rw [eqTo_no (p := fun i => f i == f2 i) q (by omega), Bool.and_false]
    · have q : (f i == f2 i) = true := by simpa using q
      rw [eqTo, he]
      exact q
  · have hge := of_decide_eq_false hge
    obtain rfl : i = n := by omega
    show true = (decide (i = n2) && eqTo (fun i => f i == f2 i) i)
    rw [decide_eq_true hnn, he]; rfl
def EG0 : Env := (((EZ.addP 38 sameLongs).addQ 29 (eqStruct [.int .i64, .int .i64])).addQ 44 (eqStruct [.int .i64, .int .i64, .int .i64])).addQ 47 (eqStruct [.int .i64, .int .i64, .int .i64, .int .i64, .bool])
theorem EG0_ok : EnvOk Try.prog EG0 := (((EZ_ok.addP sameLongs_ok).addQ (eqStruct_ok (by kernel_rfl) (by kernel_rfl) (by kernel_rfl) (by kernel_rfl))).addQ (eqStruct_ok (by kernel_rfl) (by kernel_rfl) (by kernel_rfl) (by kernel_rfl))).addQ (eqStruct_ok (by kernel_rfl) (by kernel_rfl) (by kernel_rfl) (by kernel_rfl))
abbrev aSame : ArgL (Thermal × Thermal × Unit) := .cons tThermal (.cons tThermal .nil)
def nodeEq (a b : Node) : Bool := a.1 == b.1 && (a.2.1 == b.2.1 && true)
def pathEq (a b : Path) : Bool := a.1 == b.1 && (a.2.1 == b.2.1 && (a.2.2.1 == b.2.2.1 && true))
def heatEq (a b : Heater) : Bool := a.1 == b.1 && (a.2.1 == b.2.1 && (a.2.2.1 == b.2.2.1 && (a.2.2.2.1 == b.2.2.2.1 && (a.2.2.2.2.1 == b.2.2.2.2.1 && true))))
def sameB (a b : Thermal) : Bool := decide (a.1.n = b.1.n) && decide (a.2.1.n = b.2.1.n) && decide (a.2.2.1.n = b.2.2.1.n) && longsB a.2.2.2.1 b.2.2.2.1 && eqTo (fun i => nodeEq (a.1.f i) (b.1.f i)) a.1.n && eqTo (fun i => pathEq (a.2.1.f i) (b.2.1.f i)) a.2.1.n && eqTo (fun i => heatEq (a.2.2.1.f i) (b.2.2.1.f i)) a.2.2.1.n
def same := pcOf aSame (fun _ => []) (fun x => .bool (sameB x.1 x.2.1))
theorem same_ok : PcOk Try.prog 19 same := by
  refine pcOf_run (fun _ => EG0_ok) Try.func19 rfl (by kernel_rfl) (fun _ => trivial)
    (fun x => [.lp 4 Nat [5] (fun i => [.int .i64 (i : Nat)]) (fun i => i ≤ x.1.1.n ∧ eqTo (fun i => nodeEq (x.1.1.f i) (x.2.1.1.f i)) i = true) fun i => x.1.1.n - i, .draw 6 (.take 0 (.take 1 (.take 2 (.take 3 (.take 4 (.take 5 (.take 6 (.take 7 (.take 8 (.take 9 (.take 10 .fin))))))))))) [],
      .lp 9 Nat [6] (fun i => [.int .i64 (i : Nat)]) (fun i => i ≤ x.1.2.1.n ∧ eqTo (fun i => pathEq (x.1.2.1.f i) (x.2.1.2.1.f i)) i = true) fun i => x.1.2.1.n - i, .draw 11 (.take 0 (.take 1 (.take 2 (.take 3 (.take 4 (.take 5 (.take 6 (.take 7 (.take 8 (.take 9 (.take 10 .fin))))))))))) [],
      .lp 14 Nat [7] (fun i => [.int .i64 (i : Nat)]) (fun i => i ≤ x.1.2.2.1.n ∧ eqTo (fun i => heatEq (x.1.2.2.1.f i) (x.2.1.2.2.1.f i)) i = true) fun i => x.1.2.2.1.n - i, .draw 16 (.take 0 (.take 1 (.take 2 (.take 3 (.take 4 (.take 5 (.take 6 (.take 7 (.take 8 (.take 9 (.take 10 .fin))))))))))) []])
    (fun _ => Nat.le_of_ble_eq_true rfl) (fun ⟨⟨⟨nb, no, nn, nc, nz, nf⟩, ⟨pb, po, pn, pc, pz, pf⟩, ⟨hb, ho, hn, hc, hz, hf⟩, ⟨rb, ro, rn, rc, rz, rf⟩, ()⟩, ⟨⟨nb', no', nn', nc', nz', nf'⟩, ⟨pb', po', pn', pc', pz', pf'⟩, ⟨hb', ho', hn', hc', hz', hf'⟩, ⟨rb', ro', rn', rc', rz', rf'⟩, ()⟩, ()⟩ hp hw => ?_)
  have w0 : ((nz = true → nn = 0 ∧ nc = 0) ∧ nn ≤ nc ∧ nc ≤ 9223372036854775807) ∧ _ ∧ ((pz = true → pn = 0 ∧ pc = 0) ∧ pn ≤ pc ∧ pc ≤ 9223372036854775807) ∧ _ ∧ ((hz = true → hn = 0 ∧ hc = 0) ∧ hn ≤ hc ∧ hc ≤ 9223372036854775807) ∧ _ := hw _ (List.mem_cons_self ..)
  obtain ⟨⟨_, a1, a2⟩, _, ⟨_, a3, a4⟩, _, ⟨_, a5, a6⟩, _⟩ := w0
  refine vc_of (q :=
      ∀ (b1 b2 : Nat), (b1 = b1 ∧ (0 : Nat) = (0 : Nat)) ∧ ∀ (v1 : Int), v1 = (↑nn : Int) → (b2 = b2 ∧ (0 : Nat) = (0 : Nat)) ∧ ∀ (v2 : Int), v2 = (↑nn' : Int) → ((v1 != v2) = Bool.false → b1 = b1 ∧ (0 : Nat) = (0 : Nat)) ∧ ∀ (v3 : Int), v3 = (↑pn : Int) → ((v1 != v2) = Bool.false → b2 = b2 ∧ (0 : Nat) = (0 : Nat)) ∧ ∀ (v4 : Int), v4 = (↑pn' : Int) → ∀ (t1 : Bool), (t1 = if (v1 != v2) = Bool.true then
      Bool.true else v3 != v4) → (t1 = Bool.false → b1 = b1 ∧ (0 : Nat) = (0 : Nat)) ∧ ∀ (v5 : Int), v5 = (↑hn : Int) → (t1 = Bool.false → b2 = b2 ∧ (0 : Nat) = (0 : Nat)) ∧ ∀ (v6 : Int), v6 = (↑hn' : Int) → ∀ (t2 : Bool), (t2 = if t1 = Bool.true then Bool.true else v5 != v6) → (t2 = Bool.false → b1 = b1 ∧ (0 : Nat) = (0 : Nat)) ∧ (t2 = Bool.false → b2 = b2 ∧ (0 : Nat) = (0 : Nat)) ∧ (t2 = Bool.false →
      rn ≤ rn) ∧ (t2 = Bool.false → ∀ (k1 : Nat), k1 < rn → Bool.true = Bool.true) ∧ (t2 = Bool.false → rb = rb ∧ ro = ro) ∧ (t2 = Bool.false → rn' ≤ rn') ∧ (t2 = Bool.false → ∀ (k2 : Nat), k2 < rn' → Bool.true = Bool.true) ∧ (t2 = Bool.false → rb' = rb' ∧ ro' = ro') ∧ ∀ (t3 : Bool), t3 = Heat.longsB (Eng.RowD.mk rb ro rn rc rz rf) (Eng.RowD.mk rb' ro' rn' rc' rz' rf') → ∀ (t4 : Bool), (t4 = if t2 =
      Bool.true then Bool.true else !t3) → (t4 = Bool.true → Bool.false = Heat.sameB (Eng.RowD.mk nb no nn nc nz nf, Eng.RowD.mk pb po pn pc pz pf, Eng.RowD.mk hb ho hn hc hz hf, Eng.RowD.mk rb ro rn rc rz rf, ()) (Eng.RowD.mk nb' no' nn' nc' nz' nf', Eng.RowD.mk pb' po' pn' pc' pz' pf', Eng.RowD.mk hb' ho' hn' hc' hz' hf', Eng.RowD.mk rb' ro' rn' rc' rz' rf', ())) ∧ (t4 = Bool.false → (∃ (x1 : Nat), (0
      : Int) = (↑x1 : Int) ∧ x1 ≤ nn ∧ Heat.eqTo (fun (i : Nat) ↦ Heat.nodeEq (nf i) (nf' i)) x1 = Bool.true) ∧ ∀ (b3 : Nat), b3 ≤ nn ∧ Heat.eqTo (fun (i : Nat) ↦ Heat.nodeEq (nf i) (nf' i)) b3 = Bool.true → (b1 = b1 ∧ (0 : Nat) = (0 : Nat)) ∧ ∀ (v7 : Int), v7 = (↑nn : Int) → (Decidable.decide ((↑b3 : Int) < v7) = Bool.true → (b1 = b1 ∧ (0 : Nat) = (0 : Nat)) ∧ (0 : Int) ≤ (↑b3 : Int) ∧ (↑b3 : Int) <
      (↑nn : Int) ∧ (nb = nb ∧ no = no) ∧ Int.toNat (↑b3 : Int) < nn ∧ (b2 = b2 ∧ (0 : Nat) = (0 : Nat)) ∧ (0 : Int) ≤ (↑b3 : Int) ∧ (↑b3 : Int) < (↑nn' : Int) ∧ (nb' = nb' ∧ no' = no') ∧ Int.toNat (↑b3 : Int) < nn' ∧ ((!(Prod.fst (nf (Int.toNat (↑b3 : Int))) == Prod.fst (nf' (Int.toNat (↑b3 : Int))) && (Prod.fst (Prod.snd (nf (Int.toNat (↑b3 : Int)))) == Prod.fst (Prod.snd (nf' (Int.toNat (↑b3 : Int))))
      && Bool.true))) = Bool.true → Bool.false = Heat.sameB (Eng.RowD.mk nb no nn nc nz nf, Eng.RowD.mk pb po pn pc pz pf, Eng.RowD.mk hb ho hn hc hz hf, Eng.RowD.mk rb ro rn rc rz rf, ()) (Eng.RowD.mk nb' no' nn' nc' nz' nf', Eng.RowD.mk pb' po' pn' pc' pz' pf', Eng.RowD.mk hb' ho' hn' hc' hz' hf', Eng.RowD.mk rb' ro' rn' rc' rz' rf', ())) ∧ ((!(Prod.fst (nf (Int.toNat (↑b3 : Int))) == Prod.fst (nf'
      (Int.toNat (↑b3 : Int))) && (Prod.fst (Prod.snd (nf (Int.toNat (↑b3 : Int)))) == Prod.fst (Prod.snd (nf' (Int.toNat (↑b3 : Int)))) && Bool.true))) = Bool.false → ∀ (v8 : Int), v8 = Go.IntKind.wrap Go.IntKind.i64 ((↑b3 : Int) + (1 : Int)) → ∃ (x2 : Nat), v8 = (↑x2 : Int) ∧ (x2 ≤ nn ∧ Heat.eqTo (fun (i : Nat) ↦ Heat.nodeEq (nf i) (nf' i)) x2 = Bool.true) ∧ nn - x2 < nn - b3)) ∧ (Decidable.decide
      ((↑b3 : Int) < v7) = Bool.false → (∃ (x2 : Nat), (0 : Int) = (↑x2 : Int) ∧ x2 ≤ pn ∧ Heat.eqTo (fun (i : Nat) ↦ Heat.pathEq (pf i) (pf' i)) x2 = Bool.true) ∧ ∀ (b4 : Nat), b4 ≤ pn ∧ Heat.eqTo (fun (i : Nat) ↦ Heat.pathEq (pf i) (pf' i)) b4 = Bool.true → (b1 = b1 ∧ (0 : Nat) = (0 : Nat)) ∧ ∀ (v9 : Int), v9 = (↑pn : Int) → (Decidable.decide ((↑b4 : Int) < v9) = Bool.true → (b1 = b1 ∧ (0 : Nat) = (0 :
      Nat)) ∧ (0 : Int) ≤ (↑b4 : Int) ∧ (↑b4 : Int) < (↑pn : Int) ∧ (pb = pb ∧ po = po) ∧ Int.toNat (↑b4 : Int) < pn ∧ (b2 = b2 ∧ (0 : Nat) = (0 : Nat)) ∧ (0 : Int) ≤ (↑b4 : Int) ∧ (↑b4 : Int) < (↑pn' : Int) ∧ (pb' = pb' ∧ po' = po') ∧ Int.toNat (↑b4 : Int) < pn' ∧ ((!(Prod.fst (pf (Int.toNat (↑b4 : Int))) == Prod.fst (pf' (Int.toNat (↑b4 : Int))) && (Prod.fst (Prod.snd (pf (Int.toNat (↑b4 : Int)))) ==
      Prod.fst (Prod.snd (pf' (Int.toNat (↑b4 : Int)))) && (Prod.fst (Prod.snd (Prod.snd (pf (Int.toNat (↑b4 : Int))))) == Prod.fst (Prod.snd (Prod.snd (pf' (Int.toNat (↑b4 : Int))))) && Bool.true)))) = Bool.true → Bool.false = Heat.sameB (Eng.RowD.mk nb no nn nc nz nf, Eng.RowD.mk pb po pn pc pz pf, Eng.RowD.mk hb ho hn hc hz hf, Eng.RowD.mk rb ro rn rc rz rf, ()) (Eng.RowD.mk nb' no' nn' nc' nz' nf',
      Eng.RowD.mk pb' po' pn' pc' pz' pf', Eng.RowD.mk hb' ho' hn' hc' hz' hf', Eng.RowD.mk rb' ro' rn' rc' rz' rf', ())) ∧ ((!(Prod.fst (pf (Int.toNat (↑b4 : Int))) == Prod.fst (pf' (Int.toNat (↑b4 : Int))) && (Prod.fst (Prod.snd (pf (Int.toNat (↑b4 : Int)))) == Prod.fst (Prod.snd (pf' (Int.toNat (↑b4 : Int)))) && (Prod.fst (Prod.snd (Prod.snd (pf (Int.toNat (↑b4 : Int))))) == Prod.fst (Prod.snd
      (Prod.snd (pf' (Int.toNat (↑b4 : Int))))) && Bool.true)))) = Bool.false → ∀ (v10 : Int), v10 = Go.IntKind.wrap Go.IntKind.i64 ((↑b4 : Int) + (1 : Int)) → ∃ (x3 : Nat), v10 = (↑x3 : Int) ∧ (x3 ≤ pn ∧ Heat.eqTo (fun (i : Nat) ↦ Heat.pathEq (pf i) (pf' i)) x3 = Bool.true) ∧ pn - x3 < pn - b4)) ∧ (Decidable.decide ((↑b4 : Int) < v9) = Bool.false → (∃ (x3 : Nat), (0 : Int) = (↑x3 : Int) ∧ x3 ≤ hn ∧
      Heat.eqTo (fun (i : Nat) ↦ Heat.heatEq (hf i) (hf' i)) x3 = Bool.true) ∧ ∀ (b5 : Nat), b5 ≤ hn ∧ Heat.eqTo (fun (i : Nat) ↦ Heat.heatEq (hf i) (hf' i)) b5 = Bool.true → (b1 = b1 ∧ (0 : Nat) = (0 : Nat)) ∧ ∀ (v11 : Int), v11 = (↑hn : Int) → (Decidable.decide ((↑b5 : Int) < v11) = Bool.true → (b1 = b1 ∧ (0 : Nat) = (0 : Nat)) ∧ (0 : Int) ≤ (↑b5 : Int) ∧ (↑b5 : Int) < (↑hn : Int) ∧ (hb = hb ∧ ho = ho)
      ∧ Int.toNat (↑b5 : Int) < hn ∧ (b2 = b2 ∧ (0 : Nat) = (0 : Nat)) ∧ (0 : Int) ≤ (↑b5 : Int) ∧ (↑b5 : Int) < (↑hn' : Int) ∧ (hb' = hb' ∧ ho' = ho') ∧ Int.toNat (↑b5 : Int) < hn' ∧ ((!(Prod.fst (hf (Int.toNat (↑b5 : Int))) == Prod.fst (hf' (Int.toNat (↑b5 : Int))) && (Prod.fst (Prod.snd (hf (Int.toNat (↑b5 : Int)))) == Prod.fst (Prod.snd (hf' (Int.toNat (↑b5 : Int)))) && (Prod.fst (Prod.snd (Prod.snd
      (hf (Int.toNat (↑b5 : Int))))) == Prod.fst (Prod.snd (Prod.snd (hf' (Int.toNat (↑b5 : Int))))) && (Prod.fst (Prod.snd (Prod.snd (Prod.snd (hf (Int.toNat (↑b5 : Int)))))) == Prod.fst (Prod.snd (Prod.snd (Prod.snd (hf' (Int.toNat (↑b5 : Int)))))) && (Prod.fst (Prod.snd (Prod.snd (Prod.snd (Prod.snd (hf (Int.toNat (↑b5 : Int))))))) == Prod.fst (Prod.snd (Prod.snd (Prod.snd (Prod.snd (hf' (Int.toNat
      (↑b5 : Int))))))) && Bool.true)))))) = Bool.true → Bool.false = Heat.sameB (Eng.RowD.mk nb no nn nc nz nf, Eng.RowD.mk pb po pn pc pz pf, Eng.RowD.mk hb ho hn hc hz hf, Eng.RowD.mk rb ro rn rc rz rf, ()) (Eng.RowD.mk nb' no' nn' nc' nz' nf', Eng.RowD.mk pb' po' pn' pc' pz' pf', Eng.RowD.mk hb' ho' hn' hc' hz' hf', Eng.RowD.mk rb' ro' rn' rc' rz' rf', ())) ∧ ((!(Prod.fst (hf (Int.toNat (↑b5 : Int)))
      == Prod.fst (hf' (Int.toNat (↑b5 : Int))) && (Prod.fst (Prod.snd (hf (Int.toNat (↑b5 : Int)))) == Prod.fst (Prod.snd (hf' (Int.toNat (↑b5 : Int)))) && (Prod.fst (Prod.snd (Prod.snd (hf (Int.toNat (↑b5 : Int))))) == Prod.fst (Prod.snd (Prod.snd (hf' (Int.toNat (↑b5 : Int))))) && (Prod.fst (Prod.snd (Prod.snd (Prod.snd (hf (Int.toNat (↑b5 : Int)))))) == Prod.fst (Prod.snd (Prod.snd (Prod.snd (hf'
      (Int.toNat (↑b5 : Int)))))) && (Prod.fst (Prod.snd (Prod.snd (Prod.snd (Prod.snd (hf (Int.toNat (↑b5 : Int))))))) == Prod.fst (Prod.snd (Prod.snd (Prod.snd (Prod.snd (hf' (Int.toNat (↑b5 : Int))))))) && Bool.true)))))) = Bool.false → ∀ (v12 : Int), v12 = Go.IntKind.wrap Go.IntKind.i64 ((↑b5 : Int) + (1 : Int)) → ∃ (x4 : Nat), v12 = (↑x4 : Int) ∧ (x4 ≤ hn ∧ Heat.eqTo (fun (i : Nat) ↦ Heat.heatEq (hf
      i) (hf' i)) x4 = Bool.true) ∧ hn - x4 < hn - b5)) ∧ (Decidable.decide ((↑b5 : Int) < v11) = Bool.false → Bool.true = Heat.sameB (Eng.RowD.mk nb no nn nc nz nf, Eng.RowD.mk pb po pn pc pz pf, Eng.RowD.mk hb ho hn hc hz hf, Eng.RowD.mk rb ro rn rc rz rf, ()) (Eng.RowD.mk nb' no' nn' nc' nz' nf', Eng.RowD.mk pb' po' pn' pc' pz' pf', Eng.RowD.mk hb' ho' hn' hc' hz' hf', Eng.RowD.mk rb' ro' rn' rc' rz'
      rf', ())))))) (by kernel_rfl) ?_
  try simp only [eq_self, true_and, and_true, Nat.le_refl, implies_true, forall_const, Bool.false_eq_true, Bool.true_eq_false, reduceCtorEq, false_imp_iff, true_imp_iff, Int.toNat_zero, Int.toNat_natCast, Nat.zero_lt_one, Int.le_refl, allGet]
  intro v1 h1 v2 h2 v3 h3 v4 h4 t1 ht1 v5 h5 v6 h6 t2 ht2 t3 ht3 t4 ht4
  subst h1 h2 h3 h4 h5 h6
  generalize hL : longsB ⟨rb, ro, rn, rc, rz, rf⟩ ⟨rb', ro', rn', rc', rz', rf'⟩ = L at *
  have hS : sameB (⟨nb, no, nn, nc, nz, nf⟩, ⟨pb, po, pn, pc, pz, pf⟩, ⟨hb, ho, hn, hc, hz, hf⟩, ⟨rb, ro, rn, rc, rz, rf⟩, ()) (⟨nb', no', nn', nc', nz', nf'⟩, ⟨pb', po', pn', pc', pz', pf'⟩, ⟨hb', ho', hn', hc', hz', hf'⟩, ⟨rb', ro', rn', rc', rz', rf'⟩, ()) = (decide (nn = nn') && decide (pn = pn') && decide (hn = hn') && L && eqTo (fun i => nodeEq (nf i) (nf' i)) nn && eqTo (fun i => pathEq (pf i) (pf' i)) pn && eqTo (fun i => heatEq (hf i) (hf' i)) hn) := by
    unfold sameB
    dsimp only
    rw [hL]
  rw [hS]
  have hq : t4 = !(decide (nn = nn') && decide (pn = pn') && decide (hn = hn') && L) := by
    rw [ht4, ht2, ht1, ht3]
    have e1 : ((nn : Int) != (nn' : Int)) = !decide (nn = nn') := by
      by_cases q : nn = nn'
      · subst q; simp
      · simp [q]; omega
    have e2 : ((pn : Int) != (pn' : Int)) = !decide (pn = pn') := by
      by_cases q : pn = pn'
      · subst q; simp
      · simp [q]; omega
    have e3 : ((hn : Int) != (hn' : Int)) = !decide (hn = hn') := by
      by_cases q : hn = hn'
      · subst q; simp
      · simp [q]; omega
    rw [e1, e2, e3]
    cases decide (nn = nn') <;> cases decide (pn = pn') <;> cases decide (hn = hn') <;> cases L <;> rfl
  refine ⟨fun h => ?_, fun h => ?_⟩
  · rw [h] at hq
    have : (decide (nn = nn') && decide (pn = pn') && decide (hn = hn') && L) = false := by
      cases hx : (decide (nn = nn') && decide (pn = pn') && decide (hn = hn') && L) with
      | false => rfl
      | true => rw [hx] at hq; cases hq
    rw [this]; rfl
  have hx : (decide (nn = nn') && decide (pn = pn') && decide (hn = hn') && L) = true := by
    rw [h] at hq
    cases hx : (decide (nn = nn') && decide (pn = pn') && decide (hn = hn') && L) with
    | true => rfl
    | false => rw [hx] at hq; cases hq
  rw [hx]
  have hx' := hx
  simp only [Bool.and_eq_true, decide_eq_true_eq] at hx'
  obtain ⟨⟨⟨n1, n2⟩, n3⟩, n4⟩ := hx'
  refine ⟨⟨0, rfl, Nat.zero_le _, rfl⟩, fun i ⟨hi, he⟩ v7 h7 => ?_⟩
  subst h7
  refine ⟨fun hlt => ?_, fun hge => ?_⟩
  · have hlt := of_decide_eq_true hlt
    refine ⟨by omega, by omega, by omega, by omega, by omega, by omega, fun q => ?_, fun q v3 h3 => ⟨i + 1, h3.trans (l_succ (by omega)), ⟨by omega, ?_⟩, by omega⟩⟩
    · have q : nodeEq (nf i) (nf' i) = false := by rw [Bool.not_eq_true'] at q; exact q
      rw [eqTo_no (p := fun i => nodeEq (nf i) (nf' i)) q (by omega)]; rfl
    · have q : nodeEq (nf i) (nf' i) = true := by unfold nodeEq; simpa using q
      rw [eqTo, he]; exact q
  have hge := of_decide_eq_false hge
  obtain rfl : i = nn := by omega
  rw [he]
  refine ⟨⟨0, rfl, Nat.zero_le _, rfl⟩, fun i2 ⟨hi2, he2⟩ v9 h9 => ?_⟩
  subst h9
  refine ⟨fun hlt => ?_, fun hge => ?_⟩
  · have hlt := of_decide_eq_true hlt
    refine ⟨by omega, by omega, by omega, by omega, by omega, by omega, fun q => ?_, fun q v3 h3 => ⟨i2 + 1, h3.trans (l_succ (by omega)), ⟨by omega, ?_⟩, by omega⟩⟩
    · have q : pathEq (pf i2) (pf' i2) = false := by rw [Bool.not_eq_true'] at q; exact q
      rw [eqTo_no (p := fun i => pathEq (pf i) (pf' i)) q (by omega)]; rfl
    · have q : pathEq (pf i2) (pf' i2) = true := by unfold pathEq; simpa using q
      rw [eqTo, he2]; exact q
  have hge := of_decide_eq_false hge
  obtain rfl : i2 = pn := by omega
  rw [he2]
  refine ⟨⟨0, rfl, Nat.zero_le _, rfl⟩, fun i3 ⟨hi3, he3⟩ v11 h11 => ?_⟩
  subst h11
  refine ⟨fun hlt => ?_, fun hge => ?_⟩
  · have hlt := of_decide_eq_true hlt
    refine ⟨by omega, by omega, by omega, by omega, by omega, by omega, fun q => ?_, fun q v3 h3 => ⟨i3 + 1, h3.trans (l_succ (by omega)), ⟨by omega, ?_⟩, by omega⟩⟩
    · have q : heatEq (hf i3) (hf' i3) = false := by rw [Bool.not_eq_true'] at q; exact q
      rw [eqTo_no (p := fun i => heatEq (hf i) (hf' i)) q (by omega)]; rfl
    · have q : heatEq (hf i3) (hf' i3) = true := by unfold heatEq; simpa using q
      rw [eqTo, he3]; exact q
  · have hge := of_decide_eq_false hge
    obtain rfl : i3 = hn := by omega
    rw [he3]; rfl
end Heat
