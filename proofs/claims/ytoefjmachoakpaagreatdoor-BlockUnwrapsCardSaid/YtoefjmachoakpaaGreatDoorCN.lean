/-
  OWN WORK. Block: awake; the law BlockUnwraps.
-/
import Derived.Test.YtoefjmachoakpaaGreatDoorCL
import Derived.Test.YtoefjmachoakpaaGreatDoorCS
import Derived.Test.YtoefjmachoakpaaGreatDoorEngN
namespace Galois
open Go Go.Proofs Eng
set_option linter.unusedVariables false
set_option linter.unusedSimpArgs false
set_option maxHeartbeats 8000000
set_option maxRecDepth 100000

abbrev er0 : Nat → Int := fun _ => 0
theorem gL_nil : gL [] = er0 := funext fun _ => rfl
theorem one_L : encL [1] = [1, 255, 11, 81, 54, 239, 173, 200, 24] := by
  unfold encL parP parR
  rw [gpoly_eq]
  kernel_rfl
/-- Four wrong bytes. -/
abbrev wd : List UInt8 := [1, 255, 11, 81, 0, 0, 0, 0, 24]
theorem wd_dec : decR wd (ownL (fun _ => 0) 0) = some [1, 255, 11, 81, 54, 239, 173, 200, 24] := by
  unfold decR
  simp only [decK, decTry, mdOk, mdC, encL, parP, parR, gpoly_eq]
  refine of_decide_eq_true ?_
  kernel_rfl
theorem wd_L : decL wd (fun _ => 0) 0 = [1] := by
  unfold decL
  rw [if_neg (by decide), wd_dec]
  rfl
theorem wd_N : decN wd (fun _ => 0) 0 = 4 := by
  unfold decN
  rw [if_neg (by decide), wd_dec]
  kernel_rfl
theorem wd_E : decE wd (fun _ => 0) 0 = 0 := by
  unfold decE
  rw [if_neg (by decide), wd_dec]
theorem wr_L : wrapL [0, 0] 2 = List.replicate 18 0 := by
  unfold wrapL
  rw [if_neg (by decide)]
  have h : ∀ k, k < 16 → wF [0, 0] 2 k = 0 := fun k hk => by
    unfold wF parJ parP parR
    rw [gpoly_eq]
    have h2 : k % 2 = 0 ∨ k % 2 = 1 := by omega
    have h8 : k / 2 < 8 := by omega
    generalize k / 2 = q at *
    generalize k % 2 = r at *
    have hall : allN (fun q => decide ((((revL (Byt.of (fun k => (((resL ([0, 0, 0, 0, 0, 0, 0, 0] ++ revL (partL [0, 0] 0 2)) [24, 200, 173, 239, 54, 81, 11, 255, 1]).getD k 0).toNat : Int)) 8)).getD q 0).toNat : Int) = 0) && decide ((((revL (Byt.of (fun k => (((resL ([0, 0, 0, 0, 0, 0, 0, 0] ++ revL (partL [0, 0] 1 2)) [24, 200, 173, 239, 54, 81, 11, 255, 1]).getD k 0).toNat : Int)) 8)).getD q 0).toNat : Int) = 0)) 8 = true := by kernel_rfl
    have h3 := allN_true hall q h8
    rw [Bool.and_eq_true] at h3
    rcases h2 with rfl | rfl
    · exact of_decide_eq_true h3.1
    · exact of_decide_eq_true h3.2
  show [0, 0] ++ Byt.of (wF [0, 0] 2) 16 = _
  rw [bof_congr (g := fun _ => 0) h]
  kernel_rfl
abbrev z9 : List UInt8 := [0, 0, 0, 0, 0, 0, 0, 0, 0]
abbrev z18 : List UInt8 := List.replicate 18 0
theorem z_dec : decR z9 (ownL (fun _ => 0) 0) = some z9 := by
  unfold decR
  simp only [decK, decTry, mdOk, mdC, encL, parP, parR, gpoly_eq]
  refine of_decide_eq_true ?_
  kernel_rfl
theorem z_W : ∀ j, j < 2 → uW z18 2 j = z9 := fun j hj => by
  have h : j = 0 ∨ j = 1 := by omega
  rcases h with rfl | rfl
  · exact of_decide_eq_true (by kernel_rfl)
  · exact of_decide_eq_true (by kernel_rfl)
theorem z_L : decL z9 (fun _ => 0) 0 = [0] := by
  unfold decL
  rw [if_neg (by decide), z_dec]
  rfl
theorem z_E : decE z9 (fun _ => 0) 0 = 0 := by
  unfold decE
  rw [if_neg (by decide), z_dec]
theorem z_N : decN z9 (fun _ => 0) 0 = 0 := by
  unfold decN
  rw [if_neg (by decide), z_dec]
  kernel_rfl
theorem z_C : ∀ j, j < 2 → uxC z18 er0 0 2 j = 0 := fun j hj => by
  show (if decE (uW z18 2 j) (gL []) 0 = 0 then decN (uW z18 2 j) (gL []) 0 else -1) = 0
  rw [gL_nil, z_W j hj, if_pos z_E]
  exact z_N
theorem z_bad : uxBad z18 er0 0 2 = false := by
  unfold uxBad
  rw [inB_congr z_C]
  kernel_rfl
theorem z_uL : uxL z18 er0 0 2 = [0, 0] := by
  unfold uxL
  rw [if_neg (by decide)]
  show (if uxBad z18 er0 0 2 = true then [] else _) = _
  rw [z_bad, if_neg (by decide)]
  have h : ∀ k, k < 2 → uxX z18 er0 0 2 k = 0 := fun k hk => by
    show (((decL (uW z18 2 (k % 2)) (gL []) 0).getD (k / 2) 0).toNat : Int) = 0
    rw [gL_nil, z_W _ (Nat.mod_lt _ (by omega)), show er0 = fun _ => 0 from rfl, z_L, show k / 2 = 0 by omega]
    rfl
  show Byt.of (uxX z18 er0 0 2) 2 = _
  rw [bof_congr h]
  kernel_rfl
theorem z_uE : uxE z18 er0 0 2 = 0 := by
  unfold uxE
  rw [if_neg (by decide)]
  show (if uxBad z18 er0 0 2 = true then _ else _) = _
  rw [z_bad, if_neg (by decide)]
theorem z_uN : uxN z18 er0 0 2 = 2 := by kernel_rfl
noncomputable def awake := pcOf .nil (fun _ => []) (fun _ => .bool true)
noncomputable def EBz : Env := (EBy.addP 16 wrap).addE 12 unwrap
theorem EBz_ok : EnvOk Tryz.prog EBz := (EBy_ok.addP wrapB_ok).addE unwrap_ok
theorem awake_ok : PcOk Tryz.prog 5 awake := by
  refine pcOf_run (fun _ => EBz_ok) Tryz.func5 rfl (by kernel_rfl) (fun x => trivial) (fun x => []) (fun _ => Nat.le_of_ble_eq_true rfl) (fun _ hp hw => ?_)
  refine vc_of (q :=
      ∀ (s1 : List UInt8), s1 = encL [(1 : UInt8)] → ∀ (v1 : Int), v1 = encE [(1 : UInt8)] → true = true ∧ 0 ≤ 1000000 ∧ ∀ (s2 : List UInt8), s2 = decL [(1 : UInt8), (255 : UInt8), (11 : UInt8), (81 : UInt8), 0, 0, 0, 0, (24 : UInt8)] (fun (x : Nat) ↦ (0 : Int)) 0 → ∀ (v2 : Int), v2 = decN [(1 : UInt8), (255 : UInt8), (11 : UInt8), (81 : UInt8), 0, 0, 0, 0, (24 : UInt8)] (fun (x : Nat) ↦ (0 : Int)) 0 → ∀
      (v3 : Int), v3 = decE [(1 : UInt8), (255 : UInt8), (11 : UInt8), (81 : UInt8), 0, 0, 0, 0, (24 : UInt8)] (fun (x : Nat) ↦ (0 : Int)) 0 → ∀ (s3 : List UInt8), s3 = wrapL [0, 0] (2 : Int) → ∀ (v4 : Int), v4 = wrapE [0, 0] (2 : Int) → true = true ∧ ∀ (x'1 : List UInt8 × Int × Eng.RowD Int × Unit), x'1 = (s3, (2 : Int), Eng.RowD.mk 0 0 0 0 true fun (x : Nat) ↦ (0 : Int), ()) → Eng.RowD.n (((Prod.snd
      x'1).2.1)) ≤ 1000000 ∧ ∀ (y1 : Nat × Nat × Nat), uxN (Prod.fst x'1) (Eng.RowD.f (((Prod.snd x'1).2.1))) (Eng.RowD.n (((Prod.snd x'1).2.1))) ((Prod.snd x'1).1) ≤ y1.2.2 ∧ y1.2.2 ≤ 9223372036854775807 ∧ (uxN (Prod.fst x'1) (Eng.RowD.f (((Prod.snd x'1).2.1))) (Eng.RowD.n (((Prod.snd x'1).2.1))) ((Prod.snd x'1).1) = 0 → y1.2.2 = 0) → ∀ (s4 : List UInt8), s4 = uxL (Prod.fst x'1) (Eng.RowD.f (((Prod.snd
      x'1).2.1))) (Eng.RowD.n (((Prod.snd x'1).2.1))) ((Prod.snd x'1).1) → ∀ (v5 : Int), v5 = uxE (Prod.fst x'1) (Eng.RowD.f (((Prod.snd x'1).2.1))) (Eng.RowD.n (((Prod.snd x'1).2.1))) ((Prod.snd x'1).1) → ∀ (t1 : Bool), (t1 = if (s1 == [(1 : UInt8), (255 : UInt8), (11 : UInt8), (81 : UInt8), (54 : UInt8), (239 : UInt8), (173 : UInt8), (200 : UInt8), (24 : UInt8)]) = true then v1 == (0 : Int) else false)
      → ∀ (t2 : Bool), (t2 = if t1 = true then s2 == [(1 : UInt8)] else false) → ∀ (t3 : Bool), (t3 = if t2 = true then v2 == (4 : Int) else false) → ∀ (t4 : Bool), (t4 = if t3 = true then v3 == (0 : Int) else false) → ∀ (v6 : Int), v6 = (↑(List.length s3) : Int) → ∀ (t5 : Bool), (t5 = if t4 = true then v6 == (18 : Int) else false) → ∀ (t6 : Bool), (t6 = if t5 = true then v4 == (0 : Int) else false) → ∀
      (t7 : Bool), (t7 = if t6 = true then s4 == [0, 0] else false) → ∀ (v7 : Int), v7 = (↑(uxN (Prod.fst x'1) (Eng.RowD.f (((Prod.snd x'1).2.1))) (Eng.RowD.n (((Prod.snd x'1).2.1))) ((Prod.snd x'1).1)) : Int) → ∀ (t8 : Bool), (t8 = if t7 = true then v7 == (2 : Int) else false) → ∀ (t9 : Bool), (t9 = if t8 = true then v5 == (0 : Int) else false) → t9 = true) (by kernel_rfl) ?_
  try simp only [eq_self, true_and, and_true, Nat.le_refl, implies_true, forall_const, Bool.false_eq_true, Bool.true_eq_false, reduceCtorEq, false_imp_iff, true_imp_iff, Int.toNat_zero, Int.toNat_natCast, Nat.zero_lt_one, Int.le_refl, allGet]
  intro s1 hs1 v1 hv1
  refine ⟨by omega, fun s2 hs2 v2 hv2 v3 hv3 s3 hs3 v4 hv4 x1 hx1 => ⟨by rw [hx1]; exact Nat.zero_le _, fun y1 hy1 s4 hs4 v5 hv5 t1 ht1 t2 ht2 t3 ht3 t4 ht4 v6 hv6 t5 ht5 t6 ht6 t7 ht7 v7 hv7 t8 ht8 t9 ht9 => ?_⟩⟩
  have e3 : s3 = z18 := hs3.trans wr_L
  subst hx1
  dsimp only at hs4 hv5 hv7
  rw [e3] at hs4 hv5 hv7 hv6
  rw [z_uL] at hs4
  rw [z_uE] at hv5
  rw [z_uN] at hv7
  have e1 : s1 = _ := hs1.trans one_L
  have e1' : v1 = 0 := hv1
  have e2 : s2 = [1] := hs2.trans wd_L
  have e2' : v2 = 4 := hv2.trans wd_N
  have e3' : v3 = 0 := hv3.trans wd_E
  have e4 : v4 = 0 := hv4
  have e6 : v6 = 18 := hv6
  have e7 : v7 = 2 := hv7
  subst e1 e1' e2 e2' e3' e4 e6 e7 hs4 hv5
  have f1 : t1 = true := ht1
  subst f1
  have f2 : t2 = true := ht2
  subst f2
  have f3 : t3 = true := ht3
  subst f3
  have f4 : t4 = true := ht4
  subst f4
  have f5 : t5 = true := ht5
  subst f5
  have f6 : t6 = true := ht6
  subst f6
  have f7 : t7 = true := ht7
  subst f7
  have f8 : t8 = true := ht8
  subst f8
  exact ht9
/-- Are the first n pairs equal? -/
def eqTo (p : Nat → Bool) : Nat → Bool
  | 0 => true
  | n + 1 => eqTo p n && p n
theorem eqTo_no {p : Nat → Bool} {i : Nat} (h : p i = false) : ∀ {n : Nat}, i < n → eqTo p n = false
  | n + 1, hi => by
    simp only [eqTo]
    by_cases e : i = n
    · subst e; rw [h, Bool.and_false]
    · rw [eqTo_no h (by omega), Bool.false_and]
theorem eqTo_yes {p : Nat → Bool} : ∀ {n : Nat}, (∀ i, i < n → p i = true) → eqTo p n = true
  | 0, _ => rfl
  | n + 1, h => by simp only [eqTo]; rw [eqTo_yes fun i hi => h i (by omega), h n (by omega)]; rfl
abbrev aRows : ArgL (RowD Int × RowD Int × Unit) := .cons (.row (.int .i64)) (.cons (.row (.int .i64)) .nil)
def intsB (a b : RowD Int) : Bool := decide (a.n = b.n) && eqTo (fun i => a.f i == b.f i) a.n
def intsC := pcOf aRows (fun _ => []) (fun x => .bool (intsB x.1 x.2.1))
theorem ints_ok : PcOk Tryz.prog 14 intsC := by
  refine pcOf_run (fun _ => E0_ok) Tryz.func14 rfl (by kernel_rfl) (fun _ => trivial)
    (fun x => [.lp 4 Nat [5] (fun i => [.int .i64 (i : Nat)]) (fun i => i ≤ x.1.n ∧ eqTo (fun i => x.1.f i == x.2.1.f i) i = true) fun i => x.1.n - i, .draw 6 (.take 0 (.take 1 (.take 2 (.take 3 (.take 4 (.take 5 (.take 6 (.take 7 (.take 8 .fin))))))))) []])
    (fun _ => Nat.le_of_ble_eq_true rfl) (fun ⟨⟨b, o, n, c, z, f⟩, ⟨b2, o2, n2, c2, z2, f2⟩, ()⟩ hp hw => ?_)
  have hn : n ≤ c ∧ c ≤ 9223372036854775807 := (hw _ (List.mem_cons_self ..)).2
  refine vc_of (q :=
      ∀ (v1 : Int), v1 = (↑n : Int) → ∀ (v2 : Int), v2 = (↑n2 : Int) → ((v1 != v2) = true → false = intsB (Eng.RowD.mk b o n c z f) (Eng.RowD.mk b2 o2 n2 c2 z2 f2)) ∧ ((v1 != v2) = false → (∃ (x1 : Nat), (0 : Int) = (↑x1 : Int) ∧ x1 ≤ n ∧ eqTo (fun (i : Nat) ↦ f i == f2 i) x1 = true) ∧ ∀ (b1 : Nat), b1 ≤ n ∧ eqTo (fun (i : Nat) ↦ f i == f2 i) b1 = true → ∀ (v3 : Int), v3 = (↑n : Int) → (decide ((↑b1 :
      Int) < v3) = true → (0 : Int) ≤ (↑b1 : Int) ∧ (↑b1 : Int) < (↑n : Int) ∧ (b = b ∧ o = o) ∧ Int.toNat (↑b1 : Int) < n ∧ (0 : Int) ≤ (↑b1 : Int) ∧ (↑b1 : Int) < (↑n2 : Int) ∧ (b2 = b2 ∧ o2 = o2) ∧ Int.toNat (↑b1 : Int) < n2 ∧ ((f (Int.toNat (↑b1 : Int)) != f2 (Int.toNat (↑b1 : Int))) = true → false = intsB (Eng.RowD.mk b o n c z f) (Eng.RowD.mk b2 o2 n2 c2 z2 f2)) ∧ ((f (Int.toNat (↑b1 : Int)) != f2
      (Int.toNat (↑b1 : Int))) = false → ∀ (v4 : Int), v4 = IntKind.i64.wrap ((↑b1 : Int) + (1 : Int)) → ∃ (x2 : Nat), v4 = (↑x2 : Int) ∧ (x2 ≤ n ∧ eqTo (fun (i : Nat) ↦ f i == f2 i) x2 = true) ∧ n - x2 < n - b1)) ∧ (decide ((↑b1 : Int) < v3) = false → true = intsB (Eng.RowD.mk b o n c z f) (Eng.RowD.mk b2 o2 n2 c2 z2 f2)))) (by kernel_rfl) ?_
  try simp only [eq_self, true_and, and_true, Nat.le_refl, implies_true, forall_const, Bool.false_eq_true, Bool.true_eq_false, reduceCtorEq, false_imp_iff, true_imp_iff, Int.toNat_zero, Int.toNat_natCast, Nat.zero_lt_one, Int.le_refl, allGet]
  intro v1 h1 v2 h2
  subst h1 h2
  refine ⟨fun h => ?_, fun h => ⟨⟨0, rfl, Nat.zero_le _, rfl⟩, fun i hi v3 hv3 => ?_⟩⟩
  · have : ¬ n = n2 := fun q => by subst q; simp at h
    show false = (decide (n = n2) && _)
    rw [decide_eq_false this]; rfl
  have hnn : n = n2 := by
    have : (n : Int) = n2 := by simpa using h
    omega
  obtain ⟨hi, he⟩ := hi
  subst hv3
  refine ⟨fun hlt => ?_, fun hge => ?_⟩
  · have hlt := of_decide_eq_true hlt
    refine ⟨by omega, by omega, by omega, by omega, by omega, by omega, fun q => ?_, fun q v3 h3 => ⟨i + 1, h3.trans (l_succ (by omega)), ⟨by omega, ?_⟩, by omega⟩⟩
    · have q : (f i == f2 i) = false := by simpa using q
      show false = (_ && eqTo (fun i => f i == f2 i) n)
      rw [eqTo_no (p := fun i => f i == f2 i) q (by omega), Bool.and_false]
    · have q : (f i == f2 i) = true := by simpa using q
      rw [eqTo, he]
      exact q
  · have hge := of_decide_eq_false hge
    obtain rfl : i = n := by omega
    show true = (decide (i = n2) && eqTo (fun i => f i == f2 i) i)
    rw [decide_eq_true hnn, he]; rfl
def plainTy (P : Program) (t : TypeId) : Bool := match P.underlying t with
  | some (.struct _) => false
  | some (.array _ _) => false
  | _ => true
theorem notStruct {P : Program} {t : TypeId} (h : plainTy P t = true) : ∀ fs, P.underlying t ≠ some (.struct fs) := by
  intro fs hh; unfold plainTy at h; rw [hh] at h; cases h
theorem notArray {P : Program} {t : TypeId} (h : plainTy P t = true) : ∀ n e, P.underlying t ≠ some (.array n e) := by
  intro n e hh; unfold plainTy at h; rw [hh] at h; cases h
theorem u8_in {x : Int} (h : inKind .u8 x) : 0 ≤ x ∧ x ≤ 255 := by
  have h' : (decide _ && decide _) = true := h
  simpa [IntKind.min, IntKind.max, IntKind.bits, IntKind.signed] using h'
noncomputable def EL6 : Env := (((((EBz.addP 5 awake).addP 10 wrap).addE 11 spoil).addE 12 unwrap).addE 13 unwrap).addP 14 intsC
theorem EL6_ok : EnvOk Tryz.prog EL6 := (((((EBz_ok.addP awake_ok).addP wrapR_ok).addE spoil_ok).addE unwrap_ok).addE unwrapR_ok).addP ints_ok
abbrev UnwD := List UInt8 × Int × RowD ErrD × Unit
abbrev aUnw : ArgL UnwD := .cons (.elt .str) (.cons (.elt (.int .i64)) (.cons (.row (.agg (.cons (.int .i64) (.cons (.int .u8) (.cons .bool .nil))))) .nil))
abbrev ErrIn (x : ErrD) : Prop := inKind .i64 x.1 ∧ inKind .u8 x.2.1 ∧ True ∧ True
def unwA : List An := [.join ⟨6, List UInt8, [7], fun w => [.str w], [], fun _ => [], fun w => w.length ≤ 1100, fun _ => 0⟩ 50]
theorem unwraps_walk : ∀ (x : UnwD) (hR : x.1.length ≤ 140737488351232 ∧ inKind .i64 x.2.1 ∧ (x.2.2.1.n ≤ x.2.2.1.c ∧ x.2.2.1.c * 16 ≤ 140737488351232 ∧ ∀ i, i < x.2.2.1.n → ErrIn (x.2.2.1.f i)) ∧ True) (hw : ∀ v ∈ aUnw.svs 0 x, v.wf), exCode EL6 Tryz.f4.ntmps unwA (match Tryz.f4.body with | some c => c | none => .skip) (argFr 0 (aUnw.svs 0 x)) (aUnw.hp 0 x) aUnw.tags (atEnd EL6 Tryz.f4.results.toList fun r _ _ => eqv r (.bool true)) := by
  refine fun ⟨d, n, ⟨eb, eo, m, c, z, f⟩, ()⟩ hR hw => ?_
  refine vc_of (q :=
      ∀ (v1 : Int), v1 = (↑(List.length d) : Int) → ∀ (v2 : Int), v2 = (↑m : Int) → ∀ (t1 : Bool), (t1 = if decide (v1 > (1000 : Int)) = true then true else decide (v2 > (60 : Int))) → (t1 = true → ∀ (t2 : Bool), t2 = true → t2 = true) ∧ (t1 = false → ∀ (s1 : List UInt8), s1 = wrapL d n → ∀ (v3 : Int), v3 = wrapE d n → (((v3 != (0 : Int)) = true → ∃ (x1 : List UInt8), d = x1 ∧ Nat.le (List.length x1)
      1100) ∧ ((v3 != (0 : Int)) = false → ∃ (x2 : List UInt8), s1 = x2 ∧ Nat.le (List.length x2) 1100)) ∧ ∀ (s2 : List UInt8), List.length s2 ≤ 1100 → ((s2 == []) = true → ∀ (t3 : Bool), t3 = true → t3 = true) ∧ ((s2 == []) = false → m ≤ m ∧ (∀ (k1 : Nat), k1 < m → true = true) ∧ (eb = eb ∧ eo = eo) ∧ ∀ (x'1 : List UInt8 × Eng.RowD (Int × Int × Bool × Unit) × Unit), x'1 = (s2, Eng.RowD.mk eb eo m c z f,
      ()) → 1 ≤ List.length (Prod.fst x'1) ∧ List.length (Prod.fst x'1) ≤ 100000 ∧ Eng.RowD.n ((Prod.snd x'1).1) ≤ 100000 ∧ (∀ (i1 : Nat), i1 < Eng.RowD.n ((Prod.snd x'1).1) → (0 : Int) ≤ ((Eng.RowD.f ((Prod.snd x'1).1) i1).2).1 ∧ ((Eng.RowD.f ((Prod.snd x'1).1) i1).2).1 ≤ (255 : Int)) ∧ ∀ (y1 : Nat × Nat × Nat), List.length (spN x'1) ≤ y1.2.2 ∧ y1.2.2 ≤ 9223372036854775807 ∧ (List.length (spN x'1) = 0 →
      y1.2.2 = 0) → ∀ (s3 : List UInt8), s3 = ofN (spW (Prod.fst x'1) (Eng.RowD.f ((Prod.snd x'1).1)) (Eng.RowD.n ((Prod.snd x'1).1))) (List.length (Prod.fst x'1)) → List.length (spN x'1) ≤ List.length (spN x'1) ∧ (∀ (k2 : Nat), k2 < List.length (spN x'1) → true = true) ∧ (y1.1 = y1.1 ∧ y1.2.1 = y1.2.1) ∧ ∀ (x'2 : List UInt8 × Int × Eng.RowD Int × Unit), x'2 = (s3, n, Eng.RowD.mk y1.1 y1.2.1 (List.length
      (spN x'1)) y1.2.2 (Nat.beq (List.length (spN x'1)) 0) (gL (spN x'1)), ()) → Eng.RowD.n (((Prod.snd x'2).2.1)) ≤ 1000000 ∧ ∀ (y2 : Nat × Nat × Nat), uxN (Prod.fst x'2) (Eng.RowD.f (((Prod.snd x'2).2.1))) (Eng.RowD.n (((Prod.snd x'2).2.1))) ((Prod.snd x'2).1) ≤ y2.2.2 ∧ y2.2.2 ≤ 9223372036854775807 ∧ (uxN (Prod.fst x'2) (Eng.RowD.f (((Prod.snd x'2).2.1))) (Eng.RowD.n (((Prod.snd x'2).2.1)))
      ((Prod.snd x'2).1) = 0 → y2.2.2 = 0) → ∀ (s4 : List UInt8), s4 = uxL (Prod.fst x'2) (Eng.RowD.f (((Prod.snd x'2).2.1))) (Eng.RowD.n (((Prod.snd x'2).2.1))) ((Prod.snd x'2).1) → ∀ (v4 : Int), v4 = uxE (Prod.fst x'2) (Eng.RowD.f (((Prod.snd x'2).2.1))) (Eng.RowD.n (((Prod.snd x'2).2.1))) ((Prod.snd x'2).1) → List.length (spN x'1) ≤ List.length (spN x'1) ∧ (∀ (k3 : Nat), k3 < List.length (spN x'1) →
      true = true) ∧ (y1.1 = y1.1 ∧ y1.2.1 = y1.2.1) ∧ ∀ (x'3 : List UInt8 × Int × Eng.RowD Int × Unit), x'3 = (s3, n, Eng.RowD.mk y1.1 y1.2.1 (List.length (spN x'1)) y1.2.2 (Nat.beq (List.length (spN x'1)) 0) (gL (spN x'1)), ()) → Eng.RowD.n (((Prod.snd x'3).2.1)) ≤ 1000000 ∧ ∀ (y3 : Nat × Nat × Nat), uxN (Prod.fst x'3) (Eng.RowD.f (((Prod.snd x'3).2.1))) (Eng.RowD.n (((Prod.snd x'3).2.1))) ((Prod.snd
      x'3).1) ≤ y3.2.2 ∧ y3.2.2 ≤ 9223372036854775807 ∧ (uxN (Prod.fst x'3) (Eng.RowD.f (((Prod.snd x'3).2.1))) (Eng.RowD.n (((Prod.snd x'3).2.1))) ((Prod.snd x'3).1) = 0 → y3.2.2 = 0) → ∀ (s5 : List UInt8), s5 = uxL (Prod.fst x'3) (Eng.RowD.f (((Prod.snd x'3).2.1))) (Eng.RowD.n (((Prod.snd x'3).2.1))) ((Prod.snd x'3).1) → ∀ (v5 : Int), v5 = uxE (Prod.fst x'3) (Eng.RowD.f (((Prod.snd x'3).2.1)))
      (Eng.RowD.n (((Prod.snd x'3).2.1))) ((Prod.snd x'3).1) → ∀ (t4 : Bool), (t4 = if (s4 == s5) = true then v4 == v5 else false) → (t4 = true → uxN (Prod.fst x'2) (Eng.RowD.f (((Prod.snd x'2).2.1))) (Eng.RowD.n (((Prod.snd x'2).2.1))) ((Prod.snd x'2).1) ≤ uxN (Prod.fst x'2) (Eng.RowD.f (((Prod.snd x'2).2.1))) (Eng.RowD.n (((Prod.snd x'2).2.1))) ((Prod.snd x'2).1)) ∧ (t4 = true → ∀ (k4 : Nat), k4 < uxN
      (Prod.fst x'2) (Eng.RowD.f (((Prod.snd x'2).2.1))) (Eng.RowD.n (((Prod.snd x'2).2.1))) ((Prod.snd x'2).1) → true = true) ∧ (t4 = true → y2.1 = y2.1 ∧ y2.2.1 = y2.2.1) ∧ (t4 = true → uxN (Prod.fst x'3) (Eng.RowD.f (((Prod.snd x'3).2.1))) (Eng.RowD.n (((Prod.snd x'3).2.1))) ((Prod.snd x'3).1) ≤ uxN (Prod.fst x'3) (Eng.RowD.f (((Prod.snd x'3).2.1))) (Eng.RowD.n (((Prod.snd x'3).2.1))) ((Prod.snd
      x'3).1)) ∧ (t4 = true → ∀ (k5 : Nat), k5 < uxN (Prod.fst x'3) (Eng.RowD.f (((Prod.snd x'3).2.1))) (Eng.RowD.n (((Prod.snd x'3).2.1))) ((Prod.snd x'3).1) → true = true) ∧ (t4 = true → y3.1 = y3.1 ∧ y3.2.1 = y3.2.1) ∧ ∀ (t5 : Bool), t5 = intsB (Eng.RowD.mk y2.1 y2.2.1 (uxN (Prod.fst x'2) (Eng.RowD.f (((Prod.snd x'2).2.1))) (Eng.RowD.n (((Prod.snd x'2).2.1))) ((Prod.snd x'2).1)) y2.2.2 (Nat.beq (uxN
      (Prod.fst x'2) (Eng.RowD.f (((Prod.snd x'2).2.1))) (Eng.RowD.n (((Prod.snd x'2).2.1))) ((Prod.snd x'2).1)) 0) (uxC (Prod.fst x'2) (Eng.RowD.f (((Prod.snd x'2).2.1))) (Eng.RowD.n (((Prod.snd x'2).2.1))) (Int.toNat ((Prod.snd x'2).1)))) (Eng.RowD.mk y3.1 y3.2.1 (uxN (Prod.fst x'3) (Eng.RowD.f (((Prod.snd x'3).2.1))) (Eng.RowD.n (((Prod.snd x'3).2.1))) ((Prod.snd x'3).1)) y3.2.2 (Nat.beq (uxN
      (Prod.fst x'3) (Eng.RowD.f (((Prod.snd x'3).2.1))) (Eng.RowD.n (((Prod.snd x'3).2.1))) ((Prod.snd x'3).1)) 0) (uxC (Prod.fst x'3) (Eng.RowD.f (((Prod.snd x'3).2.1))) (Eng.RowD.n (((Prod.snd x'3).2.1))) (Int.toNat ((Prod.snd x'3).1)))) → ∀ (t6 : Bool), (t6 = if t4 = true then t5 else false) → ∀ (t7 : Bool), t7 = true → ∀ (t8 : Bool), (t8 = if t6 = true then t7 else false) → t8 = true))) (by kernel_rfl) ?_
  try simp only [eq_self, true_and, and_true, Nat.le_refl, implies_true, forall_const, Bool.false_eq_true, Bool.true_eq_false, reduceCtorEq, false_imp_iff, true_imp_iff, Int.toNat_zero, Int.toNat_natCast, Nat.zero_lt_one, Int.le_refl, allGet]
  obtain ⟨-, -, ⟨R1, R2, R3⟩, -⟩ := hR
  dsimp only at R1 R2 R3
  intro v1 h1 v2 h2 t1 ht1
  refine ⟨fun _ t h => h, fun hf s1 hs1 v3 h3 => ?_⟩
  have kn : d.length ≤ 1000 ∧ m ≤ 60 := by
    rw [hf] at ht1
    by_cases q : v1 > 1000
    · rw [if_pos (decide_eq_true q)] at ht1; cases ht1
    · rw [if_neg (by rw [decide_eq_false q]; decide)] at ht1
      have := of_decide_eq_false ht1.symm
      omega
  obtain ⟨k1, k2⟩ := kn
  clear ht1 hf h1 h2
  refine ⟨⟨fun _ => ⟨d, rfl, (by show d.length ≤ 1100; omega)⟩, fun heq => ⟨s1, rfl, ?_⟩⟩, fun s2 hl => ⟨fun _ t h => h, fun hne x1 hx1 => ?_⟩⟩
  · have hB : wB d n = false := by
      cases q : wB d n with
      | false => rfl
      | true => rw [h3] at heq; unfold wrapE at heq; rw [q] at heq; cases heq
    obtain ⟨q1, q2, q3, q4⟩ := wB_false hB
    show s1.length ≤ 1100
    rw [hs1]
    unfold wrapL
    rw [hB, if_neg (by decide), List.length_append, byt_len]
    omega
  have l2 : 1 ≤ s2.length := by
    cases s2 with
    | nil => simp at hne
    | cons a r => exact Nat.succ_le_succ (Nat.zero_le _)
  subst hx1
  dsimp only
  have hsp : (spN (s2, RowD.mk eb eo m c z f, ())).length ≤ m := spO_len _ _ _
  generalize spN (s2, RowD.mk eb eo m c z f, ()) = O at *
  refine ⟨l2, by omega, by omega, fun i hi => u8_in (R3 i hi).2.1, fun y1 hy1 s3 hs3 x2 hx2 => ?_⟩
  subst hx2
  dsimp only
  refine ⟨by omega, fun y2 hy2 s4 hs4 v4 h4 x3 hx3 => ?_⟩
  subst hx3
  dsimp only
  refine ⟨by omega, fun y3 hy3 s5 hs5 v5 h5 t4 ht4 t5 ht5 t6 ht6 t7 ht7 t8 ht8 => ?_⟩
  have f4 : t4 = true := by rw [ht4, hs4, hs5, h4, h5]; simp
  have f5 : t5 = true := by
    rw [ht5]
    unfold intsB
    dsimp only
    rw [decide_eq_true rfl, eqTo_yes fun i hi => by simp]
    rfl
  rw [ht8, ht6, f4, f5, ht7]
  rfl
section
variable {H : Type} {enc : TypeId × Value → H}
theorem unwrapsTop (W : World) (base : Nat) : OpTop enc Tryz.prog W base Tryz.f4.params.toList aUnw (fun x => x.1.length ≤ 140737488351232 ∧ inKind .i64 x.2.1 ∧ (x.2.2.1.n ≤ x.2.2.1.c ∧ x.2.2.1.c * 16 ≤ 140737488351232 ∧ ∀ i, i < x.2.2.1.n → ErrIn (x.2.2.1.f i)) ∧ True) :=
  .cons (.elt (ct := [9]) (.str (by kernel_rfl) (by kernel_rfl)) (by kernel_rfl)) (.inr ⟨notStruct (by kernel_rfl), notArray (by kernel_rfl), rfl, fun _ _ => rfl⟩)
    (.cons (.elt (ct := [3]) (.int (by kernel_rfl) (by kernel_rfl)) (by kernel_rfl)) (.inr ⟨notStruct (by kernel_rfl), notArray (by kernel_rfl), rfl, fun _ _ => rfl⟩)
      (.cons (.row (e := 57) (by kernel_rfl) (.agg (l := [(3, 0), (5, 1), (4, 2)]) (tot := 3) (by kernel_rfl) (by kernel_rfl) (by kernel_rfl) (.cons (.int (by kernel_rfl) (by kernel_rfl)) rfl (.cons (.int (by kernel_rfl) (by kernel_rfl)) rfl (.cons (.bool (by kernel_rfl) (by kernel_rfl)) rfl .nil)))) (by kernel_rfl) (by kernel_rfl)) (.inr ⟨notStruct (by kernel_rfl), notArray (by kernel_rfl), rfl, fun _ _ => rfl⟩) .nil))
end
end Galois
