/-
  OWN WORK. Units of the program: bytes, comparisons, the sum behind.
-/
import Derived.Test.YtfmbmiiioojbeaaGreatL3
namespace Rc
open Go Go.Proofs Eng
set_option linter.unusedVariables false
set_option linter.unusedSimpArgs false
set_option maxRecDepth 100000
set_option maxHeartbeats 4000000
theorem within_ok : PcOk Tryz.prog 69 withinC := by
  refine pcOf_run (fun _ => E0_ok) Tryz.func69 rfl (by kernel_rfl) (fun x => trivial)
    (fun x => []) (fun _ => Nat.le_of_ble_eq_true rfl) (fun ⟨n, a, b, ()⟩ hp hw => ?_)
  refine vc_of (q :=
      ∀ (t1:Bool), (t1=if decide (n≥a)=true then decide (n≤b) else false)→t1=decide (inR n a b)) (by kernel_rfl) ?_
  try simp only [eq_self, true_and, and_true, Nat.le_refl, implies_true, forall_const, Bool.false_eq_true, Bool.true_eq_false, reduceCtorEq, false_imp_iff, true_imp_iff, Int.toNat_zero, Int.toNat_natCast, Nat.zero_lt_one, Int.le_refl, allGet]
  intro t h
  show t = decide (inR n a b)
  rw [h]
  simp only [inR]
  by_cases h1 : a ≤ n <;> by_cases h2 : n ≤ b <;> simp [h1, h2]
/-- A list as a row's elements. -/
def rowG (l : List UInt8) : Nat → SV := fun k => .int .u8 ((l.getD k 0).toNat : Int)
theorem byt_rowG (l : List UInt8) : Byt.of (fun k => ((l.getD k 0).toNat : Int)) l.length = l := by
  apply List.ext_getElem
  · simp [Byt.of]
  · intro i h1 h2
    simp [Byt.of, List.getD_eq_getElem?_getD, List.getElem?_eq_getElem h2]
theorem byN_get (n : Nat) : ∀ (m k : Nat), k < m → (byN n m).getD k 0 = UInt8.ofNat (n / 256 ^ (m - 1 - k) % 256)
  | m + 1, 0, _ => by simp [byN]
  | m + 1, k + 1, h => by
    have := byN_get n m k (by omega)
    rw [byN, List.getD_cons_succ, this]
    congr 4
    omega
theorem byN_at (n m k : Nat) (h : k < m) : (((byN n m).getD k 0).toNat : Int) = ((n / 256 ^ (m - 1 - k) % 256 : Nat) : Int) := by
  rw [byN_get n m k h]
  simp
abbrev RowY := Nat × Nat × Nat
def bytesC := ecC aII (fun x => [0 ≤ x.1 ∧ x.1 ≤ 4294967295, 1 ≤ x.2.1 ∧ x.2.1 ≤ 8]) (fun x (y : RowY) => x.2.1.toNat ≤ y.2.2 ∧ y.2.2 ≤ 9223372036854775807)
  (fun x y => .slice 0 y.1 y.2.1 [] 1 0 x.2.1.toNat y.2.2 false)
  (fun x y => [⟨0, y.1, y.2.1, 1, x.2.1.toNat, rowG (byI x.1 x.2.1.toNat), true, false, y.2.2, 5, false, none⟩]) 1
theorem bytes_ok : EcOk Tryz.prog 56 bytesC := by
  refine ecC_run (fun _ => E0_ok) Tryz.func56 rfl (by kernel_rfl) []
    (fun x => [.loop ⟨3, Nat × RowY, [5, 6], fun y => [.slice 100 y.2.1 y.2.2.1 [] 1 0 y.1 y.2.2.2 (decide (y.1 = 0)), .int .i64 (x.2.1 - 1 - y.1)], [100],
      fun y => [⟨100, y.2.1, y.2.2.1, 1, y.1, fun k => .int .u8 ((x.1.toNat / 256 ^ (x.2.1.toNat - 1 - k) % 256 : Nat) : Int), true, false, y.2.2.2, 5, decide (y.1 = 0), none⟩],
      fun y => y.1 ≤ x.2.1.toNat ∧ y.1 ≤ y.2.2.2 ∧ y.2.2.2 ≤ 9223372036854775807 ∧ (y.1 = 0 → y.2.2.2 = 0), fun y => x.2.1.toNat - y.1⟩])
    (fun _ => Nat.le_of_ble_eq_true rfl) (fun ⟨n, m, ()⟩ hp hw => ?_)
  refine vc_of (q :=
      ∀ (v1:Int), v1=IntKind.i64.wrap (m - (1:Int))→(∃ (x1:Nat × Nat × Nat × Nat), SVeq (SV.slice 999999 0 0 [] 0 0 0 0 true) (SV.slice 100 x1.2.1 x1.2.2.1 [] 1 0 x1.1 x1.2.2.2 (decide (x1.1=0)))∧v1=m - (1:Int) - (↑x1.1:Int)∧(decide (x1.1=0)=true∧x1.1=0∧x1.2.2.2=0)∧x1.1≤Int.toNat m∧x1.1≤x1.2.2.2∧x1.2.2.2≤9223372036854775807∧(x1.1=0→x1.2.2.2=0))∧∀ (x2:Nat × Nat × Nat × Nat), x2.1≤Int.toNat
      m∧x2.1≤x2.2.2.2∧x2.2.2.2≤9223372036854775807∧(x2.1=0→x2.2.2.2=0)→(decide (m - (1:Int) - (↑x2.1:Int)≥(0:Int))=true→∀ (v2:Int), v2=IntKind.i64.wrap ((8:Int)*(m - (1:Int) - (↑x2.1:Int)))→0≤v2∧∀ (v3:Int), v3=Int.fdiv n ((2:Int) ^ Min.min (Int.toNat v2) IntKind.i64.bits)→∀ (v4:Int), v4=IntKind.u8.wrap v3→∀ (b1:Nat), (x2.2.1=x2.2.1∧x2.2.2.1=x2.2.2.1)∧(decide (x2.1=0)=true→decide
      (x2.1=0)=true)∧0=0∧x2.1≤x2.1∧x2.2.2.2≤x2.2.2.2∧(x2.1+1)*1≤140737488355328∧x2.1+1≤9223372036854775807∧1≤1∧(b1=b1∧0=0)∧∀ (b2 b3 b4:Nat), x2.1+1≤b4→b4≤9223372036854775807→(decide (x2.1=0)=true→1=0→b4=0)→∀ (v5:Int), v5=IntKind.i64.wrap (m - (1:Int) - (↑x2.1:Int) - (1:Int))→∃ (x3:Nat × Nat × Nat × Nat), (b2=x3.2.1∧b3=x3.2.2.1∧0=0∧x2.1+1=x3.1∧b4=x3.2.2.2∧(decide (x2.1=0)&&decide (1=0))=decide
      (x3.1=0))∧v5=m - (1:Int) - (↑x3.1:Int)∧((b2=x3.2.1∧b3=x3.2.2.1∧(decide (x2.1=0)&&decide (1=0))=decide (x3.1=0)∧x3.1≤x2.1+1∧x3.1≤x3.2.2.2∧x3.2.2.2≤b4)∧∀ (i1:Nat), i1 < x3.1→(if i1 < x2.1 then (↑(Int.toNat n / 256 ^ (Int.toNat m - 1 - i1) % 256):Int) else v4)=(↑(Int.toNat n / 256 ^ (Int.toNat m - 1 - i1) % 256):Int))∧(x3.1≤Int.toNat
      m∧x3.1≤x3.2.2.2∧x3.2.2.2≤9223372036854775807∧(x3.1=0→x3.2.2.2=0))∧Int.toNat m - x3.1 < Int.toNat m - x2.1)∧(decide (m - (1:Int) - (↑x2.1:Int)≥(0:Int))=false→∃ (x3:Nat × Nat × Nat), (x2.2.1=x3.1∧x2.2.2.1=x3.2.1∧0=0∧x2.1=Int.toNat m∧x2.2.2.2=x3.2.2∧decide (x2.1=0)=false)∧((x2.2.1=x3.1∧x2.2.2.1=x3.2.1∧decide (x2.1=0)=false∧Int.toNat m≤x2.1∧Int.toNat m≤x3.2.2∧x3.2.2≤x2.2.2.2)∧∀ (i1:Nat), i1 < Int.toNat
      m→(↑(Int.toNat n / 256 ^ (Int.toNat m - 1 - i1) % 256):Int)=(↑(UInt8.toNat (List.getD (byI n (Int.toNat m)) i1 0)):Int))∧Int.toNat m≤x3.2.2∧x3.2.2≤9223372036854775807)) (by kernel_rfl) ?_
  try simp only [eq_self, true_and, and_true, Nat.le_refl, implies_true, forall_const, Bool.false_eq_true, Bool.true_eq_false, reduceCtorEq, false_imp_iff, true_imp_iff, Int.toNat_zero, Int.toNat_natCast, Nat.zero_lt_one, Int.le_refl, allGet]
  obtain ⟨⟨n0, n1⟩, ⟨m0, m1⟩, _⟩ := hp
  dsimp only at n0 n1 m0 m1
  obtain ⟨k, rfl⟩ : ∃ k : Nat, n = k := ⟨n.toNat, by omega⟩
  obtain ⟨j, rfl⟩ : ∃ k : Nat, m = k := ⟨m.toNat, by omega⟩
  intro v1 h1
  rw [w64_id (by omega) (by omega)] at h1
  subst h1
  refine ⟨⟨(0, 0, 0, 0), nil_eqv rfl rfl rfl, by dsimp only; omega, ⟨rfl, rfl, rfl⟩, Nat.zero_le _, Nat.zero_le _, by decide, fun _ => rfl⟩, ?_⟩
  rintro ⟨i, b, o, c⟩ ⟨i1, i2, i3, i4⟩
  dsimp only at i1 i2 i3 i4 ⊢
  refine ⟨fun hlt v2 h2 => ?_, fun hge => ?_⟩
  · have hlt : i < j := by have := of_decide_eq_true hlt; omega
    have e2 : v2 = (8 * (j - 1 - i) : Nat) := by rw [h2, w64_id (by omega) (by omega)]; omega
    subst e2
    refine ⟨by omega, fun v3 h3 v4 h4 => ⟨fun q => q, by omega, by omega, fun b1 b2 b3 g1 g2 v5 h5 => ⟨(i + 1, b1, b2, b3), ⟨rfl, rfl, rfl, rfl, by simp⟩, ?_, ⟨⟨rfl, rfl, by simp, Nat.le_refl _, g1, Nat.le_refl _⟩, fun q hq => ?_⟩, ⟨by show i + 1 ≤ j; omega, g1, g2, fun q => by cases q⟩, by show j - (i + 1) < j - i; omega⟩⟩⟩
    · rw [h5, w64_id (by omega) (by omega)]; dsimp only; omega
    · have hq : q < i + 1 := hq
      by_cases e : q < i
      · rw [if_pos e]
      · obtain rfl : q = i := by omega
        rw [if_neg e, h4, h3, IntKind.wrap_u8]
        have e1 : min (((8 * (j - 1 - q) : Nat) : Int)).toNat IntKind.i64.bits = 8 * (j - 1 - q) := by show min (8 * (j - 1 - q)) 64 = _; omega
        rw [e1, fdiv_pow, Nat.pow_mul]
        show (((k / 256 ^ (j - 1 - q) : Nat) : Int)) % 256 = ((k / 256 ^ (j - 1 - q) % 256 : Nat) : Int)
        omega
  · have : i = j := by have := of_decide_eq_false hge; omega
    subst this
    refine ⟨(b, o, c), ⟨rfl, rfl, rfl, rfl, by simp; omega⟩, ⟨⟨rfl, rfl, by simp; omega, Nat.le_refl _, i2, Nat.le_refl _⟩, fun q hq => ?_⟩, i2, i3⟩
    exact (byN_at k i q hq).symm
def equalC := pcOf (.cons (.row eGap) (.cons (.row eGap) .nil)) (fun x => []) (fun x => .bool (decide (gapsOf x.1 = gapsOf x.2.1)))
theorem equal_ok : PcOk Tryz.prog 131 equalC := by
  refine pcOf_run (fun _ => EQ0_ok) Tryz.func131 rfl (by kernel_rfl) (fun x => trivial)
    (fun x => [.lp 4 Nat [13] (fun i => [.int .i64 (i : Nat)]) (fun i => i ≤ x.1.n ∧ ∀ k, k < i → (x.1.f k).1 = (x.2.1.f k).1 ∧ (x.1.f k).2.1 = (x.2.1.f k).2.1) (fun i => x.1.n - i)])
    (fun _ => Nat.le_of_ble_eq_true rfl) (fun ⟨⟨b, o, n, c, z, f⟩, ⟨b', o', n', c', z', f'⟩, ()⟩ hp hw => ?_)
  refine vc_of (q :=
      ∀ (v1:Int), v1=(↑n:Int)→∀ (v2:Int), v2=(↑n':Int)→((v1 != v2)=true→false=decide (gapsOf (Eng.RowD.mk b o n c z f)=gapsOf (Eng.RowD.mk b' o' n' c' z' f')))∧((v1 != v2)=false→∀ (v3:Int), v3=(↑n:Int)→(∃ (x1:Nat), 0=(↑x1:Int)∧x1≤n∧∀ (k1:Nat), k1 < x1→(f k1).1=(f' k1).1∧((f k1).2.1)=((f' k1).2.1))∧∀ (b1:Nat), (b1≤n∧∀ (k:Nat), k < b1→(f k).1=(f' k).1∧((f k).2.1)=((f' k).2.1))→(decide ((↑b1:Int) <
      v3)=true→0≤(↑b1:Int)∧(↑b1:Int) < (↑n:Int)∧(b=b∧o=o)∧Int.toNat (↑b1:Int) < n∧0≤(↑b1:Int)∧(↑b1:Int) < (↑n':Int)∧(b'=b'∧o'=o')∧Int.toNat (↑b1:Int) < n'∧((!((f (Int.toNat (↑b1:Int))).1==(f' (Int.toNat (↑b1:Int))).1&&(((f (Int.toNat (↑b1:Int))).2).1==((f' (Int.toNat (↑b1:Int))).2).1&&true)))=true→false=decide (gapsOf (Eng.RowD.mk b o n c z f)=gapsOf (Eng.RowD.mk b' o' n' c' z' f')))∧((!((f (Int.toNat
      (↑b1:Int))).1==(f' (Int.toNat (↑b1:Int))).1&&(((f (Int.toNat (↑b1:Int))).2).1==((f' (Int.toNat (↑b1:Int))).2).1&&true)))=false→∀ (v4:Int), v4=IntKind.i64.wrap ((↑b1:Int)+(1:Int))→∃ (x2:Nat), v4=(↑x2:Int)∧(x2≤n∧∀ (k2:Nat), k2 < x2→(f k2).1=(f' k2).1∧((f k2).2.1)=((f' k2).2.1))∧n - x2 < n - b1))∧(decide ((↑b1:Int) < v3)=false→true=decide (gapsOf (Eng.RowD.mk b o n c z f)=gapsOf (Eng.RowD.mk b' o' n'
      c' z' f'))))) (by kernel_rfl) ?_
  try simp only [eq_self, true_and, and_true, Nat.le_refl, implies_true, forall_const, Bool.false_eq_true, Bool.true_eq_false, reduceCtorEq, false_imp_iff, true_imp_iff, Int.toNat_zero, Int.toNat_natCast, Nat.zero_lt_one, Int.le_refl, allGet]
  intro v1 e1 v2 e2
  subst e1 e2
  refine ⟨fun h => ?_, fun h => ?_⟩
  · symm
    rw [decide_eq_false_iff_not]
    intro q
    have := congrArg List.length q
    simp only [gapsOf_len] at this
    subst this
    simp at h
  · obtain rfl : n = n' := by
      have h : (n : Int) = n' := by simpa using h
      omega
    have hn : n ≤ 9223372036854775807 := by
      have := hw _ (List.mem_cons_self ..)
      exact Nat.le_trans this.2.1 this.2.2
    intro v3 h3
    subst h3
    refine ⟨⟨0, rfl, Nat.zero_le _, fun k hk => by omega⟩, fun i ⟨hi, hg⟩ => ?_⟩
    refine ⟨fun hlt => ?_, fun hge => ?_⟩
    · have hlt : i < n := by have := of_decide_eq_true hlt; omega
      refine ⟨by omega, by omega, hlt, by omega, by omega, hlt, fun q => ?_, fun q v4 h4 => ⟨i + 1, ?_, ⟨hlt, fun k hk => ?_⟩, by omega⟩⟩
      · symm
        rw [decide_eq_false_iff_not]
        intro e
        have := congrArg (fun u => u[i]?) e
        simp only [gapsOf, List.getElem?_map, List.getElem?_range hlt, Option.map_some, Option.some.injEq, Prod.mk.injEq] at this
        rw [this.1, this.2] at q
        simp at q
      · rw [h4]; exact (w64_id (by omega) (by omega)).trans (by omega)
      · by_cases e : k = i
        · subst e
          simpa using q
        · exact hg k (by omega)
    · have : i = n := by have := of_decide_eq_false hge; omega
      subst this
      symm
      rw [decide_eq_true_eq]
      simp only [gapsOf]
      apply List.map_congr_left
      intro k hk
      have := hg k (List.mem_range.1 hk)
      rw [this.1, this.2]
def ES0 : Env := (E0.addQ 4 eqBool).addP 131 equalC
theorem ES0_ok : EnvOk Tryz.prog ES0 := (E0_ok.addQ (eqBool_ok (by kernel_rfl))).addP equal_ok
theorem same_ok : PcOk Tryz.prog 82 sameC := by
  refine pcOf_run (fun _ => ES0_ok) Tryz.func82 rfl (by kernel_rfl) (fun x => trivial)
    (fun x => [])
    (fun _ => Nat.le_of_ble_eq_true rfl) (fun ⟨⟨k, nr, nm, sz, sm, of, da, wy, o, me, ⟨b, oo, n, c, z, f⟩, ()⟩, ⟨k', nr', nm', sz', sm', of', da', wy', o', me', ⟨b', oo', n', c', z', f'⟩, ()⟩, ()⟩ hp hw => ?_)
  refine vc_of (q :=
      ∀ (b1 b2:Nat), (b1=b1∧0=0)∧(b2=b2∧0=0)∧n≤n∧(∀ (k1:Nat), k1 < n→true=true)∧(b=b∧oo=oo)∧n'≤n'∧(∀ (k2:Nat), k2 < n'→true=true)∧(b'=b'∧oo'=oo')∧∀ (t1:Bool), t1=decide (gapsOf (Eng.RowD.mk b oo n c z f)=gapsOf (Eng.RowD.mk b' oo' n' c' z' f'))→(t1=true→b1=b1∧0=0)∧(t1=true→b2=b2∧0=0)∧∀ (t2:Bool), (t2=if t1=true then k==k' else false)→(t2=true→b1=b1∧0=0)∧(t2=true→b2=b2∧0=0)∧∀ (t3:Bool), (t3=if t2=true
      then nr==nr' else false)→(t3=true→b1=b1∧0=0)∧(t3=true→b2=b2∧0=0)∧∀ (t4:Bool), (t4=if t3=true then nm==nm' else false)→(t4=true→b1=b1∧0=0)∧(t4=true→b2=b2∧0=0)∧∀ (t5:Bool), (t5=if t4=true then sz==sz' else false)→(t5=true→b1=b1∧0=0)∧(t5=true→b2=b2∧0=0)∧∀ (t6:Bool), (t6=if t5=true then sm==sm' else false)→(t6=true→b1=b1∧0=0)∧(t6=true→b2=b2∧0=0)∧∀ (t7:Bool), (t7=if t6=true then of==of' else
      false)→(t7=true→b1=b1∧0=0)∧(t7=true→b2=b2∧0=0)∧∀ (t8:Bool), (t8=if t7=true then da==da' else false)→(t8=true→b1=b1∧0=0)∧(t8=true→b2=b2∧0=0)∧∀ (t9:Bool), (t9=if t8=true then wy==wy' else false)→(t9=true→b1=b1∧0=0)∧(t9=true→b2=b2∧0=0)∧∀ (t10:Bool), (t10=if t9=true then o==o' else false)→(t10=true→b1=b1∧0=0)∧(t10=true→b2=b2∧0=0)∧∀ (t11:Bool), (t11=if t10=true then me==me' else false)→t11=decide (uOf
      (k, nr, nm, sz, sm, of, da, wy, o, me, Eng.RowD.mk b oo n c z f, ())=uOf (k', nr', nm', sz', sm', of', da', wy', o', me', Eng.RowD.mk b' oo' n' c' z' f', ()))) (by kernel_rfl) ?_
  try simp only [eq_self, true_and, and_true, Nat.le_refl, implies_true, forall_const, Bool.false_eq_true, Bool.true_eq_false, reduceCtorEq, false_imp_iff, true_imp_iff, Int.toNat_zero, Int.toNat_natCast, Nat.zero_lt_one, Int.le_refl, allGet]
  intro t1 h1 t2 h2 t3 h3 t4 h4 t5 h5 t6 h6 t7 h7 t8 h8 t9 h9 t10 h10 t11 h11
  rw [ite_and] at h2 h3 h4 h5 h6 h7 h8 h9 h10 h11
  rw [h11, h10, h9, h8, h7, h6, h5, h4, h3, h2, h1, Bool.eq_iff_iff]
  simp only [Bool.and_eq_true, beq_iff_eq, decide_eq_true_eq]
  simp only [uOf, U.mk.injEq, and_assoc]
  constructor
  · rintro ⟨a, b⟩
    simp [a, b]
  · intro h
    simp [h]
theorem orderly_ok : PcOk Tryz.prog 104 gapsC := by
  refine pcOf_run (fun _ => E0_ok) Tryz.func104 rfl (by kernel_rfl) (fun x => trivial)
    (fun x => [.lp 3 Nat [3, 8] (fun i => [.int .i64 (if i = 0 then -1 else (x.1.f (i - 1)).2.1), .int .i64 (i : Nat)]) (fun i => i ≤ x.1.n ∧ ∀ k, k < i → gapAt x.1 k) (fun i => x.1.n - i)])
    (fun _ => Nat.le_of_ble_eq_true rfl) (fun ⟨⟨b, o, n, c, z, f⟩, ()⟩ hp hw => ?_)
  refine vc_of (q :=
      ∀ (v1:Int), v1=(↑n:Int)→(∃ (x1:Nat), ((-1:Int)=if x1=0 then (-1:Int) else ((f (x1 - 1)).2).1)∧0=(↑x1:Int)∧x1≤n∧∀ (k1:Nat), k1 < x1→(if k1=0 then (-1:Int) else ((f (k1 - 1)).2).1) < (f k1).1∧(f k1).1 < ((f k1).2.1)∧((f k1).2.1)≤(65535:Int))∧∀ (b1:Nat), (b1≤n∧∀ (k:Nat), k < b1→(if k=0 then (-1:Int) else ((f (k - 1)).2).1) < (f k).1∧(f k).1 < ((f k).2.1)∧((f k).2.1)≤(65535:Int))→(decide ((↑b1:Int) <
      v1)=true→0≤(↑b1:Int)∧(↑b1:Int) < (↑n:Int)∧(b=b∧o=o)∧Int.toNat (↑b1:Int) < n∧∀ (b2:Nat), (b2=b2∧0=0)∧(b2=b2∧0=0)∧(decide ((f (Int.toNat (↑b1:Int))).1≤if b1=0 then (-1:Int) else ((f (b1 - 1)).2).1)=false→b2=b2∧0=0)∧(decide ((f (Int.toNat (↑b1:Int))).1≤if b1=0 then (-1:Int) else ((f (b1 - 1)).2).1)=false→b2=b2∧0=0)∧∀ (t1:Bool), (t1=if decide ((f (Int.toNat (↑b1:Int))).1≤if b1=0 then (-1:Int) else ((f
      (b1 - 1)).2).1)=true then true else decide ((f (Int.toNat (↑b1:Int))).1≥((f (Int.toNat (↑b1:Int))).2).1))→(t1=false→b2=b2∧0=0)∧∀ (t2:Bool), (t2=if t1=true then true else decide (((f (Int.toNat (↑b1:Int))).2).1 > (65535:Int)))→(t2=true→false=decide (gapsOk (-1:Int) (gapsOf (Eng.RowD.mk b o n c z f))∧n≤20))∧(t2=false→(b2=b2∧0=0)∧∀ (v2:Int), v2=IntKind.i64.wrap ((↑b1:Int)+(1:Int))→∃ (x2:Nat), (((f
      (Int.toNat (↑b1:Int))).2).1=if x2=0 then (-1:Int) else ((f (x2 - 1)).2).1)∧v2=(↑x2:Int)∧(x2≤n∧∀ (k2:Nat), k2 < x2→(if k2=0 then (-1:Int) else ((f (k2 - 1)).2).1) < (f k2).1∧(f k2).1 < ((f k2).2.1)∧((f k2).2.1)≤(65535:Int))∧n - x2 < n - b1))∧(decide ((↑b1:Int) < v1)=false→∀ (v2:Int), v2=(↑n:Int)→decide (v2≤(20:Int))=decide (gapsOk (-1:Int) (gapsOf (Eng.RowD.mk b o n c z f))∧n≤20))) (by kernel_rfl) ?_
  try simp only [eq_self, true_and, and_true, Nat.le_refl, implies_true, forall_const, Bool.false_eq_true, Bool.true_eq_false, reduceCtorEq, false_imp_iff, true_imp_iff, Int.toNat_zero, Int.toNat_natCast, Nat.zero_lt_one, Int.le_refl, allGet]
  have hn : n ≤ 9223372036854775807 := by
    have := hw _ (List.mem_cons_self ..)
    exact Nat.le_trans this.2.1 this.2.2
  intro v1 h1
  subst h1
  refine ⟨⟨0, rfl, rfl, Nat.zero_le _, fun k hk => by omega⟩, fun i ⟨hi, hg⟩ => ⟨fun hlt => ?_, fun hge v2 h2 => ?_⟩⟩
  · have hlt : i < n := by have := of_decide_eq_true hlt; omega
    refine ⟨by omega, by omega, hlt, fun t1 h1 t2 h2 => ?_⟩
    have ht : t2 = false ↔ gapAt ⟨b, o, n, c, z, f⟩ i := by
      rw [h2, h1]
      unfold gapAt
      dsimp only
      generalize (if i = 0 then (-1 : Int) else (f (i - 1)).2.1) = last
      by_cases c1 : (f i).1 ≤ last <;> by_cases c2 : (f i).1 ≥ (f i).2.1 <;> by_cases c3 : (f i).2.1 > 65535 <;> simp [c1, c2, c3] <;> omega
    refine ⟨fun q => ?_, fun q v3 h3 => ⟨i + 1, ?_, ?_, ⟨hlt, fun k hk => ?_⟩, by omega⟩⟩
    · symm
      rw [decide_eq_false_iff_not]
      rintro ⟨g1, _⟩
      have := ht.2 ((gapsOf_iff _).1 g1 i hlt)
      rw [q] at this; cases this
    · rw [if_neg (by omega)]; rfl
    · rw [h3]; exact (w64_id (by omega) (by omega)).trans (by omega)
    · by_cases e : k = i
      · rw [e]; exact ht.1 q
      · exact hg k (by omega)
  · have : i = n := by have := of_decide_eq_false hge; omega
    subst this
    have : gapsOk (-1) (gapsOf ⟨b, o, i, c, z, f⟩) := (gapsOf_iff _).2 fun k hk => hg k hk
    subst h2
    exact decide_eq_decide.2 ⟨fun q => ⟨this, by omega⟩, fun q => by omega⟩
theorem byt_app {f g : Nat → Int} {n m : Nat} : Byt.of (fun k => if k < n then f k else g (k - n)) (n + m) = Byt.of f n ++ Byt.of g m := by
  apply List.ext_getElem
  · simp [Byt.of]
  · intro i h1 h2
    have hi : i < n + m := by simpa [Byt.of] using h1
    by_cases e : i < n
    · rw [List.getElem_append_left (by simpa [Byt.of] using e)]
      simp [Byt.of, e]
    · rw [List.getElem_append_right (by simpa [Byt.of] using e)]
      simp [Byt.of, e]
theorem byt_congr {f g : Nat → Int} {n : Nat} (h : ∀ k, k < n → f k = g k) : Byt.of f n = Byt.of g n := by
  unfold Byt.of
  apply List.map_congr_left
  intro k hk
  rw [h k (List.mem_range.1 hk)]
theorem byt_len (f : Nat → Int) (n : Nat) : (Byt.of f n).length = n := by simp [Byt.of]
abbrev aOb : ArgL (OwnD Int × Unit) := .cons (.orow 5 (.int .u8)) .nil
def summedC := ecC aOb (fun x => [x.1.n ≤ 4294967296, x.1.n ≤ x.1.m, x.1.c ≤ x.1.cap, x.1.z = true → x.1.ez = true]) (fun x (y : Unit) => True) (fun x _ => .str (sealL (Byt.of x.1.f x.1.n))) (fun _ _ => []) 0
def EM0 : Env := (E0.addP 83 sum16).addE 56 bytesC
theorem EM0_ok : EnvOk Tryz.prog EM0 := (E0_ok.addP sumP16_ok).addE bytes_ok
theorem summed_ok : EcOk Tryz.prog 57 summedC := by
  refine ecC_run (fun _ => EM0_ok) Tryz.func57 rfl (by kernel_rfl) []
    (fun x => []) (fun _ => Nat.le_of_ble_eq_true rfl) (fun ⟨⟨b, o, n, c, z, m, cap, ez, f⟩, ()⟩ hp hw => ?_)
  refine vc_of (q :=
      n≤m∧(∀ (k1:Nat), k1 < n→true=true)∧(b=b∧o=o)∧∀ (s1:List UInt8), s1=Byt.of f n→∀ (v1:Int), v1=crc16 s1→∀ (v2:Int), v2=IntKind.i64.wrap v1→∀ (x'1:Int × Int × Unit), x'1=(v2, (2:Int), ())→((0:Int)≤Prod.fst x'1∧Prod.fst x'1≤(4294967295:Int))∧((1:Int)≤(Prod.snd x'1).1∧(Prod.snd x'1).1≤(8:Int))∧∀ (y1:Nat × Nat × Nat), Int.toNat ((Prod.snd
      x'1).1)≤y1.2.2∧y1.2.2≤9223372036854775807→(b=b∧o=o)∧(z=true→ez=true)∧0=0∧n≤m∧c≤cap∧(n+Int.toNat ((Prod.snd x'1).1))*1≤140737488355328∧n+Int.toNat ((Prod.snd x'1).1)≤9223372036854775807∧Int.toNat ((Prod.snd x'1).1)≤Int.toNat ((Prod.snd x'1).1)∧(y1.1=y1.1∧y1.2.1=y1.2.1)∧∀ (b1 b2 b3:Nat), n+Int.toNat ((Prod.snd x'1).1)≤b3→b3≤9223372036854775807→(ez=true→Int.toNat ((Prod.snd x'1).1)=0→b3=0)→n+Int.toNat
      ((Prod.snd x'1).1)≤n+Int.toNat ((Prod.snd x'1).1)∧(∀ (k2:Nat), k2 < n+Int.toNat ((Prod.snd x'1).1)→true=true)∧(b1=b1∧b2=b2)∧∀ (s2:List UInt8), s2=Byt.of (fun (k:Nat) ↦ if k < n then f k else (↑(UInt8.toNat (List.getD (byI (Prod.fst x'1) (Int.toNat ((Prod.snd x'1).1))) (k - n) 0)):Int)) (n+Int.toNat ((Prod.snd x'1).1))→∃ (x1:Unit), s2=sealL (Byt.of f n)∧True) (by kernel_rfl) ?_
  try simp only [eq_self, true_and, and_true, Nat.le_refl, implies_true, forall_const, Bool.false_eq_true, Bool.true_eq_false, reduceCtorEq, false_imp_iff, true_imp_iff, Int.toNat_zero, Int.toNat_natCast, Nat.zero_lt_one, Int.le_refl, allGet]
  obtain ⟨p1, p2, p3, p4, _⟩ := hp
  dsimp only at p1 p2 p3 p4
  refine ⟨p2, fun s1 h1 v1 h2 v2 h3 x hx => ?_⟩
  have h16 := crc16_in s1
  have h3 : v2 = crc16 s1 := by rw [h3, h2, w64_id (by omega) (by omega)]
  subst hx
  dsimp only
  refine ⟨⟨by omega, by omega⟩, by decide, fun y hy => ⟨p4, p2, p3, by show (n + 2) * 1 ≤ _; omega, by show n + 2 ≤ _; omega, fun b1 g1 g2 g3 s2 h4 => ⟨(), ?_⟩⟩⟩
  rw [h4]
  refine (byt_app (f := f) (g := fun q => (((byI v2 (Int.toNat 2)).getD q 0).toNat : Int)) (n := n) (m := Int.toNat 2)).trans ?_
  rw [← h1, h3]
  have e := byt_rowG (byI (crc16 s1) 2)
  rw [byI_len] at e
  unfold sealL
  rw [← e]
  rfl
end Rc
