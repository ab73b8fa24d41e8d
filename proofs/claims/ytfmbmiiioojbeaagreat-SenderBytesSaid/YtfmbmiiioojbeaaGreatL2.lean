/-
  OWN WORK. Units: the reference's Put.
-/
import Derived.Test.YtfmbmiiioojbeaaGreatL1
import Derived.Test.YtfmbmiiioojbeaaGreatLU
namespace Rc
open Go Go.Proofs Eng
set_option linter.unusedVariables false
set_option linter.unusedSimpArgs false
set_option maxRecDepth 100000
set_option maxHeartbeats 4000000
abbrev i64 : Elt Int := .int .i64
abbrev eGap : Elt (Int × Int × Unit) := .agg (.cons (.int .i64) (.cons (.int .i64) .nil))
abbrev GapD := RowD (Int × Int × Unit)
abbrev UD := Int × Int × List UInt8 × Int × Int × Int × List UInt8 × Int × Int × Bool × GapD × Unit
abbrev pUnit : Arg UD := .agg (.cons (.elt (.int .i64)) (.cons (.elt (.int .i64)) (.cons (.elt .str) (.cons (.elt (.int .i64)) (.cons (.elt (.int .u32)) (.cons (.elt (.int .i64)) (.cons (.elt .str) (.cons (.elt (.int .i64)) (.cons (.elt (.int .i64)) (.cons (.elt .bool) (.cons (.row eGap) .nil)))))))))))
def gapsOf (g : GapD) : List (Int × Int) := (List.range g.n).map fun k => ((g.f k).1, (g.f k).2.1)
def uOf : UD → U := fun ⟨k, nr, nm, sz, sm, of, da, wy, o, me, g, _⟩ => ⟨k, nr, nm, sz, sm, of, da, wy, o, me, gapsOf g⟩

/-! ### bytes, within -/
abbrev aII : ArgL (Int × Int × Unit) := .cons (.elt (.int .i64)) (.cons (.elt (.int .i64)) .nil)
def bytesR := pcOf aII (fun x => [0 ≤ x.1 ∧ x.1 ≤ 4294967295, 0 ≤ x.2.1 ∧ x.2.1 ≤ 16]) (fun x => .str (byI x.1 (min x.2.1.toNat 16)))
theorem byN_step (n i : Nat) : Byt.of (fun _ => ((n / 256 ^ i % 256 : Nat) : Int)) 1 ++ byN n i = byN n (i + 1) := by
  simp only [Byt.of, byN, List.range_one, List.map_cons, List.map_nil, List.singleton_append]
  rfl
theorem bytesR_ok : PcOk Tryz.prog 43 bytesR := by
  refine pcOf_run (fun _ => E0_ok) Tryz.func43 rfl (by kernel_rfl) (fun x => by show (byI x.1 (min x.2.1.toNat 16)).length ≤ _; rw [byI_len]; omega)
    (fun x => [.lp 3 Nat [0, 5, 6] (fun i => [.int .i64 (x.1.toNat / 256 ^ i : Nat), .str (byN x.1.toNat i), .int .i64 (i : Nat)]) (fun i => i ≤ x.2.1.toNat) (fun i => x.2.1.toNat - i)])
    (fun _ => Nat.le_of_ble_eq_true rfl) (fun ⟨n, m, ()⟩ hp hw => ?_)
  refine vc_of (q :=
      (∃ (x1:Nat), n=(↑(Int.toNat n / 256 ^ x1):Int)∧[]=byN (Int.toNat n) x1∧0=(↑x1:Int)∧Nat.le x1 (Int.toNat m))∧∀ (b1:Nat), b1≤Int.toNat m→(decide ((↑b1:Int) < m)=true→(256:Int)≠(0:Int)∧∀ (v1:Int), v1=Int.tmod (↑(Int.toNat n / 256 ^ b1):Int) (256:Int)→∀ (v2:Int), v2=IntKind.u8.wrap v1→∀ (b2:Nat), 1≤1∧(∀ (k1:Nat), k1 < 1→true=true)∧(b2=b2∧0=0)∧∀ (s1:List UInt8), s1=Byt.of (fun (k:Nat) ↦ v2)
      1→List.length s1+List.length (byN (Int.toNat n) b1)≤9223372036854775807∧∀ (s2:List UInt8), s2=s1++byN (Int.toNat n) b1→(256:Int)≠(0:Int)∧∀ (v3:Int), v3=IntKind.i64.wrap (Int.tdiv (↑(Int.toNat n / 256 ^ b1):Int) (256:Int))→∀ (v4:Int), v4=IntKind.i64.wrap ((↑b1:Int)+(1:Int))→∃ (x2:Nat), v3=(↑(Int.toNat n / 256 ^ x2):Int)∧s2=byN (Int.toNat n) x2∧v4=(↑x2:Int)∧x2≤Int.toNat m∧Int.toNat m - x2 < Int.toNat
      m - b1)∧(decide ((↑b1:Int) < m)=false→byN (Int.toNat n) b1=byI n (Min.min (Int.toNat m) 16))) (by kernel_rfl) ?_
  obtain ⟨⟨n0, n1⟩, ⟨m0, m1⟩, _⟩ := hp
  try simp only [eq_self, true_and, and_true, Nat.le_refl, implies_true, forall_const, Bool.false_eq_true, Bool.true_eq_false, reduceCtorEq, false_imp_iff, true_imp_iff, Int.toNat_zero, Int.toNat_natCast, Nat.zero_lt_one, Int.le_refl, allGet]
  dsimp only at n0 n1 m0 m1
  obtain ⟨k, rfl⟩ : ∃ k : Nat, n = k := ⟨n.toNat, by omega⟩
  obtain ⟨j, rfl⟩ : ∃ k : Nat, m = k := ⟨m.toNat, by omega⟩
  refine ⟨⟨0, by show (k : Int) = ((k / 256 ^ 0 : Nat) : Int); simp, rfl, rfl, Nat.zero_le _⟩, fun i hi => ⟨fun hlt => ⟨by decide, fun v1 h1 v2 h2 s1 e1 => ⟨?_, fun s2 e2 => ⟨by decide, fun v3 h3 v4 h4 => ⟨i + 1, ?_, ?_, ?_, ?_, ?_⟩⟩⟩⟩, fun hge => ?_⟩⟩
  · rw [e1]; simp [Byt.of, byN_len]; omega
  · have h0 : k / 256 ^ i ≤ k := Nat.div_le_self _ _
    have e : (((k / 256 ^ i : Nat) : Int)).tdiv 256 = ((k / 256 ^ i / 256 : Nat) : Int) := rfl
    rw [h3]
    show IntKind.i64.wrap (((k / 256 ^ i : Nat) : Int).tdiv 256) = ((k / 256 ^ (i + 1) : Nat) : Int)
    rw [e, Nat.pow_succ, ← Nat.div_div_eq_div_mul]
    generalize k / 256 ^ i = q at h0
    exact w64_id (by omega) (by omega)
  · have e1' : v1 = ((k / 256 ^ i % 256 : Nat) : Int) := by rw [h1]; rfl
    have e2' : v2 = ((k / 256 ^ i % 256 : Nat) : Int) := by rw [h2, e1', IntKind.wrap_u8]; omega
    rw [e2, e1, e2']
    exact byN_step k i
  · rw [h4, w64_id (by omega) (by omega)]; omega
  · have := of_decide_eq_true hlt; omega
  · have := of_decide_eq_true hlt; omega
  · have : i = j := by have := of_decide_eq_false hge; omega
    subst this
    rw [show min ((i : Nat) : Int).toNat 16 = i from by omega]
    rfl
abbrev aIII : ArgL (Int × Int × Int × Unit) := .cons (.elt (.int .i64)) (.cons (.elt (.int .i64)) (.cons (.elt (.int .i64)) .nil))
def withinC := pcOf aIII (fun x => []) (fun x => .bool (decide (inR x.1 x.2.1 x.2.2.1)))
theorem withinR_ok : PcOk Tryz.prog 66 withinC := by
  refine pcOf_run (fun _ => E0_ok) Tryz.func66 rfl (by kernel_rfl) (fun x => trivial)
    (fun x => []) (fun _ => Nat.le_of_ble_eq_true rfl) (fun ⟨n, a, b, ()⟩ hp hw => ?_)
  refine vc_of (q :=
      ∀ (t1:Bool), (t1=if decide (n≥a)=true then decide (n≤b) else false)→t1=decide (inR n a b)) (by kernel_rfl) ?_
  try simp only [eq_self, true_and, and_true, Nat.le_refl, implies_true, forall_const, Bool.false_eq_true, Bool.true_eq_false, reduceCtorEq, false_imp_iff, true_imp_iff, Int.toNat_zero, Int.toNat_natCast, Nat.zero_lt_one, Int.le_refl, allGet]
  intro t h
  show t = decide (inR n a b)
  rw [h]
  simp only [inR]
  by_cases h1 : a ≤ n <;> by_cases h2 : n ≤ b <;> simp [h1, h2]
theorem gapsOk_iff : ∀ (l : List (Int × Int)) (last : Int), gapsOk last l ↔ ∀ k (h : k < l.length), (if h0 : k = 0 then last else (l[k - 1]'(by omega)).2) < l[k].1 ∧ l[k].1 < l[k].2 ∧ l[k].2 ≤ 65535
  | [], last => by simp [gapsOk]
  | g :: r, last => by
    rw [gapsOk, gapsOk_iff r g.2]
    constructor
    · rintro ⟨h1, h2, h3, h4⟩ k hk
      cases k with
      | zero => exact ⟨h1, h2, h3⟩
      | succ k =>
        have := h4 k (by simpa using hk)
        cases k with
        | zero => simpa using this
        | succ k => simpa using this
    · intro h
      refine ⟨(h 0 (by simp)).1, (h 0 (by simp)).2.1, (h 0 (by simp)).2.2, fun k hk => ?_⟩
      have := h (k + 1) (by simpa using hk)
      cases k with
      | zero => simpa using this
      | succ k => simpa using this
abbrev gapAt (g : GapD) (k : Nat) : Prop := (if k = 0 then -1 else (g.f (k - 1)).2.1) < (g.f k).1 ∧ (g.f k).1 < (g.f k).2.1 ∧ (g.f k).2.1 ≤ 65535
theorem gapsOf_iff (g : GapD) : gapsOk (-1) (gapsOf g) ↔ ∀ k, k < g.n → gapAt g k := by
  rw [gapsOk_iff]
  constructor
  · intro h k hk
    have := h k (by simpa [gapsOf] using hk)
    simp only [gapsOf, List.getElem_map, List.getElem_range] at this
    exact this
  · intro h k hk
    have hk' : k < g.n := by simpa [gapsOf] using hk
    have := h k hk'
    simp only [gapsOf, List.getElem_map, List.getElem_range]
    exact this
theorem gapsOf_len (g : GapD) : (gapsOf g).length = g.n := by simp [gapsOf]
def gapsC := pcOf (.cons (.row eGap) .nil) (fun x => [x.1.n ≤ 8796093022208]) (fun x => .bool (decide (gapsOk (-1) (gapsOf x.1) ∧ x.1.n ≤ 20)))
theorem gapsR_ok : PcOk Tryz.prog 67 gapsC := by
  refine pcOf_run (fun _ => E0_ok) Tryz.func67 rfl (by kernel_rfl) (fun x => trivial)
    (fun x => [.lp 2 Nat [3] (fun i => [.int .i64 (i : Nat)]) (fun i => i ≤ x.1.n ∧ ∀ k, k < i → (if k = 0 then -1 else (x.1.f (k - 1)).2.1) < (x.1.f k).1 ∧ (x.1.f k).1 < (x.1.f k).2.1 ∧ (x.1.f k).2.1 ≤ 65535) (fun i => x.1.n - i)])
    (fun _ => Nat.le_of_ble_eq_true rfl) (fun ⟨⟨b, o, n, c, z, f⟩, ()⟩ hp hw => ?_)
  refine vc_of (q :=
      (∃ (x1:Nat), 0=(↑x1:Int)∧x1≤n∧∀ (k1:Nat), k1 < x1→(if k1=0 then (-1:Int) else ((f (k1 - 1)).2).1) < (f k1).1∧(f k1).1 < ((f k1).2.1)∧((f k1).2.1)≤(65535:Int))∧∀ (b1:Nat), (b1≤n∧∀ (k:Nat), k < b1→(if k=0 then (-1:Int) else ((f (k - 1)).2).1) < (f k).1∧(f k).1 < ((f k).2.1)∧((f k).2.1)≤(65535:Int))→∀ (v1:Int), v1=(↑n:Int)→(decide ((↑b1:Int) < v1)=true→0≤(↑b1:Int)∧(↑b1:Int) <
      (↑n:Int)∧(b=b∧o=o)∧Int.toNat (↑b1:Int) < n∧(decide ((f (Int.toNat (↑b1:Int))).1 < (0:Int))=false→0≤(↑b1:Int))∧(decide ((f (Int.toNat (↑b1:Int))).1 < (0:Int))=false→(↑b1:Int) < (↑n:Int))∧(decide ((f (Int.toNat (↑b1:Int))).1 < (0:Int))=false→b=b∧o=o)∧(decide ((f (Int.toNat (↑b1:Int))).1 < (0:Int))=false→Int.toNat (↑b1:Int) < n)∧(decide ((f (Int.toNat (↑b1:Int))).1 <
      (0:Int))=false→0≤(↑b1:Int))∧(decide ((f (Int.toNat (↑b1:Int))).1 < (0:Int))=false→(↑b1:Int) < (↑n:Int))∧(decide ((f (Int.toNat (↑b1:Int))).1 < (0:Int))=false→b=b∧o=o)∧(decide ((f (Int.toNat (↑b1:Int))).1 < (0:Int))=false→Int.toNat (↑b1:Int) < n)∧∀ (t1:Bool), (t1=if decide ((f (Int.toNat (↑b1:Int))).1 < (0:Int))=true then true else decide ((f (Int.toNat (↑b1:Int))).1≥((f (Int.toNat
      (↑b1:Int))).2).1))→(t1=false→0≤(↑b1:Int))∧(t1=false→(↑b1:Int) < (↑n:Int))∧(t1=false→b=b∧o=o)∧(t1=false→Int.toNat (↑b1:Int) < n)∧∀ (t2:Bool), (t2=if t1=true then true else decide (((f (Int.toNat (↑b1:Int))).2).1 > (65535:Int)))→(decide ((↑b1:Int) > (0:Int))=true∧t2=false→0≤(↑b1:Int))∧(decide ((↑b1:Int) > (0:Int))=true∧t2=false→(↑b1:Int) < (↑n:Int))∧(decide ((↑b1:Int) >
      (0:Int))=true∧t2=false→b=b∧o=o)∧(decide ((↑b1:Int) > (0:Int))=true∧t2=false→Int.toNat (↑b1:Int) < n)∧∀ (v2:Int), v2=IntKind.i64.wrap ((↑b1:Int) - (1:Int))→(decide ((↑b1:Int) > (0:Int))=true∧t2=false→0≤v2)∧(decide ((↑b1:Int) > (0:Int))=true∧t2=false→v2 < (↑n:Int))∧(decide ((↑b1:Int) > (0:Int))=true∧t2=false→b=b∧o=o)∧(decide ((↑b1:Int) > (0:Int))=true∧t2=false→Int.toNat v2 < n)∧∀ (t3:Bool), (t3=if
      decide ((↑b1:Int) > (0:Int))=true then decide ((f (Int.toNat (↑b1:Int))).1≤((f (Int.toNat v2)).2.1)) else false)→∀ (t4:Bool), (t4=if t2=true then true else t3)→(t4=true→false=decide (gapsOk (-1:Int) (gapsOf (Eng.RowD.mk b o n c z f))∧n≤20))∧(t4=false→∀ (v3:Int), v3=IntKind.i64.wrap ((↑b1:Int)+(1:Int))→∃ (x2:Nat), v3=(↑x2:Int)∧(x2≤n∧∀ (k2:Nat), k2 < x2→(if k2=0 then (-1:Int) else ((f (k2 - 1)).2).1)
      < (f k2).1∧(f k2).1 < ((f k2).2.1)∧((f k2).2.1)≤(65535:Int))∧n - x2 < n - b1))∧(decide ((↑b1:Int) < v1)=false→∀ (v2:Int), v2=(↑n:Int)→decide (v2≤(20:Int))=decide (gapsOk (-1:Int) (gapsOf (Eng.RowD.mk b o n c z f))∧n≤20))) (by kernel_rfl) ?_
  try simp only [eq_self, true_and, and_true, Nat.le_refl, implies_true, forall_const, Bool.false_eq_true, Bool.true_eq_false, reduceCtorEq, false_imp_iff, true_imp_iff, Int.toNat_zero, Int.toNat_natCast, Nat.zero_lt_one, Int.le_refl, allGet]
  obtain ⟨hn, _⟩ := hp
  dsimp only at hn
  refine ⟨⟨0, rfl, Nat.zero_le _, fun k hk => by omega⟩, fun i ⟨hi, hg⟩ v1 h1 => ?_⟩
  subst h1
  refine ⟨fun hlt => ?_, fun hge => ?_⟩
  · have hlt : i < n := by have := of_decide_eq_true hlt; omega
    refine ⟨by omega, by omega, hlt, fun _ => by omega, fun _ => by omega, fun _ => hlt, fun _ => by omega, fun _ => by omega, fun _ => hlt, fun t1 h1 => ⟨fun _ => by omega, fun _ => by omega, fun _ => hlt, fun t2 h2 => ⟨fun _ => by omega, fun _ => by omega, fun _ => hlt, fun v2 e2 => ?_⟩⟩⟩
    have e2 : v2 = (i : Int) - 1 := by rw [e2]; exact w64_id (by omega) (by omega)
    subst e2
    refine ⟨fun q => ?_, fun q => by omega, fun q => ?_, fun t3 h3 t4 h4 => ?_⟩
    · have := of_decide_eq_true q.1; omega
    · have := of_decide_eq_true q.1; omega
    have ht : t4 = false ↔ gapAt ⟨b, o, n, c, z, f⟩ i := by
      have hprev : i ≠ 0 → 0 < (f (i - 1)).2.1 := fun q => by
        have h := hg (i - 1) (by omega)
        by_cases q2 : i - 1 = 0
        · rw [if_pos q2] at h; omega
        · rw [if_neg q2] at h
          have h' := hg (i - 1) (by omega)
          have h0 : ∀ k, k < i → -1 < (f k).1 := by
            intro k
            induction k with
            | zero => intro q; have := (hg 0 q).1; simpa using this
            | succ k ih => intro q; have := ih (by omega); have a1 := hg (k + 1) q; have a2 := hg k (by omega); simp at a1; omega
          have := h0 (i - 1) (by omega)
          omega
      have e : ((i : Int) - 1).toNat = i - 1 := by omega
      rw [h4, h3, h2, h1, e]
      unfold gapAt
      dsimp only
      by_cases q0 : i = 0
      · subst q0
        by_cases c1 : (f 0).1 < 0 <;> by_cases c2 : (f 0).1 ≥ (f 0).2.1 <;> by_cases c3 : (f 0).2.1 > 65535 <;> simp [c1, c2, c3] <;> omega
      · have := hprev q0
        rw [if_neg q0]
        by_cases c1 : (f i).1 < 0 <;> by_cases c2 : (f i).1 ≥ (f i).2.1 <;> by_cases c3 : (f i).2.1 > 65535 <;> by_cases c4 : (f i).1 ≤ (f (i - 1)).2.1 <;> simp [c1, c2, c3, c4, show (i : Int) > 0 from by omega] <;> omega
    refine ⟨fun q => ?_, fun q v3 h3 => ⟨i + 1, ?_, ⟨hlt, fun k hk => ?_⟩, by omega⟩⟩
    · symm
      rw [decide_eq_false_iff_not]
      rintro ⟨g1, _⟩
      have := ht.2 ((gapsOf_iff _).1 g1 i hlt)
      rw [q] at this; cases this
    · rw [h3, w64_id (by omega) (by omega)]; omega
    · by_cases e : k = i
      · rw [e]; exact ht.1 q
      · exact hg k (by omega)
  · have : i = n := by have := of_decide_eq_false hge; omega
    subst this
    have : gapsOk (-1) (gapsOf ⟨b, o, i, c, z, f⟩) := (gapsOf_iff _).2 fun k hk => hg k hk
    intro v2 e2
    subst e2
    exact decide_eq_decide.2 ⟨fun q => ⟨this, by omega⟩, fun q => by omega⟩
theorem ud_n {t : Nat} {x : UD} (h : (pUnit.sv t x).wf) : x.2.2.2.2.2.2.2.2.2.2.1.n ≤ 9223372036854775807 := by
  obtain ⟨_, _, _, _, _, _, _, _, _, _, ⟨b, o, n, c, z, f⟩, _⟩ := x
  have := h.2.2.2.2.2.2.2.2.2.2.2.2.2.2.2.2.2.2.2.2.1
  exact Nat.le_trans this.2.1 this.2.2
def EQ0 : Env := (E0.addQ 45 (eqStruct [.int .i64, .int .i64])).addQ 4 eqBool
theorem EQ0_ok : EnvOk Tryz.prog EQ0 := (E0_ok.addQ (eqStruct_ok (by kernel_rfl) (by kernel_rfl) (by kernel_rfl) (by kernel_rfl))).addQ (eqBool_ok (by kernel_rfl))
theorem ite_and (b c : Bool) : (if b = true then c else false) = (b && c) := by cases b <;> rfl
def sameC := pcOf (.cons pUnit (.cons pUnit .nil)) (fun x => []) (fun x => .bool (decide (uOf x.1 = uOf x.2.1)))
theorem sameR_ok : PcOk Tryz.prog 68 sameC := by
  refine pcOf_run (fun _ => EQ0_ok) Tryz.func68 rfl (by kernel_rfl) (fun x => trivial)
    (fun x => [.lp 4 Nat [5] (fun i => [.int .i64 (i : Nat)]) (fun i => i ≤ x.1.2.2.2.2.2.2.2.2.2.2.1.n ∧ ∀ k, k < i → ((x.1.2.2.2.2.2.2.2.2.2.2.1.f k).1 = (x.2.1.2.2.2.2.2.2.2.2.2.2.1.f k).1 ∧ (x.1.2.2.2.2.2.2.2.2.2.2.1.f k).2.1 = (x.2.1.2.2.2.2.2.2.2.2.2.2.1.f k).2.1)) (fun i => x.1.2.2.2.2.2.2.2.2.2.2.1.n - i)])
    (fun _ => Nat.le_of_ble_eq_true rfl) (fun ⟨⟨k, nr, nm, sz, sm, of, da, wy, o, me, ⟨b, oo, n, c, z, f⟩, ()⟩, ⟨k', nr', nm', sz', sm', of', da', wy', o', me', ⟨b', oo', n', c', z', f'⟩, ()⟩, ()⟩ hp hw => ?_)
  refine vc_of (q :=
      ∀ (b1 b2:Nat), (b1=b1∧0=0)∧∀ (v1:Int), v1=(↑n:Int)→(b2=b2∧0=0)∧∀ (v2:Int), v2=(↑n':Int)→((v1 != v2)=true→false=decide (uOf (k, nr, nm, sz, sm, of, da, wy, o, me, Eng.RowD.mk b oo n c z f, ())=uOf (k', nr', nm', sz', sm', of', da', wy', o', me', Eng.RowD.mk b' oo' n' c' z' f', ())))∧((v1 != v2)=false→(∃ (x1:Nat), 0=(↑x1:Int)∧x1≤n∧∀ (k1:Nat), k1 < x1→(f k1).1=(f' k1).1∧((f k1).2.1)=((f' k1).2.1))∧∀
      (b3:Nat), (b3≤n∧∀ (k:Nat), k < b3→(f k).1=(f' k).1∧((f k).2.1)=((f' k).2.1))→(b1=b1∧0=0)∧∀ (v3:Int), v3=(↑n:Int)→(decide ((↑b3:Int) < v3)=true→(b1=b1∧0=0)∧0≤(↑b3:Int)∧(↑b3:Int) < (↑n:Int)∧(b=b∧oo=oo)∧Int.toNat (↑b3:Int) < n∧(b2=b2∧0=0)∧0≤(↑b3:Int)∧(↑b3:Int) < (↑n':Int)∧(b'=b'∧oo'=oo')∧Int.toNat (↑b3:Int) < n'∧((!((f (Int.toNat (↑b3:Int))).1==(f' (Int.toNat (↑b3:Int))).1&&(((f (Int.toNat
      (↑b3:Int))).2).1==((f' (Int.toNat (↑b3:Int))).2).1&&true)))=true→false=decide (uOf (k, nr, nm, sz, sm, of, da, wy, o, me, Eng.RowD.mk b oo n c z f, ())=uOf (k', nr', nm', sz', sm', of', da', wy', o', me', Eng.RowD.mk b' oo' n' c' z' f', ())))∧((!((f (Int.toNat (↑b3:Int))).1==(f' (Int.toNat (↑b3:Int))).1&&(((f (Int.toNat (↑b3:Int))).2).1==((f' (Int.toNat (↑b3:Int))).2).1&&true)))=false→∀ (v4:Int),
      v4=IntKind.i64.wrap ((↑b3:Int)+(1:Int))→∃ (x2:Nat), v4=(↑x2:Int)∧(x2≤n∧∀ (k2:Nat), k2 < x2→(f k2).1=(f' k2).1∧((f k2).2.1)=((f' k2).2.1))∧n - x2 < n - b3))∧(decide ((↑b3:Int) < v3)=false→(b1=b1∧0=0)∧(b2=b2∧0=0)∧((k==k')=true→b1=b1∧0=0)∧((k==k')=true→b2=b2∧0=0)∧∀ (t1:Bool), (t1=if (k==k')=true then nr==nr' else false)→(t1=true→b1=b1∧0=0)∧(t1=true→b2=b2∧0=0)∧∀ (t2:Bool), (t2=if t1=true then nm==nm'
      else false)→(t2=true→b1=b1∧0=0)∧(t2=true→b2=b2∧0=0)∧∀ (t3:Bool), (t3=if t2=true then sz==sz' else false)→(t3=true→b1=b1∧0=0)∧(t3=true→b2=b2∧0=0)∧∀ (t4:Bool), (t4=if t3=true then sm==sm' else false)→(t4=true→b1=b1∧0=0)∧(t4=true→b2=b2∧0=0)∧∀ (t5:Bool), (t5=if t4=true then of==of' else false)→(t5=true→b1=b1∧0=0)∧(t5=true→b2=b2∧0=0)∧∀ (t6:Bool), (t6=if t5=true then da==da' else
      false)→(t6=true→b1=b1∧0=0)∧(t6=true→b2=b2∧0=0)∧∀ (t7:Bool), (t7=if t6=true then wy==wy' else false)→(t7=true→b1=b1∧0=0)∧(t7=true→b2=b2∧0=0)∧∀ (t8:Bool), (t8=if t7=true then o==o' else false)→(t8=true→b1=b1∧0=0)∧(t8=true→b2=b2∧0=0)∧∀ (t9:Bool), (t9=if t8=true then me==me' else false)→t9=decide (uOf (k, nr, nm, sz, sm, of, da, wy, o, me, Eng.RowD.mk b oo n c z f, ())=uOf (k', nr', nm', sz', sm', of',
      da', wy', o', me', Eng.RowD.mk b' oo' n' c' z' f', ()))))) (by kernel_rfl) ?_
  try simp only [eq_self, true_and, and_true, Nat.le_refl, implies_true, forall_const, Bool.false_eq_true, Bool.true_eq_false, reduceCtorEq, false_imp_iff, true_imp_iff, Int.toNat_zero, Int.toNat_natCast, Nat.zero_lt_one, Int.le_refl, allGet]
  intro v1 e1 v2 e2
  subst e1 e2
  have hgl : n ≠ n' → uOf (k, nr, nm, sz, sm, of, da, wy, o, me, ⟨b, oo, n, c, z, f⟩, ()) ≠ uOf (k', nr', nm', sz', sm', of', da', wy', o', me', ⟨b', oo', n', c', z', f'⟩, ()) := fun hn q => by
    have := congrArg (fun u : U => u.gaps.length) q
    simp only [uOf, gapsOf_len] at this
    exact hn this
  refine ⟨fun h => ?_, fun h => ?_⟩
  · symm
    rw [decide_eq_false_iff_not]
    exact hgl (by intro q; subst q; simp at h)
  · obtain rfl : n = n' := by
      have h : (n : Int) = n' := by simpa using h
      omega
    have hn : n ≤ 9223372036854775807 := ud_n (hw _ (List.mem_cons_self ..))
    refine ⟨⟨0, rfl, Nat.zero_le _, fun k hk => by omega⟩, fun i ⟨hi, hg⟩ v3 h3 => ?_⟩
    subst h3
    refine ⟨fun hlt => ?_, fun hge => ?_⟩
    · have hlt : i < n := by have := of_decide_eq_true hlt; omega
      refine ⟨by omega, by omega, hlt, by omega, by omega, hlt, fun q => ?_, fun q v4 h4 => ⟨i + 1, ?_, ⟨hlt, fun k hk => ?_⟩, by omega⟩⟩
      · symm
        rw [decide_eq_false_iff_not]
        intro e
        have := congrArg (fun u : U => u.gaps[i]?) e
        simp only [uOf, gapsOf, List.getElem?_map, List.getElem?_range hlt, Option.map_some, Option.some.injEq, Prod.mk.injEq] at this
        rw [this.1, this.2] at q
        simp at q
      · rw [h4]; exact (w64_id (by omega) (by omega)).trans (by omega)
      · by_cases e : k = i
        · subst e
          simpa using q
        · exact hg k (by omega)
    · have : i = n := by have := of_decide_eq_false hge; omega
      subst this
      have hgg : gapsOf ⟨b, oo, i, c, z, f⟩ = gapsOf ⟨b', oo', i, c', z', f'⟩ := by
        simp only [gapsOf]
        apply List.map_congr_left
        intro k hk
        have := hg k (List.mem_range.1 hk)
        rw [this.1, this.2]
      intro t1 h1 t2 h2 t3 h3 t4 h4 t5 h5 t6 h6 t7 h7 t8 h8 t9 h9
      rw [ite_and] at h1 h2 h3 h4 h5 h6 h7 h8 h9
      rw [h9, h8, h7, h6, h5, h4, h3, h2, h1, Bool.eq_iff_iff]
      simp only [Bool.and_eq_true, beq_iff_eq, decide_eq_true_eq, uOf, U.mk.injEq, hgg, and_true, and_assoc]
end Rc
