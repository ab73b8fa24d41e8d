/-
  OWN WORK. Galois: polynomials: the parts.
-/
import Derived.Test.YtnibcchhhebfaaaGreatDoorG3
namespace Galois
open Go Go.Proofs Eng
set_option linter.unusedVariables false
set_option linter.unusedSimpArgs false
set_option maxHeartbeats 4000000
set_option maxRecDepth 100000

def xr (x y : Int) : Int := IntKind.u8.wrap ((BitVec.ofInt IntKind.u8.bits x ^^^ BitVec.ofInt IntKind.u8.bits y).toNat : Int)
theorem xr_nat {a b : Nat} (ha : a < 256) (hb : b < 256) : xr (a : Int) b = ((Nat.xor a b : Nat) : Int) := xor8 ha hb
def ET : Env := ES.addP 107 trimmed
theorem ET_ok : EnvOk Tryz.prog ET := ES_ok.addP trimR2_ok
/-! ### add -/
abbrev tByt : Arg (OwnD Int) := .orow 5 (.int .u8)
abbrev aAdd : ArgL (OwnD Int × Int × Int × Unit) := .cons tByt (.cons (.elt (.int .i64)) (.cons (.elt (.int .u8)) .nil))
def addF (f : Nat → Int) (i : Nat) (c : Int) : Nat → Int := fun k => if k = i then xr (f i) c else f k
def add := ecU aAdd (fun x => [0 ≤ x.2.1, x.2.1 < x.1.n, x.1.n ≤ x.1.m, x.1.m ≤ x.1.cap]) (fun _ (_ : Unit) => True) (fun x _ => ({ x.1 with f := addF x.1.f x.2.1.toNat x.2.2.1 }, x.2)) (fun _ _ => .tup [])
theorem add_ok : EcOk Tryz.prog 140 add := by
  refine ecC_run (fun _ => ET_ok) Tryz.func140 rfl (by kernel_rfl) [] (fun x => []) (fun _ => Nat.le_of_ble_eq_true rfl) (fun ⟨⟨b, o, n, c, z, m, cap, ez, f⟩, i, v, ()⟩ hp hw => ?_)
  refine vc_of (q :=
      (0:Int)≤i∧i < (↑n:Int)∧(b=b∧o=o)∧Int.toNat i < m∧∀ (v1:Int), v1=IntKind.u8.wrap (↑(BitVec.toNat (BitVec.ofInt (IntKind.u8.bits) (f (Int.toNat i)) ^^^ BitVec.ofInt (IntKind.u8.bits) v)):Int)→(0:Int)≤i∧i < (↑n:Int)∧(b=b∧o=o)∧Int.toNat i < m∧∃ (x1:Unit), True∧((b=b∧o=o∧ez=ez∧m≤m∧m≤cap∧cap≤cap)∧∀ (i1:Nat), i1 < m→(if i1=Int.toNat i then v1 else f i1)=addF f (Int.toNat i) v i1)∧True) (by kernel_rfl) ?_
  try simp only [eq_self, true_and, and_true, Nat.le_refl, implies_true, forall_const, Bool.false_eq_true, Bool.true_eq_false, reduceCtorEq, false_imp_iff, true_imp_iff, Int.toNat_zero, Int.toNat_natCast, Nat.zero_lt_one, Int.le_refl, allGet]
  obtain ⟨h1, h2, h3, h4, _⟩ := hp
  dsimp only at h1 h2 h3 h4
  refine ⟨h1, h2, by omega, fun v1 hv => ⟨h1, h2, by omega, (), h4, fun k hk => ?_⟩⟩
  subst hv
  rfl
def EU : Env := ET.addE 140 add
theorem EU_ok : EnvOk Tryz.prog EU := ET_ok.addE add_ok
/-! ### spread -/
abbrev aSpread : ArgL ((OwnD Int × Unit) × List UInt8 × Int × Int × Unit) := .cons (.fnl 140 (.cons tByt .nil)) (.cons (.elt .str) (.cons (.elt (.int .i64)) (.cons (.elt (.int .u8)) .nil)))
def sprF (f : Nat → Int) (p : List UInt8) (at' : Nat) (c : Int) (n : Nat) : Nat → Int := fun k => if at' ≤ k ∧ k < at' + n then xr (f k) (mulI c (p.getD (k - at') 0).toNat) else f k
def spread := ecU aSpread (fun x => [0 ≤ x.2.2.1, x.2.2.1 + x.2.1.length ≤ x.1.1.n, x.1.1.n ≤ x.1.1.m, x.1.1.m ≤ x.1.1.cap, x.1.1.n ≤ 1000000, isB x.2.2.2.1]) (fun _ (_ : Unit) => True)
  (fun x _ => (({ x.1.1 with f := sprF x.1.1.f x.2.1 x.2.2.1.toNat x.2.2.2.1 x.2.1.length }, ()), x.2)) (fun _ _ => .tup [])
theorem spread_ok : EcOk Tryz.prog 141 spread := by
  refine ecC_run (fun _ => EU_ok) Tryz.func141 rfl (by kernel_rfl) [] (fun x => [.loop ⟨1, Nat, [11], fun k => [.int .i64 k], [0], fun k => Hp.owned (aSpread.hp 0 (({ x.1.1 with f := sprF x.1.1.f x.2.1 x.2.2.1.toNat x.2.2.2.1 k }, ()), x.2)), fun k => k ≤ x.2.1.length, fun k => x.2.1.length - k⟩]) (fun _ => Nat.le_of_ble_eq_true rfl)
    (fun ⟨(⟨b, o, n, c, z, m, cap, ez, f⟩, ()), l, i, v, ()⟩ hp hw => ?_)
  refine vc_of (q :=
      ∀ (v1:Int), v1=(↑(List.length l):Int)→(∃ (x1:Nat), (0:Int)=(↑x1:Int)∧((b=b∧o=o∧ez=ez∧m≤m∧m≤cap∧cap≤cap)∧∀ (i1:Nat), i1 < m→f i1=sprF f l (Int.toNat i) v x1 i1)∧Nat.le x1 (List.length l))∧∀ (b1:Nat), b1≤List.length l→(decide ((↑b1:Int) < v1)=true→∀ (v2:Int), v2=IntKind.i64.wrap (i+(↑b1:Int))→(0:Int)≤(↑b1:Int)∧(↑b1:Int) < (↑(List.length l):Int)∧((0:Int)≤v∧v≤(255:Int))∧((0:Int)≤(↑(UInt8.toNat
      (List.getD l (Int.toNat (↑b1:Int)) 0)):Int)∧(↑(UInt8.toNat (List.getD l (Int.toNat (↑b1:Int)) 0)):Int)≤(255:Int))∧∀ (v3:Int), v3=mulI v (↑(UInt8.toNat (List.getD l (Int.toNat (↑b1:Int)) 0)):Int)→(b=b∧o=o)∧(0=0∧∀ (k1:Nat), k1 < m→true=true)∧∀ (x'1:Eng.OwnD Int × Int × Int × Unit), x'1=(Eng.OwnD.mk b o n c z m cap ez (sprF f l (Int.toNat i) v b1), v2, v3, ())→(0:Int)≤(Prod.snd x'1).1∧(Prod.snd x'1).1
      < (↑(Eng.OwnD.n (Prod.fst x'1)):Int)∧Eng.OwnD.n (Prod.fst x'1)≤Eng.OwnD.m (Prod.fst x'1)∧Eng.OwnD.m (Prod.fst x'1)≤Eng.OwnD.cap (Prod.fst x'1)∧∀ (y1:Unit), True→∀ (v4:Int), v4=IntKind.i64.wrap ((↑b1:Int)+(1:Int))→∃ (x2:Nat), v4=(↑x2:Int)∧((Eng.OwnD.b (Prod.fst x'1)=b∧Eng.OwnD.off (Prod.fst x'1)=o∧Eng.OwnD.ez (Prod.fst x'1)=ez∧m≤Eng.OwnD.m (Prod.fst x'1)∧m≤cap∧cap≤Eng.OwnD.cap (Prod.fst x'1))∧∀
      (i2:Nat), i2 < m→addF (Eng.OwnD.f (Prod.fst x'1)) (Int.toNat ((Prod.snd x'1).1)) (((Prod.snd x'1).2.1)) i2=sprF f l (Int.toNat i) v x2 i2)∧x2≤List.length l∧List.length l - x2 < List.length l - b1)∧(decide ((↑b1:Int) < v1)=false→∃ (x2:Unit), True∧((b=b∧o=o∧ez=ez∧m≤m∧m≤cap∧cap≤cap)∧∀ (i2:Nat), i2 < m→sprF f l (Int.toNat i) v b1 i2=sprF f l (Int.toNat i) v (List.length l) i2)∧True)) (by kernel_rfl) ?_
  try simp only [eq_self, true_and, and_true, Nat.le_refl, implies_true, forall_const, Bool.false_eq_true, Bool.true_eq_false, reduceCtorEq, false_imp_iff, true_imp_iff, Int.toNat_zero, Int.toNat_natCast, Nat.zero_lt_one, Int.le_refl, allGet]
  obtain ⟨h1, h2, h3, h4, h5, h6, _⟩ := hp
  dsimp only at h1 h2 h3 h4 h5 h6
  intro v1 hv1
  subst hv1
  refine ⟨⟨0, rfl, ⟨h4, fun k _ => ?_⟩, Nat.zero_le _⟩, fun j hj => ⟨fun hlt v2 hv2 => ?_, fun hge => ?_⟩⟩
  · unfold sprF
    rw [if_neg (by omega)]
  · have hlt := of_decide_eq_true hlt
    have hb := (l.getD j 0).toNat_lt
    rw [w64_id (by omega) (by omega)] at hv2
    refine ⟨by omega, hlt, h6, ⟨by omega, by omega⟩, fun v3 hv3 x hx => ?_⟩
    subst hx
    refine ⟨by show 0 ≤ v2; omega, by show v2 < n; omega, h3, h4, fun v4 hv4 => ⟨j + 1, hv4.trans (l_succ (by omega)), ⟨⟨rfl, rfl, rfl, Nat.le_refl _, h4, Nat.le_refl _⟩, fun k hk => ?_⟩, by omega, by omega⟩⟩
    show (if k = v2.toNat then xr (sprF f l i.toNat v j v2.toNat) v3 else sprF f l i.toNat v j k) = sprF f l i.toNat v (j + 1) k
    have e : v2.toNat = i.toNat + j := by omega
    rw [e]
    unfold sprF
    by_cases hk : k = i.toNat + j
    · subst hk
      rw [if_pos rfl, if_neg (by omega), if_pos (by omega), hv3, show i.toNat + j - i.toNat = j by omega]
    · rw [if_neg hk]
      by_cases hk2 : i.toNat ≤ k ∧ k < i.toNat + j
      · rw [if_pos hk2, if_pos (by omega)]
      · rw [if_neg hk2, if_neg (by omega)]
  · have := of_decide_eq_false hge
    obtain rfl : j = l.length := by omega
    exact ⟨(), h4, fun _ _ => rfl⟩
end Galois
