/-
  OWN WORK. Galois: polynomials: the parts.
-/
import Derived.Test.YtnibcchhhebfaaaGreatDoorG2
namespace Galois
open Go Go.Proofs Eng
set_option linter.unusedVariables false
set_option linter.unusedSimpArgs false
set_option maxHeartbeats 4000000
set_option maxRecDepth 100000

def tlenA (l : List UInt8) : Nat → Nat
  | 0 => 0
  | n + 1 => if l.getD n 0 = 0 then tlenA l n else n + 1
def tlen (l : List UInt8) : Nat := tlenA l l.length
def trimL (l : List UInt8) : List UInt8 := l.take (tlen l)
theorem tlenA_le (l : List UInt8) : ∀ n, tlenA l n ≤ n
  | 0 => Nat.le_refl 0
  | n + 1 => by
    simp only [tlenA]
    split
    · have := tlenA_le l n; omega
    · exact Nat.le_refl _
theorem tlen_le (l : List UInt8) : tlen l ≤ l.length := tlenA_le l _
theorem getD_take (l : List UInt8) {n k : Nat} (h : k < n) : (l.take n).getD k 0 = l.getD k 0 := by
  simp [List.getD, List.getElem?_take, h]
theorem u8z (x : UInt8) : ((x.toNat : Int) == 0) = true ↔ x = 0 := by
  simp
  constructor
  · intro h; exact UInt8.toNat_inj.1 h
  · rintro rfl; rfl
theorem trimL_len (l : List UInt8) : (trimL l).length = tlen l := by rw [trimL, List.length_take]; exact Nat.min_eq_left (tlen_le l)
theorem trim_le {l : List UInt8} (h : l.length ≤ 9223372036854775807) : (SV.str (trimL l)).wf := by
  show (trimL l).length ≤ _
  rw [trimL_len]
  exact Nat.le_trans (tlen_le l) h
theorem trim_wf {l : List UInt8} {r : List SV} (h : ∀ v ∈ SV.str l :: r, v.wf) : (SV.str (trimL l)).wf := trim_le (h _ (List.mem_cons_self ..))
abbrev aStrB : ArgL (List UInt8 × Int × Unit) := .cons (.elt .str) (.cons (.elt (.int .u8)) .nil)
def trimB := pcOf aStrB (fun x => [x.2.1 = 0]) (fun x => .str (trimL x.1))
theorem trimB_ok : PcOk Tryz.prog 93 trimB := by
  refine pcOf_runS (fun _ => EN_ok) Tryz.func93 rfl (by kernel_rfl) (fun x hw => trim_wf hw)
    (fun x => [.lp 1 Nat [0] (fun n => [.str (x.1.take n)]) (fun n => n ≤ x.1.length ∧ tlenA x.1 n = tlen x.1) fun n => n]) (fun _ => Nat.le_of_ble_eq_true rfl) (fun ⟨l, c, ()⟩ hp hw => ?_)
  refine vc_of (q :=
      (∃ (x1:Nat), l=List.take x1 l∧x1≤List.length l∧tlenA l x1=tlen l)∧∀ (b1:Nat), b1≤List.length l∧tlenA l b1=tlen l→∀ (v1:Int), v1=(↑(List.length (List.take b1 l)):Int)→∀ (v2:Int), v2=(↑(List.length (List.take b1 l)):Int)→∀ (v3:Int), v3=IntKind.i64.wrap (v2 - (1:Int))→(decide (v1 > (0:Int))=true→0≤v3)∧(decide (v1 > (0:Int))=true→v3 < (↑(List.length (List.take b1 l)):Int))∧∀ (t1:Bool), (t1=if decide
      (v1 > (0:Int))=true then (↑(UInt8.toNat (List.getD (List.take b1 l) (Int.toNat v3) 0)):Int)==c else false)→(t1=true→∀ (v4:Int), v4=(↑(List.length (List.take b1 l)):Int)→∀ (v5:Int), v5=IntKind.i64.wrap (v4 - (1:Int))→0≤v5∧v5≤(↑(List.length (List.take b1 l)):Int)∧(0:Int)≤(0:Int)∧0≤v5∧∃ (x2:Nat), List.drop (Int.toNat (0:Int)) (List.take (Int.toNat v5) (List.take b1 l))=List.take x2 l∧(x2≤List.length
      l∧tlenA l x2=tlen l)∧x2 < b1)∧(t1=false→List.take b1 l=trimL l)) (by kernel_rfl) ?_
  try simp only [eq_self, true_and, and_true, Nat.le_refl, implies_true, forall_const, Bool.false_eq_true, Bool.true_eq_false, reduceCtorEq, false_imp_iff, true_imp_iff, Int.toNat_zero, Int.toNat_natCast, Nat.zero_lt_one, Int.le_refl, allGet]
  have hc : c = 0 := hp.1
  subst hc
  have hl : l.length ≤ 9223372036854775807 := hw (.str l) (List.mem_cons_self ..)
  refine ⟨⟨l.length, by simp, Nat.le_refl _, rfl⟩, fun n ⟨hn, ht⟩ v1 h1 v2 h2 v3 h3 => ?_⟩
  have hlen : (l.take n).length = n := by rw [List.length_take]; exact Nat.min_eq_left hn
  rw [hlen] at h1 h2 ⊢
  subst h1 h2
  rw [w64_id (by omega) (by omega)] at h3
  subst h3
  refine ⟨fun h => ?_, fun h => by omega, fun t1 h1 => ⟨fun ht1 v4 h4 v5 h5 => ?_, fun ht1 => ?_⟩⟩
  · have := of_decide_eq_true h; omega
  · subst h4
    rw [w64_id (by omega) (by omega)] at h5
    subst h5
    rw [ht1] at h1
    by_cases h0 : (n : Int) > 0
    · rw [if_pos (by simp; omega)] at h1
      obtain ⟨m, rfl⟩ : ∃ m, n = m + 1 := ⟨n - 1, by omega⟩
      have e : (((m + 1 : Nat) : Int) - 1).toNat = m := by omega
      rw [e, getD_take l (by omega)] at h1
      have hz := (u8z _).1 h1.symm
      refine ⟨by omega, by omega, by omega, m, ?_, ⟨by omega, ?_⟩, by omega⟩
      · rw [e, List.drop_zero, List.take_take, Nat.min_eq_left (by omega)]
      · rw [← ht]
        show _ = if l.getD m 0 = 0 then _ else _
        rw [if_pos hz]
    · rw [if_neg (by simp; omega)] at h1
      cases h1
  · rw [ht1] at h1
    unfold trimL
    rw [← ht]
    cases n with
    | zero => rfl
    | succ m =>
      rw [if_pos (decide_eq_true (by omega))] at h1
      have e : (((m + 1 : Nat) : Int) - 1).toNat = m := by omega
      rw [e, getD_take l (by omega)] at h1
      show _ = List.take (if l.getD m 0 = 0 then _ else _) l
      rw [if_neg]
      intro hz
      rw [(u8z _).2 hz] at h1
      cases h1
def EO : Env := EN.addP 93 trimB
theorem EO_ok : EnvOk Tryz.prog EO := EN_ok.addP trimB_ok
abbrev aStrS : ArgL (List UInt8 × List UInt8 × Unit) := .cons (.elt .str) (.cons (.elt .str) .nil)
def trimR := pcOf aStrS (fun x => [x.2.1 = [0]]) (fun x => .str (trimL x.1))
theorem trimR_ok : PcOk Tryz.prog 160 trimR := by
  refine pcOf_runS (fun _ => EO_ok) Tryz.func160 rfl (by kernel_rfl) (fun x hw => trim_wf hw) (fun x => []) (fun _ => Nat.le_of_ble_eq_true rfl) (fun ⟨l, c, ()⟩ hp hw => ?_)
  refine vc_of (q :=
      ∀ (t1:Bool), (t1=if (l==[])=true then true else c==[])→(t1=true→l=trimL l)∧(t1=false→∀ (v1:Int), v1=(↑(List.length c):Int)→((v1==(1:Int))=true→(0:Int)≤(0:Int))∧((v1==(1:Int))=true→(0:Int) < (↑(List.length c):Int))∧∀ (t2:Bool), (t2=if (v1==(1:Int))=true then decide ((↑(UInt8.toNat (List.getD c (Int.toNat (0:Int)) 0)):Int) < (128:Int)) else false)→(t2=true→(0:Int)≤(0:Int)∧(0:Int) < (↑(List.length
      c):Int)∧(↑(UInt8.toNat (List.getD c (Int.toNat (0:Int)) 0)):Int)=(0:Int)∧∀ (s1:List UInt8), s1=trimL l→s1=trimL l)∧(t2=false→False))) (by kernel_rfl) ?_
  try simp only [eq_self, true_and, and_true, Nat.le_refl, implies_true, forall_const, Bool.false_eq_true, Bool.true_eq_false, reduceCtorEq, false_imp_iff, true_imp_iff, Int.toNat_zero, Int.toNat_natCast, Nat.zero_lt_one, Int.le_refl, allGet]
  have hc : c = [0] := hp.1
  subst hc
  refine fun t1 h1 => ⟨fun ht => ?_, fun ht v1 hv1 => ⟨fun _ => by decide, fun t2 h2 => ⟨fun _ => ⟨by decide, rfl, fun _ h => h⟩, fun h3 => ?_⟩⟩⟩
  · rw [ht] at h1
    have : l = [] := by
      by_cases h : (l == []) = true
      · simpa using h
      · simp [h] at h1
    subst this
    rfl
  · subst hv1 h2
    revert h3
    decide
def EQ : Env := EO.addP 160 trimR
theorem EQ_ok : EnvOk Tryz.prog EQ := EO_ok.addP trimR_ok
abbrev aStr : ArgL (List UInt8 × Unit) := .cons (.elt .str) .nil
def trimmed := pcOf aStr (fun _ => []) (fun x => .str (trimL x.1))
theorem trimmed_ok : PcOk Tryz.prog 138 trimmed := by
  refine pcOf_runS (fun _ => EQ_ok) Tryz.func138 rfl (by kernel_rfl) (fun x hw => trim_wf hw) (fun x => []) (fun _ => Nat.le_of_ble_eq_true rfl) (fun ⟨l, ()⟩ hp hw => ?_)
  refine vc_of (q :=
      [(0:UInt8)]=[0]∧∀ (s1:List UInt8), s1=trimL l→s1=trimL l) (by kernel_rfl) ?_
  try simp only [eq_self, true_and, and_true, Nat.le_refl, implies_true, forall_const, Bool.false_eq_true, Bool.true_eq_false, reduceCtorEq, false_imp_iff, true_imp_iff, Int.toNat_zero, Int.toNat_natCast, Nat.zero_lt_one, Int.le_refl, allGet]
  exact fun _ h => h
def ER : Env := EQ.addP 138 trimmed
theorem ER_ok : EnvOk Tryz.prog ER := EQ_ok.addP trimmed_ok
def ES : Env := ER
theorem ES_ok : EnvOk Tryz.prog ES := ER_ok
abbrev aStrI : ArgL (List UInt8 × Int × Unit) := .cons (.elt .str) (.cons (.elt (.int .i64)) .nil)
end Galois
namespace Galois
open Go Go.Proofs Eng
set_option linter.unusedVariables false
set_option linter.unusedSimpArgs false
set_option maxHeartbeats 4000000
set_option maxRecDepth 100000

def xr (x y : Int) : Int := IntKind.u8.wrap ((BitVec.ofInt IntKind.u8.bits x ^^^ BitVec.ofInt IntKind.u8.bits y).toNat : Int)
theorem xr_nat {a b : Nat} (ha : a < 256) (hb : b < 256) : xr (a : Int) b = ((Nat.xor a b : Nat) : Int) := xor8 ha hb
def ET : Env := ES
theorem ET_ok : EnvOk Tryz.prog ET := ES_ok
/-! ### add -/
abbrev tByt : Arg (OwnD Int) := .orow 5 (.int .u8)
abbrev aAdd : ArgL (OwnD Int × Int × Int × Unit) := .cons tByt (.cons (.elt (.int .i64)) (.cons (.elt (.int .u8)) .nil))
def addF (f : Nat → Int) (i : Nat) (c : Int) : Nat → Int := fun k => if k = i then xr (f i) c else f k
def add := ecU aAdd (fun x => [0 ≤ x.2.1, x.2.1 < x.1.n, x.1.n ≤ x.1.m, x.1.m ≤ x.1.cap]) (fun _ (_ : Unit) => True) (fun x _ => ({ x.1 with f := addF x.1.f x.2.1.toNat x.2.2.1 }, x.2)) (fun _ _ => .tup [])
theorem add_ok : EcOk Tryz.prog 140 add := by
  refine ecC_run (fun _ => ET_ok) Tryz.func140 rfl (by kernel_rfl) [] (fun x => []) (fun _ => Nat.le_of_ble_eq_true rfl) (fun ⟨⟨b, o, n, c, z, m, cap, ez, f⟩, i, v, ()⟩ hp hw => ?_)
  refine vc_of (q :=
      (0:Int)≤i∧i < (↑n:Int)∧(b=b∧o=o)∧Int.toNat i < m∧∀ (v1:Int), v1=IntKind.u8.wrap (↑(BitVec.toNat (BitVec.ofInt (IntKind.u8.bits) (f (Int.toNat i)) ^^^ BitVec.ofInt (IntKind.u8.bits) v)):Int)→(0:Int)≤i∧i < (↑n:Int)∧(b=b∧o=o)∧Int.toNat i < m∧∃ (x1:Unit), True∧((b=b∧o=o∧ez=ez∧m≤m∧m≤cap∧cap≤cap)∧∀ (i1:Nat), i1 < m→(if i1=Int.toNat i then v1 else f i1)=addF f (Int.toNat i) v i1)∧True) (by kernel_rfl) ?_
  try simp only [eq_self, true_and, and_true, Nat.le_refl, implies_true, forall_const, Bool.false_eq_true, Bool.true_eq_false, reduceCtorEq, false_imp_iff, true_imp_iff, Int.toNat_zero, Int.toNat_natCast, Nat.zero_lt_one, Int.le_refl, allGet]
  obtain ⟨h1, h2, h3, h4, _⟩ := hp
  dsimp only at h1 h2 h3 h4
  refine ⟨h1, h2, by omega, fun v1 hv => ⟨h1, h2, by omega, (), h4, fun k hk => ?_⟩⟩
  subst hv
  rfl
def EU : Env := ET.addE 140 add
theorem EU_ok : EnvOk Tryz.prog EU := ET_ok.addE add_ok
/-! ### spread -/
abbrev aSpread : ArgL ((OwnD Int × Unit) × List UInt8 × Int × Int × Unit) := .cons (.fnl 140 (.cons tByt .nil)) (.cons (.elt .str) (.cons (.elt (.int .i64)) (.cons (.elt (.int .u8)) .nil)))
def sprF (f : Nat → Int) (p : List UInt8) (at' : Nat) (c : Int) (n : Nat) : Nat → Int := fun k => if at' ≤ k ∧ k < at' + n then xr (f k) (mulI c (p.getD (k - at') 0).toNat) else f k
def spread := ecU aSpread (fun x => [0 ≤ x.2.2.1, x.2.2.1 + x.2.1.length ≤ x.1.1.n, x.1.1.n ≤ x.1.1.m, x.1.1.m ≤ x.1.1.cap, x.1.1.n ≤ 1000000, isB x.2.2.2.1]) (fun _ (_ : Unit) => True)
  (fun x _ => (({ x.1.1 with f := sprF x.1.1.f x.2.1 x.2.2.1.toNat x.2.2.2.1 x.2.1.length }, ()), x.2)) (fun _ _ => .tup [])
theorem spread_ok : EcOk Tryz.prog 141 spread := by
  refine ecC_run (fun _ => EU_ok) Tryz.func141 rfl (by kernel_rfl) [] (fun x => [.loop ⟨1, Nat, [11], fun k => [.int .i64 k], [0], fun k => Hp.owned (aSpread.hp 0 (({ x.1.1 with f := sprF x.1.1.f x.2.1 x.2.2.1.toNat x.2.2.2.1 k }, ()), x.2)), fun k => k ≤ x.2.1.length, fun k => x.2.1.length - k⟩]) (fun _ => Nat.le_of_ble_eq_true rfl)
    (fun ⟨(⟨b, o, n, c, z, m, cap, ez, f⟩, ()), l, i, v, ()⟩ hp hw => ?_)
  refine vc_of (q :=
      ∀ (v1:Int), v1=(↑(List.length l):Int)→(∃ (x1:Nat), (0:Int)=(↑x1:Int)∧((b=b∧o=o∧ez=ez∧m≤m∧m≤cap∧cap≤cap)∧∀ (i1:Nat), i1 < m→f i1=sprF f l (Int.toNat i) v x1 i1)∧Nat.le x1 (List.length l))∧∀ (b1:Nat), b1≤List.length l→(decide ((↑b1:Int) < v1)=true→∀ (v2:Int), v2=IntKind.i64.wrap (i+(↑b1:Int))→(0:Int)≤(↑b1:Int)∧(↑b1:Int) < (↑(List.length l):Int)∧((0:Int)≤v∧v≤(255:Int))∧((0:Int)≤(↑(UInt8.toNat
      (List.getD l (Int.toNat (↑b1:Int)) 0)):Int)∧(↑(UInt8.toNat (List.getD l (Int.toNat (↑b1:Int)) 0)):Int)≤(255:Int))∧∀ (v3:Int), v3=mulI v (↑(UInt8.toNat (List.getD l (Int.toNat (↑b1:Int)) 0)):Int)→(b=b∧o=o)∧(0=0∧∀ (k1:Nat), k1 < m→true=true)∧∀ (x'1:Eng.OwnD Int × Int × Int × Unit), x'1=(Eng.OwnD.mk b o n c z m cap ez (sprF f l (Int.toNat i) v b1), v2, v3, ())→(0:Int)≤(Prod.snd x'1).1∧(Prod.snd x'1).1
      < (↑(Eng.OwnD.n (Prod.fst x'1)):Int)∧Eng.OwnD.n (Prod.fst x'1)≤Eng.OwnD.m (Prod.fst x'1)∧Eng.OwnD.m (Prod.fst x'1)≤Eng.OwnD.cap (Prod.fst x'1)∧∀ (y1:Unit), True→∀ (v4:Int), v4=IntKind.i64.wrap ((↑b1:Int)+(1:Int))→∃ (x2:Nat), v4=(↑x2:Int)∧((Eng.OwnD.b (Prod.fst x'1)=b∧Eng.OwnD.off (Prod.fst x'1)=o∧Eng.OwnD.ez (Prod.fst x'1)=ez∧m≤Eng.OwnD.m (Prod.fst x'1)∧m≤cap∧cap≤Eng.OwnD.cap (Prod.fst x'1))∧∀
      (i2:Nat), i2 < m→addF (Eng.OwnD.f (Prod.fst x'1)) (Int.toNat ((Prod.snd x'1).1)) (((Prod.snd x'1).2.1)) i2=sprF f l (Int.toNat i) v x2 i2)∧x2≤List.length l∧List.length l - x2 < List.length l - b1)∧(decide ((↑b1:Int) < v1)=false→∃ (x2:Unit), True∧((b=b∧o=o∧ez=ez∧m≤m∧m≤cap∧cap≤cap)∧∀ (i2:Nat), i2 < m→sprF f l (Int.toNat i) v b1 i2=sprF f l (Int.toNat i) v (List.length l) i2)∧True)) (by kernel_rfl) ?_
  try simp only [eq_self, true_and, and_true, Nat.le_refl, implies_true, forall_const, Bool.false_eq_true, Bool.true_eq_false, reduceCtorEq, false_imp_iff, true_imp_iff, Int.toNat_zero, Int.toNat_natCast, Nat.zero_lt_one, Int.le_refl, allGet]
  obtain ⟨h1, h2, h3, h4, h5, h6, _⟩ := hp
  dsimp only at h1 h2 h3 h4 h5 h6
  intro v1 hv1
  subst hv1
  refine ⟨⟨0, rfl, ⟨h4, fun k _ => ?_⟩, Nat.zero_le _⟩, fun j hj => ⟨fun hlt v2 hv2 => ?_, fun hge => ?_⟩⟩
  · unfold sprF
    rw [if_neg (by omega)]
  · have hlt := of_decide_eq_true hlt
    have hb := (l.getD j 0).toNat_lt
    rw [w64_id (by omega) (by omega)] at hv2
    refine ⟨by omega, hlt, h6, ⟨by omega, by omega⟩, fun v3 hv3 x hx => ?_⟩
    subst hx
    refine ⟨by show 0 ≤ v2; omega, by show v2 < n; omega, h3, h4, fun v4 hv4 => ⟨j + 1, hv4.trans (l_succ (by omega)), ⟨⟨rfl, rfl, rfl, Nat.le_refl _, h4, Nat.le_refl _⟩, fun k hk => ?_⟩, by omega, by omega⟩⟩
    show (if k = v2.toNat then xr (sprF f l i.toNat v j v2.toNat) v3 else sprF f l i.toNat v j k) = sprF f l i.toNat v (j + 1) k
    have e : v2.toNat = i.toNat + j := by omega
    rw [e]
    unfold sprF
    by_cases hk : k = i.toNat + j
    · subst hk
      rw [if_pos rfl, if_neg (by omega), if_pos (by omega), hv3, show i.toNat + j - i.toNat = j by omega]
    · rw [if_neg hk]
      by_cases hk2 : i.toNat ≤ k ∧ k < i.toNat + j
      · rw [if_pos hk2, if_pos (by omega)]
      · rw [if_neg hk2, if_neg (by omega)]
  · have := of_decide_eq_false hge
    obtain rfl : j = l.length := by omega
    exact ⟨(), h4, fun _ _ => rfl⟩
end Galois
