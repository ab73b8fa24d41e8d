/-
  OWN WORK. Galois: products, quotients.
-/
import Derived.Test.YtnibcchhhebfaaaGreatDoorG4
namespace Galois
open Go Go.Proofs Eng
set_option linter.unusedVariables false
set_option linter.unusedSimpArgs false
set_option maxHeartbeats 4000000
set_option maxRecDepth 100000

/-! ### polynomials as functions -/
def co (p : List UInt8) (k : Nat) : Nat := (p.getD k 0).toNat
theorem co_lt (p : List UInt8) (k : Nat) : co p k < 256 := (p.getD k 0).toNat_lt
theorem co_over {p : List UInt8} {k : Nat} (h : p.length ≤ k) : co p k = 0 := by
  simp [co, List.getD, List.getElem?_eq_none h]
def ofN (F : Nat → Nat) (n : Nat) : List UInt8 := Byt.of (fun k => (F k : Int)) n
def spr (F : Nat → Nat) (p : List UInt8) (at' c : Nat) : Nat → Nat := fun k => if at' ≤ k then Nat.xor (F k) (gmul c (co p (k - at'))) else F k
theorem spr_lt {F : Nat → Nat} (h : ∀ k, F k < 256) (p : List UInt8) (at' : Nat) {c : Nat} (hc : c < 256) (k : Nat) : spr F p at' c k < 256 := by
  unfold spr
  split
  · exact xor_lt (h k) (gmul_lt hc)
  · exact h k
theorem sprF_nat {F : Nat → Nat} (h : ∀ k, F k < 256) (p : List UInt8) (at' : Nat) {c : Nat} (hc : c < 256) : sprF (fun k => (F k : Int)) p at' (c : Int) p.length = fun k => (spr F p at' c k : Int) := by
  funext k
  unfold sprF spr
  by_cases h1 : at' ≤ k
  · rw [if_pos h1]
    by_cases h2 : k < at' + p.length
    · rw [if_pos ⟨h1, h2⟩]
      exact xr_nat (h k) (gmul_lt (b := co p (k - at')) hc)
    · rw [if_neg (by omega), co_over (by omega), gmul_zero, xor0]
  · rw [if_neg h1, if_neg (by omega)]
theorem byt_congr {f g : Nat → Int} {n : Nat} (h : ∀ k, k < n → f k = g k) : Byt.of f n = Byt.of g n := by
  unfold Byt.of
  exact List.map_congr_left fun k hk => by rw [h k (List.mem_range.1 hk)]
theorem byt_len (f : Nat → Int) (n : Nat) : (Byt.of f n).length = n := by simp [Byt.of]
theorem byt_get {F : Nat → Nat} {n k : Nat} (h : ∀ k, F k < 256) (hk : k < n) : co (ofN F n) k = F k := by
  unfold co ofN Byt.of
  simp [List.getD, hk]
  exact h k

/-- The length without zeros at the end. -/
def tl (F : Nat → Nat) : Nat → Nat
  | 0 => 0
  | n + 1 => if F n = 0 then tl F n else n + 1
theorem tl_le (F : Nat → Nat) : ∀ n, tl F n ≤ n
  | 0 => Nat.le_refl 0
  | n + 1 => by
    simp only [tl]
    split
    · have := tl_le F n; omega
    · exact Nat.le_refl _
theorem tl_congr {F G : Nat → Nat} : ∀ n, (∀ k, k < n → F k = G k) → tl F n = tl G n
  | 0, _ => rfl
  | n + 1, h => by simp only [tl, h n (by omega), tl_congr n fun k hk => h k (by omega)]
theorem tl_more {G : Nat → Nat} (n : Nat) : ∀ m, n ≤ m → (∀ k, n ≤ k → k < m → G k = 0) → tl G m = tl G n
  | 0, h, _ => by obtain rfl : n = 0 := by omega
                  rfl
  | m + 1, h, hz => by
    by_cases e : n = m + 1
    · rw [e]
    · simp only [tl]
      rw [if_pos (hz m (by omega) (by omega)), tl_more n m (by omega) fun k h1 h2 => hz k h1 (by omega)]
theorem tl_ne {F : Nat → Nat} : ∀ {n : Nat}, 0 < tl F n → F (tl F n - 1) ≠ 0
  | 0, h => by simp only [tl] at h; omega
  | n + 1, h => by
    simp only [tl] at h ⊢
    split
    · rename_i hz; rw [if_pos hz] at h; exact tl_ne h
    · rename_i hz; exact hz
theorem tl_zero {F : Nat → Nat} : ∀ {n k : Nat}, tl F n ≤ k → k < n → F k = 0
  | 0, k, _, h => by omega
  | n + 1, k, h1, h2 => by
    simp only [tl] at h1
    split at h1
    · rename_i hz
      by_cases e : k = n
      · rw [e]; exact hz
      · exact tl_zero h1 (by omega)
    · omega
theorem tlenA_eq {l : List UInt8} : ∀ n, tlenA l n = tl (co l) n
  | 0 => rfl
  | n + 1 => by
    simp only [tlenA, tl]
    rw [tlenA_eq n]
    have : (l.getD n 0 = 0) ↔ co l n = 0 := by
      unfold co
      constructor
      · intro h; rw [h]; rfl
      · intro h; exact UInt8.toNat_inj.1 h
    by_cases h : l.getD n 0 = 0
    · rw [if_pos h, if_pos (this.1 h)]
    · rw [if_neg h, if_neg (fun h' => h (this.2 h'))]
theorem list_ext {l m : List UInt8} (h1 : l.length = m.length) (h2 : ∀ k, k < l.length → co l k = co m k) : l = m := by
  apply List.ext_getElem h1
  intro k h3 h4
  have := h2 k h3
  unfold co at this
  simp [List.getD, h3, h4] at this
  exact UInt8.toNat_inj.1 this
theorem ofN_len (F : Nat → Nat) (n : Nat) : (ofN F n).length = n := byt_len _ n
theorem co_take {l : List UInt8} {n k : Nat} (h : k < n) : co (l.take n) k = co l k := by
  unfold co
  rw [getD_take l h]
theorem trim_eq (l : List UInt8) : trimL l = ofN (co l) (tl (co l) l.length) := by
  apply list_ext
  · rw [trimL_len, ofN_len, tlen, tlenA_eq]
  · intro k hk
    rw [trimL_len, tlen, tlenA_eq] at hk
    rw [byt_get (co_lt l) hk]
    unfold trimL
    rw [tlen, tlenA_eq]
    exact co_take hk
theorem ofN_congr {F G : Nat → Nat} {n : Nat} (h : ∀ k, k < n → F k = G k) : ofN F n = ofN G n := byt_congr fun k hk => by rw [h k hk]
theorem trim_ofN {F : Nat → Nat} (h : ∀ k, F k < 256) (n : Nat) : trimL (ofN F n) = ofN F (tl F n) := by
  rw [trim_eq, ofN_len, tl_congr n fun k hk => byt_get h hk]
  exact ofN_congr fun k hk => byt_get h (Nat.lt_of_lt_of_le hk (tl_le F n))
theorem trim_more {F G : Nat → Nat} (hF : ∀ k, F k < 256) (hG : ∀ k, G k < 256) {n m : Nat} (h1 : n ≤ m) (h2 : ∀ k, k < n → F k = G k) (h3 : ∀ k, n ≤ k → k < m → G k = 0) : trimL (ofN F n) = trimL (ofN G m) := by
  rw [trim_ofN hF, trim_ofN hG, tl_more n m h1 h3, tl_congr n h2]
  exact ofN_congr fun k hk => h2 k (Nat.lt_of_lt_of_le hk (tl_le G n))
theorem co_ofN {F : Nat → Nat} (h : ∀ k, F k < 256) {n : Nat} (h0 : ∀ k, n ≤ k → F k = 0) (k : Nat) : co (ofN F n) k = F k := by
  by_cases hk : k < n
  · exact byt_get h hk
  · rw [co_over (by rw [ofN_len]; omega), h0 k (by omega)]
theorem co_trim (l : List UInt8) (k : Nat) : co (trimL l) k = co l k := by
  rw [trim_eq]
  by_cases hk : k < tl (co l) l.length
  · exact byt_get (co_lt l) hk
  · rw [co_over (by rw [ofN_len]; omega)]
    by_cases h2 : k < l.length
    · exact (tl_zero (by omega) h2).symm
    · exact (co_over (by omega)).symm
theorem tlen_eq (l : List UInt8) : tlen l = tl (co l) l.length := tlenA_eq _

abbrev aRow : ArgL (RowD Int × Unit) := .cons (.row (.int .u8)) .nil
def strC := pcOf aRow (fun _ => []) (fun x => .str (trimL (Byt.of x.1.f x.1.n)))
theorem str_ok : PcOk Tryz.prog 142 strC := by
  refine pcOf_runS (fun _ => EU_ok) Tryz.func142 rfl (by kernel_rfl) (fun ⟨⟨b, o, n, c, z, f⟩, ()⟩ hw => ?_) (fun x => []) (fun _ => Nat.le_of_ble_eq_true rfl) (fun ⟨⟨b, o, n, c, z, f⟩, ()⟩ hp hw => ?_)
  · have h := hw _ (List.mem_cons_self ..)
    exact trim_le (by rw [byt_len]; exact Nat.le_trans h.2.1 h.2.2)
  refine vc_of (q :=
      n≤n∧(∀ (k1:Nat), k1 < n→true=true)∧(b=b∧o=o)∧∀ (s1:List UInt8), s1=Byt.of f n→∀ (s2:List UInt8), s2=trimL s1→s2=trimL (Byt.of f n)) (by kernel_rfl) ?_
  try simp only [eq_self, true_and, and_true, Nat.le_refl, implies_true, forall_const, Bool.false_eq_true, Bool.true_eq_false, reduceCtorEq, false_imp_iff, true_imp_iff, Int.toNat_zero, Int.toNat_natCast, Nat.zero_lt_one, Int.le_refl, allGet]
  exact fun s1 h1 s2 h2 => by rw [h2, h1]
def EV : Env := (EU.addE 141 spread).addP 142 strC
theorem EV_ok : EnvOk Tryz.prog EV := (EU_ok.addE spread_ok).addP str_ok
/-! ### sums -/
def EW : Env := EV
theorem EW_ok : EnvOk Tryz.prog EW := EV_ok
/-! ### values -/
def evA (p : List UInt8) (x : Nat) : Nat → Nat
  | 0 => 0
  | n + 1 => Nat.xor (evA p x n) (gmul (co p n) (gpow x n))
def evalF (p : List UInt8) (x : Nat) : Nat := evA p x p.length
def eval := pcOf aStrB (fun x => [isB x.2.1]) (fun x => .int .u8 (evalF x.1 x.2.1.toNat : Nat))
/-- What stands over the first n terms. -/
def evB (p : List UInt8) (x : Nat) : Nat → Nat → Nat
  | 0, n => 0
  | m + 1, n => Nat.xor (gmul (evB p x m (n + 1)) x) (co p n)
theorem evB_lt (p : List UInt8) (x : Nat) : ∀ m n, evB p x m n < 256
  | 0, n => by show 0 < 256; decide
  | m + 1, n => xor_lt (gmul_lt (evB_lt p x m (n + 1))) (co_lt p n)
/-- The terms from n on, m of them. -/
def evT (p : List UInt8) (x : Nat) : Nat → Nat → Nat
  | 0, n => 0
  | m + 1, n => Nat.xor (evT p x m n) (gmul (co p (n + m)) (gpow x m))
theorem evT_lt (p : List UInt8) (x : Nat) : ∀ m n, evT p x m n < 256
  | 0, n => by show 0 < 256; decide
  | m + 1, n => xor_lt (evT_lt p x m n) (gmul_lt (co_lt p _))
theorem xor_swap (a b c : Nat) : Nat.xor (Nat.xor a b) c = Nat.xor (Nat.xor a c) b := by
  show (a ^^^ b) ^^^ c = (a ^^^ c) ^^^ b
  ac_rfl
theorem evT_front (p : List UInt8) {x : Nat} (hx : x < 256) : ∀ m n, evT p x (m + 1) n = Nat.xor (gmul (evT p x m (n + 1)) x) (co p n)
  | 0, n => by
    show Nat.xor 0 (gmul (co p n) 1) = Nat.xor (gmul 0 x) (co p n)
    rw [gmul_one (co_lt p n), gzero_mul hx]
  | m + 1, n => by
    have e : n + 1 + m = n + (m + 1) := by omega
    show Nat.xor (evT p x (m + 1) n) (gmul (co p (n + (m + 1))) (gmul (gpow x m) x)) = Nat.xor (gmul (Nat.xor (evT p x m (n + 1)) (gmul (co p (n + 1 + m)) (gpow x m))) x) (co p n)
    rw [evT_front p hx m n, gmul_lin x (evT_lt p x m _) (gmul_lt (co_lt p _)), ← gmul_assoc x (co_lt p _) (gpow_lt x m), e]
    exact xor_swap _ _ _
theorem evB_eq (p : List UInt8) {x : Nat} (hx : x < 256) : ∀ m n, evB p x m n = evT p x m n
  | 0, n => rfl
  | m + 1, n => by
    rw [evT_front p hx m n, ← evB_eq p hx m (n + 1)]
    rfl
theorem evT_zero (p : List UInt8) (x : Nat) : ∀ m, evT p x m 0 = evA p x m
  | 0 => rfl
  | m + 1 => by
    show Nat.xor (evT p x m 0) (gmul (co p (0 + m)) (gpow x m)) = Nat.xor (evA p x m) (gmul (co p m) (gpow x m))
    rw [evT_zero p x m, Nat.zero_add]
theorem evB_zero {p : List UInt8} {x m : Nat} (hx : x < 256) : evB p x m 0 = evA p x m := by rw [evB_eq p hx, evT_zero]
theorem eval_ok : PcOk Tryz.prog 153 eval := by
  refine pcOf_run (fun _ => EW_ok) Tryz.func153 rfl (by kernel_rfl) (fun _ => trivial)
    (fun x => [.lp 3 Nat [5, 6] (fun n => [.int .u8 (evB x.1 x.2.1.toNat (x.1.length - n) n : Nat), .int .i64 ((n : Int) - 1)]) (fun n => n ≤ x.1.length) fun n => n]) (fun _ => Nat.le_of_ble_eq_true rfl) (fun ⟨p, x, ()⟩ hp hw => ?_)
  refine vc_of (q :=
      ∀ (v1:Int), v1=(↑(List.length p):Int)→∀ (v2:Int), v2=IntKind.i64.wrap (v1 - (1:Int))→(∃ (x1:Nat), (0:Int)=(↑(evB p (Int.toNat x) (List.length p - x1) x1):Int)∧v2=(↑x1:Int) - (1:Int)∧Nat.le x1 (List.length p))∧∀ (b1:Nat), b1≤List.length p→(decide ((↑b1:Int) - (1:Int)≥(0:Int))=true→((0:Int)≤(↑(evB p (Int.toNat x) (List.length p - b1) b1):Int)∧(↑(evB p (Int.toNat x) (List.length p - b1)
      b1):Int)≤(255:Int))∧((0:Int)≤x∧x≤(255:Int))∧∀ (v3:Int), v3=mulI (↑(evB p (Int.toNat x) (List.length p - b1) b1):Int) x→(0:Int)≤(↑b1:Int) - (1:Int)∧(↑b1:Int) - (1:Int) < (↑(List.length p):Int)∧∀ (v4:Int), v4=IntKind.u8.wrap (↑(BitVec.toNat (BitVec.ofInt (IntKind.u8.bits) v3 ^^^ BitVec.ofInt (IntKind.u8.bits) (↑(UInt8.toNat (List.getD p (Int.toNat ((↑b1:Int) - (1:Int))) 0)):Int))):Int)→∀ (v5:Int),
      v5=IntKind.i64.wrap ((↑b1:Int) - (1:Int) - (1:Int))→∃ (x2:Nat), v4=(↑(evB p (Int.toNat x) (List.length p - x2) x2):Int)∧v5=(↑x2:Int) - (1:Int)∧x2≤List.length p∧x2 < b1)∧(decide ((↑b1:Int) - (1:Int)≥(0:Int))=false→(↑(evB p (Int.toNat x) (List.length p - b1) b1):Int)=(↑(evalF p (Int.toNat x)):Int))) (by kernel_rfl) ?_
  try simp only [eq_self, true_and, and_true, Nat.le_refl, implies_true, forall_const, Bool.false_eq_true, Bool.true_eq_false, reduceCtorEq, false_imp_iff, true_imp_iff, Int.toNat_zero, Int.toNat_natCast, Nat.zero_lt_one, Int.le_refl, allGet]
  obtain ⟨⟨x0, x1⟩, _⟩ := hp
  dsimp only at x0 x1
  have hl : p.length ≤ 9223372036854775807 := hw (.str p) (List.mem_cons_self ..)
  intro v1 h1 v2 h2
  subst h1
  rw [w64_id (by omega) (by omega)] at h2
  refine ⟨⟨p.length, by rw [Nat.sub_self]; rfl, h2, Nat.le_refl _⟩, fun n hn => ⟨fun hc => ⟨⟨by omega, ?_⟩, ⟨x0, x1⟩, fun v3 h3 => ⟨by have := of_decide_eq_true hc; omega, by omega, fun v4 h4 v5 h5 => ⟨n - 1, ?_, ?_, by omega, ?_⟩⟩⟩, fun hc => ?_⟩⟩
  · have := evB_lt p x.toNat (p.length - n) n; omega
  · have := of_decide_eq_true hc
    obtain ⟨m, rfl⟩ : ∃ m, n = m + 1 := ⟨n - 1, by omega⟩
    have e : (((m + 1 : Nat) : Int) - 1).toNat = m := by omega
    rw [h4, h3, e]
    rw [show p.length - (m + 1 - 1) = (p.length - (m + 1)) + 1 by omega]
    show xr (((gmul (evB p x.toNat (p.length - (m + 1)) (m + 1)) x.toNat : Nat) : Int)) ((co p m : Nat) : Int) = ((Nat.xor (gmul (evB p x.toNat (p.length - (m + 1)) (m + 1)) x.toNat) (co p m) : Nat) : Int)
    exact xr_nat (gmul_lt (evB_lt _ _ _ _)) (co_lt p m)
  · have := of_decide_eq_true hc
    rw [h5, w64_id (by omega) (by omega)]; omega
  · have := of_decide_eq_true hc; omega
  · have := of_decide_eq_false hc
    obtain rfl : n = 0 := by omega
    rw [Nat.sub_zero, evB_zero (by omega), evalF]
/-! ### derivatives -/
end Galois
namespace Galois
open Go Go.Proofs Eng
set_option linter.unusedVariables false
set_option linter.unusedSimpArgs false
set_option maxHeartbeats 4000000
set_option maxRecDepth 100000

def EX : Env := ((EW.addP 153 eval))
theorem EX_ok : EnvOk Tryz.prog EX := (EW_ok.addP eval_ok)
def EY : Env := EX
theorem EY_ok : EnvOk Tryz.prog EY := EX_ok
def EZ : Env := (((EY.addE 139 div)).addE 162 pow)
theorem EZ_ok : EnvOk Tryz.prog EZ := (((EY_ok.addE div_ok)).addE pow_ok)
/-! ### products -/
def prodF (p q : List UInt8) : Nat → Nat → Nat
  | 0 => fun _ => 0
  | i + 1 => spr (prodF p q i) q i (co p i)
theorem prodF_lt (p q : List UInt8) : ∀ i k, prodF p q i k < 256
  | 0, k => by show 0 < 256; decide
  | i + 1, k => spr_lt (prodF_lt p q i) q i (co_lt p i) k
/-! ### the program's product -/
def prodB (p q : List UInt8) : Bool := decide (1026 ≤ tlen p + tlen q)
def prodL (p q : List UInt8) : List UInt8 := if prodB p q then [] else trimL (ofN (prodF p q (tlen p)) (tlen p + tlen q))
def product := ecC aStrS (fun x => [x.1.length ≤ 3000, x.2.1.length ≤ 3000]) (fun _ (_ : Unit) => True) (fun x _ => .tup [.str (prodL x.1 x.2.1), .int .i64 (if prodB x.1 x.2.1 then 3 else 0)]) (fun _ _ => []) 0
theorem product_ok : EcOk Tryz.prog 144 product := by
  refine ecC_run (fun _ => EZ_ok) Tryz.func144 rfl (by kernel_rfl) []
    (fun x => [.loop ⟨6, Nat × Nat, [6, 27], fun y => [.slice 0 y.2 0 [] 1 0 (tlen x.1 + tlen x.2.1) (tlen x.1 + tlen x.2.1) false, .int .i64 (y.1 : Nat)], [0], fun y => [⟨0, y.2, 0, 1, tlen x.1 + tlen x.2.1, fun k => .int .u8 (prodF x.1 x.2.1 y.1 k : Nat), true, false, tlen x.1 + tlen x.2.1, 5, false, none⟩], fun y => y.1 ≤ tlen x.1, fun y => tlen x.1 - y.1⟩])
    (fun _ => Nat.le_of_ble_eq_true rfl) (fun ⟨p, q, ()⟩ hp hw => ?_)
  refine vc_of (q :=
      ∀ (s1:List UInt8), s1=trimL p→∀ (s2:List UInt8), s2=trimL q→∀ (v1:Int), v1=(↑(List.length s1):Int)→∀ (v2:Int), v2=(↑(List.length s2):Int)→∀ (v3:Int), v3=IntKind.i64.wrap (v1+v2)→∀ (v4:Int), v4=IntKind.i64.wrap (v3 - (2:Int))→(decide (v4≥(1024:Int))=true→∃ (x1:Unit), ([]=prodL p q∧(3:Int)=if prodB p q=true then (3:Int) else (0:Int))∧True)∧(decide (v4≥(1024:Int))=false→∀ (v5:Int), v5=(↑(List.length
      s1):Int)→∀ (v6:Int), v6=(↑(List.length s2):Int)→∀ (v7:Int), v7=IntKind.i64.wrap (v5+v6)→0≤v7∧v7≤v7∧v7*(↑(1:Nat):Int)≤(140737488355328:Int)∧v7≤9223372036854775807∧∀ (b1:Nat) (v8:Int), v8=(↑(List.length s1):Int)→(∃ (x2:Nat × Nat), (b1=x2.2∧0=0∧0=0∧Int.toNat v7=tlen p+tlen q∧Int.toNat v7=tlen p+tlen q∧false=false)∧(0:Int)=(↑x2.1:Int)∧((b1=x2.2∧0=0∧false=false∧tlen p+tlen q≤Int.toNat v7∧tlen p+tlen
      q≤tlen p+tlen q∧tlen p+tlen q≤Int.toNat v7)∧∀ (i1:Nat), i1 < tlen p+tlen q→(0:Int)=(↑(prodF p q x2.1 i1):Int))∧Nat.le x2.1 (tlen p))∧∀ (x3:Nat × Nat), x3.1≤tlen p→(decide ((↑x3.1:Int) < v8)=true→(0:Int)≤(↑x3.1:Int)∧(↑x3.1:Int) < (↑(List.length s1):Int)∧(x3.2=x3.2∧0=0)∧(0=0∧∀ (k1:Nat), k1 < tlen p+tlen q→true=true)∧∀ (x'1:(Eng.OwnD Int × Unit) × List UInt8 × Int × Int × Unit), x'1=((Eng.OwnD.mk x3.2
      0 (tlen p+tlen q) (tlen p+tlen q) false (tlen p+tlen q) (tlen p+tlen q) false fun (k:Nat) ↦ (↑(prodF p q x3.1 k):Int), ()), s2, (↑x3.1:Int), (↑(UInt8.toNat (List.getD s1 (Int.toNat (↑x3.1:Int)) 0)):Int), ())→(0:Int)≤((Prod.snd x'1).2.1)∧((Prod.snd x'1).2.1)+(↑(List.length ((Prod.snd x'1).1)):Int)≤(↑(Eng.OwnD.n ((Prod.fst x'1).1)):Int)∧Eng.OwnD.n ((Prod.fst x'1).1)≤Eng.OwnD.m ((Prod.fst
      x'1).1)∧Eng.OwnD.m ((Prod.fst x'1).1)≤Eng.OwnD.cap ((Prod.fst x'1).1)∧Eng.OwnD.n ((Prod.fst x'1).1)≤1000000∧((0:Int)≤(((Prod.snd x'1).2.2)).1∧(((Prod.snd x'1).2.2)).1≤(255:Int))∧∀ (y1:Unit), True→∀ (v9:Int), v9=IntKind.i64.wrap ((↑x3.1:Int)+(1:Int))→∃ (x4:Nat × Nat), (x3.2=x4.2∧0=0∧0=0∧tlen p+tlen q=tlen p+tlen q∧tlen p+tlen q=tlen p+tlen q∧false=false)∧v9=(↑x4.1:Int)∧((Eng.OwnD.b ((Prod.fst
      x'1).1)=x4.2∧Eng.OwnD.off ((Prod.fst x'1).1)=0∧Eng.OwnD.ez ((Prod.fst x'1).1)=false∧tlen p+tlen q≤Eng.OwnD.m ((Prod.fst x'1).1)∧tlen p+tlen q≤tlen p+tlen q∧tlen p+tlen q≤Eng.OwnD.cap ((Prod.fst x'1).1))∧∀ (i2:Nat), i2 < tlen p+tlen q→sprF (Eng.OwnD.f ((Prod.fst x'1).1)) ((Prod.snd x'1).1) (Int.toNat (((Prod.snd x'1).2.1))) ((((Prod.snd x'1).2.2)).1) (List.length ((Prod.snd x'1).1)) i2=(↑(prodF p q
      x4.1 i2):Int))∧x4.1≤tlen p∧tlen p - x4.1 < tlen p - x3.1)∧(decide ((↑x3.1:Int) < v8)=false→tlen p+tlen q≤tlen p+tlen q∧(∀ (k2:Nat), k2 < tlen p+tlen q→true=true)∧(x3.2=x3.2∧0=0)∧∀ (s3:List UInt8), s3=trimL (Byt.of (fun (k:Nat) ↦ (↑(prodF p q x3.1 k):Int)) (tlen p+tlen q))→∃ (x4:Unit), (s3=prodL p q∧(0:Int)=if prodB p q=true then (3:Int) else (0:Int))∧True))) (by kernel_rfl) ?_
  try simp only [eq_self, true_and, and_true, Nat.le_refl, implies_true, forall_const, Bool.false_eq_true, Bool.true_eq_false, reduceCtorEq, false_imp_iff, true_imp_iff, Int.toNat_zero, Int.toNat_natCast, Nat.zero_lt_one, Int.le_refl, allGet]
  obtain ⟨h1, h2, _⟩ := hp
  dsimp only at h1 h2
  have t1 := tlen_le p
  have t2 := tlen_le q
  intro s1 hs1 s2 hs2 v1 hv1 v2 hv2 v3 hv3 v4 hv4
  have l1 : s1.length = tlen p := by rw [hs1, trimL_len]
  have l2 : s2.length = tlen q := by rw [hs2, trimL_len]
  have c1 : ∀ k, co s1 k = co p k := fun k => by rw [hs1, co_trim]
  have c2 : ∀ k, co s2 k = co q k := fun k => by rw [hs2, co_trim]
  rw [l1] at hv1 ⊢
  rw [l2] at hv2 ⊢
  subst hv1 hv2
  rw [w64_id (by omega) (by omega)] at hv3
  subst hv3
  rw [w64_id (by omega) (by omega)] at hv4
  refine ⟨fun hc => ?_, fun hc v5 h5 v6 h6 v7 h7 => ?_⟩
  · have hc := of_decide_eq_true hc
    have hb : prodB p q = true := decide_eq_true (by omega)
    refine ⟨(), ?_, ?_⟩
    · unfold prodL; rw [if_pos hb]
    · rw [if_pos hb]
  · have hc := of_decide_eq_false hc
    have hb : ¬ prodB p q = true := fun h => by have := of_decide_eq_true h; omega
    subst h5 h6
    rw [w64_id (by omega) (by omega)] at h7
    have e7 : v7.toNat = tlen p + tlen q := by omega
    refine ⟨by omega, by omega, by omega, fun b1 v8 h8 => ⟨⟨(0, b1), ⟨rfl, e7, e7⟩, rfl, ⟨⟨rfl, by omega, by omega⟩, fun _ _ => rfl⟩, Nat.zero_le _⟩, ?_⟩⟩
    rintro ⟨i, b⟩ hi
    dsimp only at hi ⊢
    subst h8
    refine ⟨fun hc2 => ⟨by omega, by have := of_decide_eq_true hc2; omega, fun x hx => ?_⟩, fun hc2 s3 hs3 => ⟨(), ?_, by rw [if_neg hb]⟩⟩
    · have hc2 := of_decide_eq_true hc2
      have hci : ((s1.getD i 0).toNat : Int) = (co p i : Nat) := by rw [← c1]; rfl
      have hlt := co_lt p i
      rw [hci] at hx
      subst hx
      refine ⟨by show 0 ≤ (i : Int); omega, by show (i : Int) + (s2.length : Nat) ≤ ((tlen p + tlen q : Nat) : Int); omega, Nat.le_refl _, Nat.le_refl _, by show tlen p + tlen q ≤ 1000000; omega, ⟨by show 0 ≤ ((co p i : Nat) : Int); omega, by show ((co p i : Nat) : Int) ≤ 255; omega⟩, fun v9 h9 => ⟨(i + 1, b), rfl, h9.trans (l_succ (by omega)), ⟨⟨rfl, rfl, rfl, Nat.le_refl _, Nat.le_refl _⟩, fun k _ => ?_⟩, by show i + 1 ≤ _; omega, by show tlen p - (i + 1) < _; omega⟩⟩
      show sprF (fun k => ((prodF p q i k : Nat) : Int)) s2 (Int.toNat (i : Int)) ((co p i : Nat) : Int) s2.length k = ((prodF p q (i + 1) k : Nat) : Int)
      rw [Int.toNat_natCast, sprF_nat (prodF_lt p q i) s2 i hlt]
      show ((spr (prodF p q i) s2 i (co p i) k : Nat) : Int) = ((spr (prodF p q i) q i (co p i) k : Nat) : Int)
      unfold spr
      rw [c2]
    · have hc2 := of_decide_eq_false hc2
      obtain rfl : i = tlen p := by omega
      rw [hs3]
      unfold prodL
      rw [if_neg hb]
      rfl
theorem tl_idem (F : Nat → Nat) (n : Nat) : tl F (tl F n) = tl F n :=
  (tl_more (tl F n) n (tl_le F n) fun k h1 h2 => tl_zero h1 h2).symm
theorem tlen_trim (l : List UInt8) : tlen (trimL l) = tlen l := by
  rw [tlen_eq, trimL_len, tl_congr (G := co l) _ fun k _ => co_trim l k, tlen_eq, tl_idem]
end Galois
