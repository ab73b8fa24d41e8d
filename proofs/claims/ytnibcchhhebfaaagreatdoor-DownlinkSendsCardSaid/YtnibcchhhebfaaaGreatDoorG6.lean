/-
  OWN WORK. Galois: products, quotients.
-/
import Derived.Test.YtnibcchhhebfaaaGreatDoorG5
namespace Galois
open Go Go.Proofs Eng
set_option linter.unusedVariables false
set_option linter.unusedSimpArgs false
set_option maxHeartbeats 4000000
set_option maxRecDepth 100000

def EX : Env := ((EW.addP 153 eval).addP 134 eval)
theorem EX_ok : EnvOk Tryz.prog EX := (EW_ok.addP eval_ok).addP evalR_ok
def EY : Env := EX
theorem EY_ok : EnvOk Tryz.prog EY := EX_ok
def EZ : Env := (((EY.addE 139 div).addE 108 div).addE 162 pow).addE 137 pow
theorem EZ_ok : EnvOk Tryz.prog EZ := (((EY_ok.addE div_ok).addE divR_ok).addE pow_ok).addE powR_ok
/-! ### products -/
def prodF (p q : List UInt8) : Nat → Nat → Nat
  | 0 => fun _ => 0
  | i + 1 => spr (prodF p q i) q i (co p i)
theorem prodF_lt (p q : List UInt8) : ∀ i k, prodF p q i k < 256
  | 0, k => by show 0 < 256; decide
  | i + 1, k => spr_lt (prodF_lt p q i) q i (co_lt p i) k
def timesL (p q : List UInt8) : List UInt8 := trimL (ofN (prodF p q p.length) (p.length + q.length))
def times := ecC aStrS (fun x => [x.1.length ≤ 3000, x.2.1.length ≤ 3000]) (fun _ (_ : Unit) => True) (fun x _ => .str (timesL x.1 x.2.1)) (fun _ _ => []) 0
/-- A row of the product, half written. -/
def sprP (F : Nat → Nat) (p : List UInt8) (at' c n : Nat) : Nat → Nat := fun k => if at' ≤ k ∧ k < at' + n then Nat.xor (F k) (gmul c (co p (k - at'))) else F k
theorem sprP_lt {F : Nat → Nat} (h : ∀ k, F k < 256) (p : List UInt8) (at' : Nat) {c : Nat} (hc : c < 256) (n k : Nat) : sprP F p at' c n k < 256 := by
  unfold sprP
  split
  · exact xor_lt (h k) (gmul_lt hc)
  · exact h k
theorem sprP_zero (F : Nat → Nat) (p : List UInt8) (at' c : Nat) : sprP F p at' c 0 = F := by
  funext k
  unfold sprP
  rw [if_neg (by omega)]
theorem sprP_all (F : Nat → Nat) (p : List UInt8) (at' c : Nat) {n : Nat} (h : ∀ k, n ≤ k → co p k = 0) : sprP F p at' c n = spr F p at' c := by
  funext k
  unfold sprP spr
  by_cases h1 : at' ≤ k
  · rw [if_pos h1]
    by_cases h2 : k < at' + n
    · rw [if_pos ⟨h1, h2⟩]
    · rw [if_neg (by omega), h _ (by omega), gmul_zero, xor0]
  · rw [if_neg h1, if_neg (by omega)]
theorem sprP_step (F : Nat → Nat) (p : List UInt8) (at' c n k : Nat) : (if k = at' + n then Nat.xor (sprP F p at' c n (at' + n)) (gmul c (co p n)) else sprP F p at' c n k) = sprP F p at' c (n + 1) k := by
  unfold sprP
  by_cases e : k = at' + n
  · subst e
    rw [if_pos rfl, if_neg (by omega), if_pos (by omega), show at' + n - at' = n by omega]
  · rw [if_neg e]
    by_cases h : at' ≤ k ∧ k < at' + n
    · rw [if_pos h, if_pos (by omega)]
    · rw [if_neg h, if_neg (by omega)]
theorem times_ok : EcOk Tryz.prog 136 times := by
  refine ecC_run (fun _ => EZ_ok) Tryz.func136 rfl (by kernel_rfl) []
    (fun x => [.draw 8 (.take 0 (.take 1 (.take 2 (.take 3 (.take 4 (.take 5 (.take 6 (.take 7 (.take 8 (.take 10 (.take 11 (.take 12 (.take 13 (.take 14 (.take 15 (.take 16 (.br 9 (.take 17 (.take 18 (.br 19 .fin .stop))) .stop))))))))))))))))) [5],
      .loop ⟨3, Nat × Nat, [5, 6], fun y => [.slice 0 y.2 0 [] 1 0 (x.1.length + x.2.1.length) (x.1.length + x.2.1.length) false, .int .i64 (y.1 : Nat)], [0], fun y => [⟨0, y.2, 0, 1, x.1.length + x.2.1.length, fun k => .int .u8 (prodF x.1 x.2.1 y.1 k : Nat), true, false, x.1.length + x.2.1.length, 5, false, none⟩], fun y => y.1 ≤ x.1.length, fun y => x.1.length - y.1⟩,
      .nest ⟨6, Nat × Nat × Nat, [5, 6, 7], fun y => [.slice 0 y.2.2 0 [] 1 0 (x.1.length + x.2.1.length) (x.1.length + x.2.1.length) false, .int .i64 (y.1 : Nat), .int .i64 (y.2.1 : Nat)], [0], fun y => [⟨0, y.2.2, 0, 1, x.1.length + x.2.1.length, fun k => .int .u8 (sprP (prodF x.1 x.2.1 y.1) x.2.1 y.1 (co x.1 y.1) y.2.1 k : Nat), true, false, x.1.length + x.2.1.length, 5, false, none⟩], fun y => y.1 < x.1.length ∧ y.2.1 ≤ x.2.1.length, fun y => x.2.1.length - y.2.1⟩])
    (fun _ => Nat.le_of_ble_eq_true rfl) (fun ⟨p, q, ()⟩ hp hw => ?_)
  refine vc_of (q :=
      ∀ (v1:Int), v1=(↑(List.length p):Int)→∀ (v2:Int), v2=(↑(List.length q):Int)→∀ (v3:Int), v3=IntKind.i64.wrap (v1+v2)→0≤v3∧v3≤v3∧v3*(↑(1:Nat):Int)≤(140737488355328:Int)∧v3≤9223372036854775807∧∀ (b1:Nat), (∃ (x1:Nat × Nat), (b1=x1.2∧0=0∧0=0∧Int.toNat v3=List.length p+List.length q∧Int.toNat v3=List.length p+List.length q∧false=false)∧(0:Int)=(↑x1.1:Int)∧((b1=x1.2∧0=0∧false=false∧List.length
      p+List.length q≤Int.toNat v3∧List.length p+List.length q≤List.length p+List.length q∧List.length p+List.length q≤Int.toNat v3)∧∀ (i1:Nat), i1 < List.length p+List.length q→(0:Int)=(↑(prodF p q x1.1 i1):Int))∧Nat.le x1.1 (List.length p))∧∀ (x2:Nat × Nat), x2.1≤List.length p→∀ (v4:Int), v4=(↑(List.length p):Int)→(decide ((↑x2.1:Int) < v4)=true→(∃ (x3:Nat × Nat × Nat), (x2.2=x3.2.2∧0=0∧0=0∧List.length
      p+List.length q=List.length p+List.length q∧List.length p+List.length q=List.length p+List.length q∧false=false)∧(↑x2.1:Int)=(↑x3.1:Int)∧(0:Int)=(↑x3.2.1:Int)∧((x2.2=x3.2.2∧0=0∧false=false∧List.length p+List.length q≤List.length p+List.length q∧List.length p+List.length q≤List.length p+List.length q∧List.length p+List.length q≤List.length p+List.length q)∧∀ (i2:Nat), i2 < List.length p+List.length
      q→(↑(prodF p q x2.1 i2):Int)=(↑(sprP (prodF p q x3.1) q x3.1 (co p x3.1) x3.2.1 i2):Int))∧x3.1 < List.length p∧x3.2.1≤List.length q)∧∀ (x4:Nat × Nat × Nat), x4.1 < List.length p∧x4.2.1≤List.length q→True→(↑x2.1:Int)=(↑x4.1:Int)→∀ (v5:Int), v5=(↑(List.length q):Int)→(decide ((↑x4.2.1:Int) < v5)=true→∀ (v6:Int), v6=IntKind.i64.wrap ((↑x4.1:Int)+(↑x4.2.1:Int))→∀ (v7:Int), v7=IntKind.i64.wrap
      ((↑x4.1:Int)+(↑x4.2.1:Int))→0≤v7∧v7 < (↑(List.length p+List.length q):Int)∧(0:Int)≤(↑x4.1:Int)∧(↑x4.1:Int) < (↑(List.length p):Int)∧(0:Int)≤(↑x4.2.1:Int)∧(↑x4.2.1:Int) < (↑(List.length q):Int)∧((0:Int)≤(↑(UInt8.toNat (List.getD p (Int.toNat (↑x4.1:Int)) 0)):Int)∧(↑(UInt8.toNat (List.getD p (Int.toNat (↑x4.1:Int)) 0)):Int)≤(255:Int))∧((0:Int)≤(↑(UInt8.toNat (List.getD q (Int.toNat (↑x4.2.1:Int))
      0)):Int)∧(↑(UInt8.toNat (List.getD q (Int.toNat (↑x4.2.1:Int)) 0)):Int)≤(255:Int))∧∀ (v8:Int), v8=mulI (↑(UInt8.toNat (List.getD p (Int.toNat (↑x4.1:Int)) 0)):Int) (↑(UInt8.toNat (List.getD q (Int.toNat (↑x4.2.1:Int)) 0)):Int)→((x4.2.2=x4.2.2∧0=0)∧Int.toNat v7 < List.length p+List.length q∧∀ (v9:Int), v9=IntKind.u8.wrap (↑(BitVec.toNat (BitVec.ofInt (IntKind.u8.bits) (↑(sprP (prodF p q x4.1) q x4.1
      (co p x4.1) x4.2.1 (Int.toNat v7)):Int) ^^^ BitVec.ofInt (IntKind.u8.bits) v8)):Int)→0≤v6∧v6 < (↑(List.length p+List.length q):Int)∧((x4.2.2=x4.2.2∧0=0)∧Int.toNat v6 < List.length p+List.length q∧∀ (v10:Int), v10=IntKind.i64.wrap ((↑x4.2.1:Int)+(1:Int))→∃ (x5:Nat × Nat × Nat), (x4.2.2=x5.2.2∧0=0∧0=0∧List.length p+List.length q=List.length p+List.length q∧List.length p+List.length q=List.length
      p+List.length q∧false=false)∧(↑x4.1:Int)=(↑x5.1:Int)∧v10=(↑x5.2.1:Int)∧((x4.2.2=x5.2.2∧0=0∧false=false∧List.length p+List.length q≤List.length p+List.length q∧List.length p+List.length q≤List.length p+List.length q∧List.length p+List.length q≤List.length p+List.length q)∧∀ (i3:Nat), i3 < List.length p+List.length q→(if i3=Int.toNat v6 then v9 else (↑(sprP (prodF p q x4.1) q x4.1 (co p x4.1) x4.2.1
      i3):Int))=(↑(sprP (prodF p q x5.1) q x5.1 (co p x5.1) x5.2.1 i3):Int))∧(x5.1 < List.length p∧x5.2.1≤List.length q)∧List.length q - x5.2.1 < List.length q - x4.2.1)∧True)∧True)∧(decide ((↑x4.2.1:Int) < v5)=false→∀ (v7:Int), v7=IntKind.i64.wrap ((↑x4.1:Int)+(1:Int))→∃ (x5:Nat × Nat), (x4.2.2=x5.2∧0=0∧0=0∧List.length p+List.length q=List.length p+List.length q∧List.length p+List.length q=List.length
      p+List.length q∧false=false)∧v7=(↑x5.1:Int)∧((x4.2.2=x5.2∧0=0∧false=false∧List.length p+List.length q≤List.length p+List.length q∧List.length p+List.length q≤List.length p+List.length q∧List.length p+List.length q≤List.length p+List.length q)∧∀ (i3:Nat), i3 < List.length p+List.length q→(↑(sprP (prodF p q x4.1) q x4.1 (co p x4.1) x4.2.1 i3):Int)=(↑(prodF p q x5.1 i3):Int))∧x5.1≤List.length
      p∧List.length p - x5.1 < List.length p - x2.1))∧(decide ((↑x2.1:Int) < v4)=false→List.length p+List.length q≤List.length p+List.length q∧(∀ (k1:Nat), k1 < List.length p+List.length q→true=true)∧(x2.2=x2.2∧0=0)∧∀ (s1:List UInt8), s1=Byt.of (fun (k:Nat) ↦ (↑(prodF p q x2.1 k):Int)) (List.length p+List.length q)→∀ (s2:List UInt8), s2=trimL s1→∃ (x5:Unit), s2=timesL p q∧True)) (by kernel_rfl) ?_
  try simp only [eq_self, true_and, and_true, Nat.le_refl, implies_true, forall_const, Bool.false_eq_true, Bool.true_eq_false, reduceCtorEq, false_imp_iff, true_imp_iff, Int.toNat_zero, Int.toNat_natCast, Nat.zero_lt_one, Int.le_refl, allGet]
  obtain ⟨h1, h2, _⟩ := hp
  dsimp only at h1 h2
  intro v1 hv1 v2 hv2 v3 hv3
  subst hv1 hv2
  rw [w64_id (by omega) (by omega)] at hv3
  have e3 : v3.toNat = p.length + q.length := by omega
  refine ⟨by omega, by omega, by omega, fun b1 => ⟨⟨(0, b1), ⟨rfl, e3, e3⟩, rfl, ⟨⟨rfl, by omega, by omega⟩, fun _ _ => rfl⟩, Nat.zero_le _⟩, ?_⟩⟩
  rintro ⟨i, b⟩ hi v4 hv4
  dsimp only at hi ⊢
  subst hv4
  refine ⟨fun hc => ⟨⟨(i, 0, b), rfl, rfl, rfl, ⟨rfl, fun k _ => ?_⟩, by have := of_decide_eq_true hc; show i < _; omega, Nat.zero_le _⟩, ?_⟩, fun hc s1 hs1 s2 hs2 => ⟨(), ?_⟩⟩
  · rw [sprP_zero]
  · rintro ⟨i', j, b'⟩ ⟨hi', hj⟩ hii v5 hv5
    dsimp only at hi' hj hii ⊢
    obtain rfl : i = i' := by omega
    subst hv5
    have hcp := co_lt p i
    have hcq := co_lt q j
    refine ⟨fun hc2 v6 h6 v7 h7 => ?_, fun hc2 v7 h7 => ⟨(i + 1, b'), rfl, h7.trans (l_succ (by omega)), ⟨rfl, fun k _ => ?_⟩, by show i + 1 ≤ _; omega, by show p.length - (i + 1) < _; omega⟩⟩
    · have hc2 := of_decide_eq_true hc2
      rw [w64_id (by omega) (by omega)] at h6 h7
      have e6 : v6.toNat = i + j := by omega
      have e7 : v7.toNat = i + j := by omega
      refine ⟨by omega, by omega, by omega, by omega, by omega, by omega, ⟨by omega, by show ((co p i : Nat) : Int) ≤ 255; omega⟩, ⟨by omega, by show ((co q j : Nat) : Int) ≤ 255; omega⟩, fun v8 h8 => ⟨by omega, fun v9 h9 => ⟨by omega, by omega, by omega, fun v10 h10 => ⟨(i, j + 1, b'), rfl, rfl, h10.trans (l_succ (by omega)), ⟨rfl, fun k _ => ?_⟩, ⟨hi', by show j + 1 ≤ _; omega⟩, by show q.length - (j + 1) < _; omega⟩⟩⟩⟩
      dsimp only
      rw [e6, h9, h8, e7, ← sprP_step (prodF p q i) q i (co p i) j k]
      by_cases e : k = i + j
      · subst e
        rw [if_pos rfl, if_pos rfl]
        exact xr_nat (sprP_lt (prodF_lt p q i) q i hcp j _) (gmul_lt (b := co q j) hcp)
      · rw [if_neg e, if_neg e]
    · have hc2 := of_decide_eq_false hc2
      obtain rfl : j = q.length := by omega
      dsimp only
      rw [sprP_all _ _ _ _ fun k hk => co_over hk]
      rfl
  · have hc := of_decide_eq_false hc
    obtain rfl : i = p.length := by omega
    rw [hs2, hs1]
    rfl
/-! ### the program's product -/
def prodB (p q : List UInt8) : Bool := decide (1026 ≤ tlen p + tlen q)
def prodL (p q : List UInt8) : List UInt8 := if prodB p q then [] else trimL (ofN (prodF p q (tlen p)) (tlen p + tlen q))
def product := ecC aStrS (fun x => [x.1.length ≤ 3000, x.2.1.length ≤ 3000]) (fun _ (_ : Unit) => True) (fun x _ => .tup [.str (prodL x.1 x.2.1), .int .i64 (if prodB x.1 x.2.1 then 3 else 0)]) (fun _ _ => []) 0
theorem product_ok : EcOk Tryz.prog 144 product := by
  refine ecC_run (fun _ => EZ_ok) Tryz.func144 rfl (by kernel_rfl) []
    (fun x => [.loop ⟨6, Nat × Nat, [6, 27], fun y => [.slice 0 y.2 0 [] 1 0 (tlen x.1 + tlen x.2.1) (tlen x.1 + tlen x.2.1) false, .int .i64 (y.1 : Nat)], [0], fun y => [⟨0, y.2, 0, 1, tlen x.1 + tlen x.2.1, fun k => .int .u8 (prodF x.1 x.2.1 y.1 k : Nat), true, false, tlen x.1 + tlen x.2.1, 5, false, none⟩], fun y => y.1 ≤ tlen x.1, fun y => tlen x.1 - y.1⟩])
    (fun _ => Nat.le_of_ble_eq_true rfl) (fun ⟨p, q, ()⟩ hp hw => ?_)
  refine vc_of (q :=
      ∀ (s1:List UInt8), s1=trimL p→∀ (s2:List UInt8), s2=trimL q→∀ (v1:Int), v1=(↑(List.length s1):Int)→∀ (v2:Int), v2=(↑(List.length s2):Int)→∀ (v3:Int), v3=IntKind.i64.wrap (v1+v2)→∀ (v4:Int), v4=IntKind.i64.wrap (v3 - (2:Int))→(decide (v4≥(1024:Int))=true→∃ (x1:Unit), ([]=prodL p q∧(3:Int)=if prodB p q=true then (3:Int) else (0:Int))∧True)∧(decide (v4≥(1024:Int))=false→∀ (v5:Int), v5=(↑(List.length
      s1):Int)→∀ (v6:Int), v6=(↑(List.length s2):Int)→∀ (v7:Int), v7=IntKind.i64.wrap (v5+v6)→0≤v7∧v7≤v7∧v7*(↑(1:Nat):Int)≤(140737488355328:Int)∧v7≤9223372036854775807∧∀ (b1:Nat) (v8:Int), v8=(↑(List.length s1):Int)→(∃ (x2:Nat × Nat), (b1=x2.2∧0=0∧0=0∧Int.toNat v7=tlen p+tlen q∧Int.toNat v7=tlen p+tlen q∧false=false)∧(0:Int)=(↑x2.1:Int)∧((b1=x2.2∧0=0∧false=false∧tlen p+tlen q≤Int.toNat v7∧tlen p+tlen
      q≤tlen p+tlen q∧tlen p+tlen q≤Int.toNat v7)∧∀ (i1:Nat), i1 < tlen p+tlen q→(0:Int)=(↑(prodF p q x2.1 i1):Int))∧Nat.le x2.1 (tlen p))∧∀ (x3:Nat × Nat), x3.1≤tlen p→(decide ((↑x3.1:Int) < v8)=true→(0:Int)≤(↑x3.1:Int)∧(↑x3.1:Int) < (↑(List.length s1):Int)∧(x3.2=x3.2∧0=0)∧(0=0∧∀ (k1:Nat), k1 < tlen p+tlen q→true=true)∧∀ (x'1:(Eng.OwnD Int × Unit) × List UInt8 × Int × Int × Unit), x'1=((Eng.OwnD.mk x3.2
      0 (tlen p+tlen q) (tlen p+tlen q) false (tlen p+tlen q) (tlen p+tlen q) false fun (k:Nat) ↦ (↑(prodF p q x3.1 k):Int), ()), s2, (↑x3.1:Int), (↑(UInt8.toNat (List.getD s1 (Int.toNat (↑x3.1:Int)) 0)):Int), ())→(0:Int)≤((Prod.snd x'1).2.1)∧((Prod.snd x'1).2.1)+(↑(List.length ((Prod.snd x'1).1)):Int)≤(↑(Eng.OwnD.n ((Prod.fst x'1).1)):Int)∧Eng.OwnD.n ((Prod.fst x'1).1)≤Eng.OwnD.m ((Prod.fst
      x'1).1)∧Eng.OwnD.m ((Prod.fst x'1).1)≤Eng.OwnD.cap ((Prod.fst x'1).1)∧Eng.OwnD.n ((Prod.fst x'1).1)≤1000000∧((0:Int)≤(((Prod.snd x'1).2.2)).1∧(((Prod.snd x'1).2.2)).1≤(255:Int))∧∀ (y1:Unit), True→∀ (v9:Int), v9=IntKind.i64.wrap ((↑x3.1:Int)+(1:Int))→∃ (x4:Nat × Nat), (x3.2=x4.2∧0=0∧0=0∧tlen p+tlen q=tlen p+tlen q∧tlen p+tlen q=tlen p+tlen q∧false=false)∧v9=(↑x4.1:Int)∧((Eng.OwnD.b ((Prod.fst
      x'1).1)=x4.2∧Eng.OwnD.off ((Prod.fst x'1).1)=0∧Eng.OwnD.ez ((Prod.fst x'1).1)=false∧tlen p+tlen q≤Eng.OwnD.m ((Prod.fst x'1).1)∧tlen p+tlen q≤tlen p+tlen q∧tlen p+tlen q≤Eng.OwnD.cap ((Prod.fst x'1).1))∧∀ (i2:Nat), i2 < tlen p+tlen q→sprF (Eng.OwnD.f ((Prod.fst x'1).1)) ((Prod.snd x'1).1) (Int.toNat (((Prod.snd x'1).2.1))) ((((Prod.snd x'1).2.2)).1) (List.length ((Prod.snd x'1).1)) i2=(↑(prodF p q
      x4.1 i2):Int))∧x4.1≤tlen p∧tlen p - x4.1 < tlen p - x3.1)∧(decide ((↑x3.1:Int) < v8)=false→tlen p+tlen q≤tlen p+tlen q∧(∀ (k2:Nat), k2 < tlen p+tlen q→true=true)∧(x3.2=x3.2∧0=0)∧∀ (s3:List UInt8), s3=trimL (Byt.of (fun (k:Nat) ↦ (↑(prodF p q x3.1 k):Int)) (tlen p+tlen q))→∃ (x4:Unit), (s3=prodL p q∧(0:Int)=if prodB p q=true then (3:Int) else (0:Int))∧True))) (by kernel_rfl) ?_
  try simp only [eq_self, true_and, and_true, Nat.le_refl, implies_true, forall_const, Bool.false_eq_true, Bool.true_eq_false, reduceCtorEq, false_imp_iff, true_imp_iff, Int.toNat_zero, Int.toNat_natCast, Nat.zero_lt_one, Int.le_refl, allGet]
  obtain ⟨h1, h2, _⟩ := hp
  dsimp only at h1 h2
  have t1 := tlen_le p
  have t2 := tlen_le q
  intro s1 hs1 s2 hs2 v1 hv1 v2 hv2 v3 hv3 v4 hv4
  have l1 : s1.length = tlen p := by rw [hs1, trimL_len]
  have l2 : s2.length = tlen q := by rw [hs2, trimL_len]
  have c1 : ∀ k, co s1 k = co p k := fun k => by rw [hs1, co_trim]
  have c2 : ∀ k, co s2 k = co q k := fun k => by rw [hs2, co_trim]
  rw [l1] at hv1 ⊢
  rw [l2] at hv2 ⊢
  subst hv1 hv2
  rw [w64_id (by omega) (by omega)] at hv3
  subst hv3
  rw [w64_id (by omega) (by omega)] at hv4
  refine ⟨fun hc => ?_, fun hc v5 h5 v6 h6 v7 h7 => ?_⟩
  · have hc := of_decide_eq_true hc
    have hb : prodB p q = true := decide_eq_true (by omega)
    refine ⟨(), ?_, ?_⟩
    · unfold prodL; rw [if_pos hb]
    · rw [if_pos hb]
  · have hc := of_decide_eq_false hc
    have hb : ¬ prodB p q = true := fun h => by have := of_decide_eq_true h; omega
    subst h5 h6
    rw [w64_id (by omega) (by omega)] at h7
    have e7 : v7.toNat = tlen p + tlen q := by omega
    refine ⟨by omega, by omega, by omega, fun b1 v8 h8 => ⟨⟨(0, b1), ⟨rfl, e7, e7⟩, rfl, ⟨⟨rfl, by omega, by omega⟩, fun _ _ => rfl⟩, Nat.zero_le _⟩, ?_⟩⟩
    rintro ⟨i, b⟩ hi
    dsimp only at hi ⊢
    subst h8
    refine ⟨fun hc2 => ⟨by omega, by have := of_decide_eq_true hc2; omega, fun x hx => ?_⟩, fun hc2 s3 hs3 => ⟨(), ?_, by rw [if_neg hb]⟩⟩
    · have hc2 := of_decide_eq_true hc2
      have hci : ((s1.getD i 0).toNat : Int) = (co p i : Nat) := by rw [← c1]; rfl
      have hlt := co_lt p i
      rw [hci] at hx
      subst hx
      refine ⟨by show 0 ≤ (i : Int); omega, by show (i : Int) + (s2.length : Nat) ≤ ((tlen p + tlen q : Nat) : Int); omega, Nat.le_refl _, Nat.le_refl _, by show tlen p + tlen q ≤ 1000000; omega, ⟨by show 0 ≤ ((co p i : Nat) : Int); omega, by show ((co p i : Nat) : Int) ≤ 255; omega⟩, fun v9 h9 => ⟨(i + 1, b), rfl, h9.trans (l_succ (by omega)), ⟨⟨rfl, rfl, rfl, Nat.le_refl _, Nat.le_refl _⟩, fun k _ => ?_⟩, by show i + 1 ≤ _; omega, by show tlen p - (i + 1) < _; omega⟩⟩
      show sprF (fun k => ((prodF p q i k : Nat) : Int)) s2 (Int.toNat (i : Int)) ((co p i : Nat) : Int) s2.length k = ((prodF p q (i + 1) k : Nat) : Int)
      rw [Int.toNat_natCast, sprF_nat (prodF_lt p q i) s2 i hlt]
      show ((spr (prodF p q i) s2 i (co p i) k : Nat) : Int) = ((spr (prodF p q i) q i (co p i) k : Nat) : Int)
      unfold spr
      rw [c2]
    · have hc2 := of_decide_eq_false hc2
      obtain rfl : i = tlen p := by omega
      rw [hs3]
      unfold prodL
      rw [if_neg hb]
      rfl
theorem tl_idem (F : Nat → Nat) (n : Nat) : tl F (tl F n) = tl F n :=
  (tl_more (tl F n) n (tl_le F n) fun k h1 h2 => tl_zero h1 h2).symm
theorem tlen_trim (l : List UInt8) : tlen (trimL l) = tlen l := by
  rw [tlen_eq, trimL_len, tl_congr (G := co l) _ fun k _ => co_trim l k, tlen_eq, tl_idem]
theorem prodF_congr {p q p' q' : List UInt8} (h1 : ∀ k, co p k = co p' k) (h2 : ∀ k, co q k = co q' k) : ∀ i, prodF p q i = prodF p' q' i
  | 0 => rfl
  | i + 1 => by
    show spr (prodF p q i) q i (co p i) = spr (prodF p' q' i) q' i (co p' i)
    rw [prodF_congr h1 h2 i, h1]
    funext k
    unfold spr
    rw [h2]
def EA1 : Env := EZ.addE 136 times
theorem EA1_ok : EnvOk Tryz.prog EA1 := EZ_ok.addE times_ok
theorem productR_ok : EcOk Tryz.prog 110 product := by
  refine ecC_run (fun _ => EA1_ok) Tryz.func110 rfl (by kernel_rfl) [] (fun x => []) (fun _ => Nat.le_of_ble_eq_true rfl) (fun ⟨p, q, ()⟩ hp hw => ?_)
  refine vc_of (q :=
      ∀ (s1:List UInt8), s1=trimL p→∀ (s2:List UInt8), s2=trimL q→∀ (v1:Int), v1=(↑(tlen s1):Int) - (1:Int)→∀ (v2:Int), v2=(↑(tlen s2):Int) - (1:Int)→∀ (v3:Int), v3=IntKind.i64.wrap (v1+v2)→(decide (v3≥(1024:Int))=true→∃ (x1:Unit), ([]=prodL p q∧(3:Int)=if prodB p q=true then (3:Int) else (0:Int))∧True)∧(decide (v3≥(1024:Int))=false→∀ (x'1:List UInt8 × List UInt8 × Unit), x'1=(s1, s2, ())→List.length
      (Prod.fst x'1)≤3000∧List.length ((Prod.snd x'1).1)≤3000∧∀ (y1:Unit), True→∀ (s3:List UInt8), s3=timesL (Prod.fst x'1) ((Prod.snd x'1).1)→∃ (x2:Unit), (s3=prodL p q∧(0:Int)=if prodB p q=true then (3:Int) else (0:Int))∧True)) (by kernel_rfl) ?_
  try simp only [eq_self, true_and, and_true, Nat.le_refl, implies_true, forall_const, Bool.false_eq_true, Bool.true_eq_false, reduceCtorEq, false_imp_iff, true_imp_iff, Int.toNat_zero, Int.toNat_natCast, Nat.zero_lt_one, Int.le_refl, allGet]
  obtain ⟨h1, h2, _⟩ := hp
  dsimp only at h1 h2
  have t1 := tlen_le p
  have t2 := tlen_le q
  intro s1 hs1 s2 hs2 v1 hv1 v2 hv2 v3 hv3
  have l1 : s1.length = tlen p := by rw [hs1, trimL_len]
  have l2 : s2.length = tlen q := by rw [hs2, trimL_len]
  rw [hs1, tlen_trim] at hv1
  rw [hs2, tlen_trim] at hv2
  subst hv1 hv2
  rw [w64_id (by omega) (by omega)] at hv3
  refine ⟨fun hc => ?_, fun hc x hx => ?_⟩
  · have hc := of_decide_eq_true hc
    have hb : prodB p q = true := decide_eq_true (by omega)
    refine ⟨(), ?_, ?_⟩
    · unfold prodL; rw [if_pos hb]
    · rw [if_pos hb]
  · have hc := of_decide_eq_false hc
    have hb : ¬ prodB p q = true := fun h => by have := of_decide_eq_true h; omega
    subst hx
    refine ⟨by show s1.length ≤ 3000; omega, by show s2.length ≤ 3000; omega, fun s3 h3 => ⟨(), ?_, by rw [if_neg hb]⟩⟩
    rw [h3]
    show timesL s1 s2 = _
    unfold prodL timesL
    rw [if_neg hb, l1, l2, prodF_congr (p' := p) (q' := q) (fun k => by rw [hs1, co_trim]) (fun k => by rw [hs2, co_trim])]
end Galois
