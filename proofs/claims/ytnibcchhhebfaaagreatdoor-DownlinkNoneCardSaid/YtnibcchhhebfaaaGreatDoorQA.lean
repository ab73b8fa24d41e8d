/-
  OWN WORK. A block of two bytes: wrapped.
-/
import Derived.Test.YtnibcchhhebfaaaGreatDoorB2
import Derived.Test.YtnibcchhhebfaaaGreatDoorQ1
namespace Vt
open Go Go.Proofs Eng
set_option linter.unusedVariables false
set_option linter.unusedSimpArgs false
set_option maxHeartbeats 8000000
set_option maxRecDepth 100000
def rds : Nat → List An
  | 0 => []
  | n + 1 => .raw (n + 1) :: .det (n + 1) :: .sure (n + 1) :: rds n
abbrev aS : ArgL (List UInt8 × Unit) := .cons (.elt .str) .nil
abbrev aSI : ArgL (List UInt8 × Int × Unit) := .cons (.elt .str) (.cons (.elt (.int .i64)) .nil)
def blkAB : List UInt8 := [97, 98, 25, 217, 34, 14, 179, 192, 214, 74]
theorem encL_ab : Galois.encL [97, 98] = blkAB := by
  unfold Galois.encL Galois.parP Galois.parR
  rw [Galois.gpoly_eq]
  decide +kernel
theorem allTrue_app : ∀ {l m : List Ob}, allTrue l → allTrue m → allTrue (l ++ m)
  | [], _, _, h => h
  | .c _ :: _, _, h, h' => ⟨h.1, allTrue_app h.2 h'⟩
  | .p _ :: _, _, h, h' => ⟨h.1, allTrue_app h.2 h'⟩
theorem pc_less {P : Program} {α : Type} {L : ArgL α} {pre pre' : α → List Prop} {res res' : α → SV} {f : FuncId} (h : PcOk P f (pcOf L pre res)) (hp : ∀ x, allT (pre' x) → allT (pre x) ∧ res x = res' x) : PcOk P f (pcOf L pre' res') := by
  intro args H ps v hc hw hp' hex
  unfold pcOf at hc
  split at hc
  · rename_i qs x hx
    simp only [Option.some.injEq, Prod.mk.injEq] at hc
    obtain ⟨rfl, rfl⟩ := hc
    obtain ⟨a1, a2⟩ := allTrue_append hp'
    obtain ⟨b1, b2⟩ := hp x ((pOb_true _).1 a2)
    rw [← b2]
    exact h args H (qs ++ pOb (pre x)) (res x) (by unfold pcOf; rw [hx]) hw (allTrue_app a1 ((pOb_true _).2 b1)) hex
  · cases hc
def encAB := pcOf aS (fun x => [x.1 = [97, 98]]) (fun _ => .tup [.str blkAB, .int .i64 0])
theorem encAB_ok : PcOk Tryz.prog 80 encAB := pc_less Galois.enc_ok fun x hp => by
  obtain ⟨s, u⟩ := x
  have h1 : s = [97, 98] := hp.1
  subst h1
  refine ⟨trivial, ?_⟩
  show SV.tup [.str (Galois.encL [97, 98]), .int .i64 (Galois.encE [97, 98])] = _
  rw [encL_ab]
  rfl
/-! ### parts, of one -/
theorem fam_sveq {g g' b o i n c : Nat} {z z' : Bool} (hz : z = z') : SVeq (.slice g b o [] 1 0 n c z) (.slice g' b o [.elt i 0] 1 0 n c z') := by
  subst hz
  exact ⟨by simp [SV.den, pathOff, PS.off], by simp [SV.flat, pathOff, PS.off], rfl, fun h => h⟩
abbrev D1 := (Nat × Nat) × (Nat × Nat × Nat)
def parts1 := ecC aSI (fun x => [x.2.1 = 1, 1 ≤ x.1.length, x.1.length ≤ 100000]) (fun x (y : D1) => x.1.length ≤ y.2.2.2 ∧ y.2.2.2 ≤ 9223372036854775807)
  (fun _ y => .slice 0 y.1.1 y.1.2 [] 1 0 1 1 false) (fun x y => [⟨0, y.1.1, y.1.2, 1, 1, fun k => .slice 1 y.2.1 y.2.2.1 [.elt k 0] 1 0 x.1.length y.2.2.2 false, true, false, 1, 31, false, none⟩, ⟨1, 0, 0, 0, 1, fun _ => .arr x.1.length 1 fun t => .int .u8 ((x.1.getD t 0).toNat : Nat), true, false, 0, 5, false, some fun _ => (y.2.1, y.2.2.1)⟩]) 2
def ptLoop (s : List UInt8) (fr : Fr) (H : Hp) : LA := ⟨3, Nat × (Nat × Nat × Nat), [11], fun y => [.int .i64 (y.1 : Nat)], [0], fun y => [{ entG H 0 with get := fun _ => .slice 400 y.2.1 y.2.2.1 [] 1 0 y.1 y.2.2.2 (Nat.beq y.1 0) }, ⟨400, y.2.1, y.2.2.1, 1, y.1, fun t => .int .u8 ((s.getD t 0).toNat : Nat), true, false, y.2.2.2, 5, Nat.beq y.1 0, none⟩], fun y => y.1 ≤ s.length ∧ y.1 ≤ y.2.2.2 ∧ y.2.2.2 ≤ 9223372036854775807 ∧ (y.1 = 0 → y.2.2.2 = 0), fun y => s.length - y.1⟩
theorem parts1_ok : EcOk Tryz.prog 79 parts1 := by
  refine ecC_run (fun _ => E0_ok) Tryz.func79 rfl (by kernel_rfl) []
    (fun x => [.loopD 3 (ptLoop x.1), .draw 5 (.take 0 (.take 1 (.take 2 (.take 3 (.take 4 (.take 5 (.take 6 (.take 7 (.case 21 [0] (.take 8 (.take 10 (.take 11 (.take 12 (.br 9 (.br 13 (.br 14 (.take 15 (.br 16 .fin .stop)) .stop) .stop) (.br 13 (.br 9 (.br 14 (.take 15 (.br 16 .fin .stop)) .stop) .stop) .stop))))))))))))))) [5, 100400]]) (fun _ => Nat.le_of_ble_eq_true rfl) (fun ⟨s, d, ()⟩ hp hw => ?_)
  obtain ⟨h1, h2, h3, _⟩ := hp
  dsimp only at h1 h2 h3
  subst h1
  refine vc_of (q :=
      (0:Int)≤(1:Int)∧(1:Int)≤(1:Int)∧(1:Int)*(↑(24:Nat):Int)≤(140737488355328:Int)∧(1:Int)≤(9223372036854775807:Int)∧∀ (b1:Nat) (v1:Int), v1=(↑(List.length s):Int)→(∃ (x1:Nat × Nat × Nat × Nat), (0:Int)=(↑x1.1:Int)∧((b1=b1∧0=0∧false=false∧Int.toNat (1:Int)≤Int.toNat (1:Int)∧Int.toNat (1:Int)≤Int.toNat (1:Int)∧Int.toNat (1:Int)≤Int.toNat (1:Int))∧∀ (i1:Nat), i1 < Int.toNat (1:Int)→SVeq (SV.slice 999999 0
      0 [] 0 0 0 0 true) (SV.slice 400 x1.2.1 x1.2.2.1 [] 1 0 x1.1 x1.2.2.2 (Nat.beq x1.1 0)))∧(Nat.beq x1.1 0=true∧x1.1=0∧x1.2.2.2=0)∧x1.1≤List.length s∧x1.1≤x1.2.2.2∧x1.2.2.2≤9223372036854775807∧(x1.1=0→x1.2.2.2=0))∧∀ (x2:Nat × Nat × Nat × Nat), x2.1≤List.length s∧x2.1≤x2.2.2.2∧x2.2.2.2≤9223372036854775807∧(x2.1=0→x2.2.2.2=0)→(decide ((↑x2.1:Int) < v1)=true→(1:Int)≠(0:Int)∧∀ (v2:Int), v2=Int.tmod
      (↑x2.1:Int) (1:Int)→(1:Int)≠(0:Int)∧∀ (v3:Int), v3=Int.tmod (↑x2.1:Int) (1:Int)→v3=0∧(v3=(0:Int)→(0:Int)≤(0:Int)∧(0:Int) < (↑(Int.toNat (1:Int)):Int)∧(0:Int)≤(↑x2.1:Int)∧(↑x2.1:Int) < (↑(List.length s):Int)∧((b1=b1∧0=0)∧0 < Int.toNat (1:Int)∧(∀ (b2:Nat), ((x2.2.1=x2.2.1∧x2.2.2.1=x2.2.2.1)∧(Nat.beq x2.1 0=true→Nat.beq x2.1
      0=true)∧0=0∧x2.1≤x2.1∧x2.2.2.2≤x2.2.2.2∧(x2.1+1)*1≤140737488355328∧x2.1+1≤9223372036854775807∧1≤1∧(b2=b2∧0=0)∧∀ (b3 b4 b5:Nat), x2.1+1≤b5→b5≤9223372036854775807→(Nat.beq x2.1 0=true→1=0→b5=0)→0≤v2∧v2 < (↑(Int.toNat (1:Int)):Int)∧((b1=b1∧0=0)∧Int.toNat v2 < Int.toNat (1:Int)∧∀ (v4:Int), v4=IntKind.i64.wrap ((↑x2.1:Int)+(1:Int))→∃ (x3:Nat × Nat × Nat × Nat),
      v4=(↑x3.1:Int)∧((b1=b1∧0=0∧false=false∧Int.toNat (1:Int)≤Int.toNat (1:Int)∧Int.toNat (1:Int)≤Int.toNat (1:Int)∧Int.toNat (1:Int)≤Int.toNat (1:Int))∧∀ (i2:Nat), i2 < Int.toNat (1:Int)→eqv (if i2=Int.toNat v2 then SV.slice 400 b3 b4 [] 1 0 (x2.1+1) b5 (Nat.beq x2.1 0&&decide (1=0)) else SV.slice 400 x2.2.1 x2.2.2.1 [] 1 0 x2.1 x2.2.2.2 (Nat.beq x2.1 0)) (SV.slice 400 x3.2.1 x3.2.2.1 [] 1 0 x3.1
      x3.2.2.2 (Nat.beq x3.1 0)))∧((b3=x3.2.1∧b4=x3.2.2.1∧(Nat.beq x2.1 0&&decide (1=0))=Nat.beq x3.1 0∧x3.1≤x2.1+1∧x3.1≤x3.2.2.2∧x3.2.2.2≤b5)∧∀ (i3:Nat), i3 < x3.1→(if i3 < x2.1 then (↑(UInt8.toNat (List.getD s i3 0)):Int) else (↑(UInt8.toNat (List.getD s (Int.toNat (↑x2.1:Int)) 0)):Int))=(↑(UInt8.toNat (List.getD s i3 0)):Int))∧(x3.1≤List.length
      s∧x3.1≤x3.2.2.2∧x3.2.2.2≤9223372036854775807∧(x3.1=0→x3.2.2.2=0))∧List.length s - x3.1 < List.length s - x2.1)∧True)∧True)∧True)∧(∀ (b3:Nat), ((b1=b1∧0=0)∧0 < Int.toNat (1:Int)∧((x2.2.1=x2.2.1∧x2.2.2.1=x2.2.2.1)∧(Nat.beq x2.1 0=true→Nat.beq x2.1 0=true)∧0=0∧x2.1≤x2.1∧x2.2.2.2≤x2.2.2.2∧(x2.1+1)*1≤140737488355328∧x2.1+1≤9223372036854775807∧1≤1∧(b3=b3∧0=0)∧∀ (b4 b5 b6:Nat),
      x2.1+1≤b6→b6≤9223372036854775807→(Nat.beq x2.1 0=true→1=0→b6=0)→0≤v2∧v2 < (↑(Int.toNat (1:Int)):Int)∧((b1=b1∧0=0)∧Int.toNat v2 < Int.toNat (1:Int)∧∀ (v4:Int), v4=IntKind.i64.wrap ((↑x2.1:Int)+(1:Int))→∃ (x3:Nat × Nat × Nat × Nat), v4=(↑x3.1:Int)∧((b1=b1∧0=0∧false=false∧Int.toNat (1:Int)≤Int.toNat (1:Int)∧Int.toNat (1:Int)≤Int.toNat (1:Int)∧Int.toNat (1:Int)≤Int.toNat (1:Int))∧∀ (i2:Nat), i2 <
      Int.toNat (1:Int)→eqv (if i2=Int.toNat v2 then SV.slice 400 b4 b5 [] 1 0 (x2.1+1) b6 (Nat.beq x2.1 0&&decide (1=0)) else SV.slice 400 x2.2.1 x2.2.2.1 [] 1 0 x2.1 x2.2.2.2 (Nat.beq x2.1 0)) (SV.slice 400 x3.2.1 x3.2.2.1 [] 1 0 x3.1 x3.2.2.2 (Nat.beq x3.1 0)))∧((b4=x3.2.1∧b5=x3.2.2.1∧(Nat.beq x2.1 0&&decide (1=0))=Nat.beq x3.1 0∧x3.1≤x2.1+1∧x3.1≤x3.2.2.2∧x3.2.2.2≤b6)∧∀ (i3:Nat), i3 < x3.1→(if i3 <
      x2.1 then (↑(UInt8.toNat (List.getD s i3 0)):Int) else (↑(UInt8.toNat (List.getD s (Int.toNat (↑x2.1:Int)) 0)):Int))=(↑(UInt8.toNat (List.getD s i3 0)):Int))∧(x3.1≤List.length s∧x3.1≤x3.2.2.2∧x3.2.2.2≤9223372036854775807∧(x3.1=0→x3.2.2.2=0))∧List.length s - x3.1 < List.length s - x2.1)∧True)∧True)∧True)∧True)∧True)∧(decide ((↑x2.1:Int) < v1)=false→∃ (x3:(Nat × Nat) × Nat × Nat × Nat),
      (b1=x3.1.1∧0=x3.1.2∧0=0∧Int.toNat (1:Int)=1∧Int.toNat (1:Int)=1∧false=false)∧((b1=x3.1.1∧0=x3.1.2∧false=false∧1≤Int.toNat (1:Int)∧1≤1∧1≤Int.toNat (1:Int))∧∀ (i2:Nat), i2 < 1→SVeq (SV.slice 400 x2.2.1 x2.2.2.1 [] 1 0 x2.1 x2.2.2.2 (Nat.beq x2.1 0)) (SV.slice 1 x3.2.1 x3.2.2.1 [PS.elt i2 0] 1 0 (List.length s) x3.2.2.2 false))∧(∀ (i3:Nat), i3 < 1→Nat.beq x2.1 0=false∧(x2.2.1, x2.2.2.1)=(x3.2.1,
      x3.2.2.1)∧x2.1=List.length s∧∀ (k1:Nat), k1 < x2.1→(↑(UInt8.toNat (List.getD s k1 0)):Int)=(↑(UInt8.toNat (List.getD s k1 0)):Int))∧List.length s≤x3.2.2.2∧x3.2.2.2≤9223372036854775807)) (by kernel_rfl) ?_
  try simp only [eq_self, true_and, and_true, Nat.le_refl, implies_true, forall_const, Bool.false_eq_true, Bool.true_eq_false, reduceCtorEq, false_imp_iff, true_imp_iff, Int.toNat_zero, Int.toNat_natCast, Nat.zero_lt_one, Int.le_refl, allGet]
  refine ⟨by decide, by decide, by decide, fun b1 v1 hv1 => ⟨⟨(0, 0, 0, 0), rfl, fun k hk => nil_eqv rfl rfl rfl, ⟨rfl, rfl, rfl⟩, Nat.zero_le _, Nat.le_refl _, by decide, fun _ => rfl⟩, fun x hx => ⟨fun ht => ?_, fun ht => ?_⟩⟩⟩
  · obtain ⟨i, b, o, c⟩ := x
    obtain ⟨x1, x2, x3, x4⟩ := hx
    dsimp only at ht x1 x2 x3 x4 ⊢
    have hlt : i < s.length := by
      have := of_decide_eq_true ht
      omega
    refine ⟨by decide, fun v2 hv2 => ⟨by decide, fun v3 hv3 => ?_⟩⟩
    have h1 : (i : Int).tmod 1 = 0 := by rw [Int.tmod_eq_emod_of_nonneg (by omega)]; omega
    rw [h1] at hv2 hv3
    subst hv2 hv3
    have key : ∀ (b3 b4 b5 : Nat), i + 1 ≤ b5 → b5 ≤ 9223372036854775807 → ∀ (v4 : Int), v4 = IntKind.i64.wrap ((i : Int) + 1) → ∃ x3 : Nat × Nat × Nat × Nat, v4 = (x3.1 : Int) ∧ (∀ (i2 : Nat), i2 < Int.toNat 1 → eqv (if i2 = Int.toNat 0 then SV.slice 400 b3 b4 [] 1 0 (i + 1) b5 (i.beq 0 && decide False) else SV.slice 400 b o [] 1 0 i c (i.beq 0)) (SV.slice 400 x3.2.1 x3.2.2.1 [] 1 0 x3.1 x3.2.2.2 (x3.1.beq 0))) ∧
        ((b3 = x3.2.1 ∧ b4 = x3.2.2.1 ∧ (i.beq 0 && decide False) = x3.1.beq 0 ∧ x3.1 ≤ i + 1 ∧ x3.1 ≤ x3.2.2.2 ∧ x3.2.2.2 ≤ b5) ∧ ∀ (i3 : Nat), i3 < x3.1 → (if i3 < i then ((s.getD i3 0).toNat : Int) else ((s.getD i 0).toNat : Int)) = ((s.getD i3 0).toNat : Int)) ∧
        (x3.1 ≤ s.length ∧ x3.1 ≤ x3.2.2.2 ∧ x3.2.2.2 ≤ 9223372036854775807 ∧ (x3.1 = 0 → x3.2.2.2 = 0)) ∧ s.length - x3.1 < s.length - i := fun b3 b4 b5 h5 h6 v4 e => by
      have hz : (i.beq 0 && decide False) = (i + 1).beq 0 := by rw [show decide False = false from rfl, Bool.and_false]; rfl
      refine ⟨(i + 1, b3, b4, b5), e.trans (l_succ (by omega)), fun k hk => ?_, ⟨⟨rfl, rfl, hz, Nat.le_refl _, h5, Nat.le_refl _⟩, fun t ht => ?_⟩, ⟨by omega, h5, h6, fun q => by dsimp only at q; omega⟩, by show s.length - (i + 1) < s.length - i; omega⟩
      · have hk : k = Int.toNat 0 := by
          have : k < 1 := hk
          show k = 0
          omega
        rw [if_pos hk, hz]
        simp [eqv, eqv0, eqv1, eqv2, eqv3, eqPath, conjP]
      · dsimp only at ht ⊢
        by_cases q : t < i
        · rw [if_pos q]
        · rw [if_neg q, show t = i by omega]
    exact ⟨rfl, fun _ => ⟨by decide, by omega, by omega, ⟨by decide, fun h => h, by omega, by omega, fun b3 b4 b5 h5 h6 => ⟨by decide, by decide, by decide, key b3 b4 b5 h5 h6⟩⟩, by decide, fun h => h, by omega, by omega, fun b3 b4 b5 h5 h6 => ⟨by decide, by decide, by decide, key b3 b4 b5 h5 h6⟩⟩⟩
  · obtain ⟨i, b, o, c⟩ := x
    obtain ⟨x1, x2, x3, x4⟩ := hx
    dsimp only at ht x1 x2 x3 x4 ⊢
    have := of_decide_eq_false ht
    obtain rfl : i = s.length := by omega
    have hz : s.length.beq 0 = false := by
      cases q : s.length with
      | zero => omega
      | succ k => rfl
    exact ⟨((b1, 0), (b, o, c)), ⟨rfl, rfl, by decide, by decide⟩, ⟨⟨rfl, rfl, by decide, by decide⟩, fun k hk => fam_sveq hz⟩, fun _ _ => ⟨hz, rfl, rfl⟩, x2, x3⟩
def EWP : Env := (E0.addP 80 encAB).addE 79 parts1
theorem EWP_ok : EnvOk Tryz.prog EWP := (E0_ok.addP encAB_ok).addE parts1_ok
def wrapAB := pcOf aSI (fun x => [x.1 = [97, 98], x.2.1 = 1]) (fun _ => .tup [.str blkAB, .int .i64 0])
theorem wrapAB_ok : PcOk Tryz.prog 54 wrapAB := by
  refine pcOf_run (fun _ => EWP_ok) Tryz.func54 rfl (by kernel_rfl) (fun x => ⟨(by decide : blkAB.length ≤ 9223372036854775807), trivial, trivial⟩)
    (fun x => .unroll 5 2 :: .unroll 9 9 :: .det 0 :: rds 20) (fun _ => Nat.le_of_ble_eq_true rfl) (fun ⟨s, d, u⟩ hp hw => ?_)
  obtain ⟨h1, h2, _⟩ := hp
  dsimp only at h1 h2
  subst h1 h2
  refine vc_of (q :=
      (0:Int)≤IntKind.i64.wrap ((8:Int)*(1:Int))∧IntKind.i64.wrap ((8:Int)*(1:Int))≤IntKind.i64.wrap ((8:Int)*(1:Int))∧IntKind.i64.wrap ((8:Int)*(1:Int))*(↑(1:Nat):Int)≤(140737488355328:Int)∧IntKind.i64.wrap ((8:Int)*(1:Int))≤(9223372036854775807:Int)∧∀ (b1:Nat) (x'1:List UInt8 × Int × Unit), x'1=([(97:UInt8), (98:UInt8)], (1:Int), ())→(Prod.snd x'1).1=(1:Int)∧1≤List.length (Prod.fst x'1)∧List.length
      (Prod.fst x'1)≤100000∧∀ (y1:(Nat × Nat) × Nat × Nat × Nat), List.length (Prod.fst x'1)≤y1.2.2.2∧y1.2.2.2≤9223372036854775807→(0:Int)≤(0:Int)∧(0:Int) < (↑(1:Nat):Int)∧(y1.1.1=y1.1.1∧y1.1.2=y1.1.2)∧0 < 1∧List.length (Prod.fst x'1)≤List.length (Prod.fst x'1)∧(∀ (k1:Nat), k1 < List.length (Prod.fst x'1)→true=true)∧(y1.2.1, y1.2.2.1)=(y1.2.1, y1.2.2.1)∧0 < 1∧Byt.of (fun (k:Nat) ↦ (↑(UInt8.toNat
      (List.getD (Prod.fst x'1) k 0)):Int)) (List.length (Prod.fst x'1))=[(97:UInt8), (98:UInt8)]∧(0:Int)≤IntKind.i64.wrap ((↑(List.length (Prod.fst x'1)):Int)+(0:Int))∧IntKind.i64.wrap ((↑(List.length (Prod.fst x'1)):Int)+(0:Int)) < (↑(List.length Vt.blkAB):Int)∧(0:Int)≤IntKind.i64.wrap (IntKind.i64.wrap ((0:Int)*(1:Int))+(0:Int))∧IntKind.i64.wrap (IntKind.i64.wrap ((0:Int)*(1:Int))+(0:Int)) <
      (↑(Int.toNat (IntKind.i64.wrap ((8:Int)*(1:Int)))):Int)∧(b1=b1∧0=0)∧0 < Int.toNat (IntKind.i64.wrap ((8:Int)*(1:Int)))∧(0:Int)≤IntKind.i64.wrap ((↑(List.length (Prod.fst x'1)):Int)+IntKind.i64.wrap ((0:Int)+(1:Int)))∧IntKind.i64.wrap ((↑(List.length (Prod.fst x'1)):Int)+IntKind.i64.wrap ((0:Int)+(1:Int))) < (↑(List.length Vt.blkAB):Int)∧(0:Int)≤IntKind.i64.wrap (IntKind.i64.wrap (IntKind.i64.wrap
      ((0:Int)+(1:Int))*(1:Int))+(0:Int))∧IntKind.i64.wrap (IntKind.i64.wrap (IntKind.i64.wrap ((0:Int)+(1:Int))*(1:Int))+(0:Int)) < (↑(Int.toNat (IntKind.i64.wrap ((8:Int)*(1:Int)))):Int)∧(b1=b1∧0=0)∧1 < Int.toNat (IntKind.i64.wrap ((8:Int)*(1:Int)))∧(0:Int)≤IntKind.i64.wrap ((↑(List.length (Prod.fst x'1)):Int)+IntKind.i64.wrap (IntKind.i64.wrap ((0:Int)+(1:Int))+(1:Int)))∧IntKind.i64.wrap
      ((↑(List.length (Prod.fst x'1)):Int)+IntKind.i64.wrap (IntKind.i64.wrap ((0:Int)+(1:Int))+(1:Int))) < (↑(List.length Vt.blkAB):Int)∧(0:Int)≤IntKind.i64.wrap (IntKind.i64.wrap (IntKind.i64.wrap (IntKind.i64.wrap ((0:Int)+(1:Int))+(1:Int))*(1:Int))+(0:Int))∧IntKind.i64.wrap (IntKind.i64.wrap (IntKind.i64.wrap (IntKind.i64.wrap ((0:Int)+(1:Int))+(1:Int))*(1:Int))+(0:Int)) < (↑(Int.toNat
      (IntKind.i64.wrap ((8:Int)*(1:Int)))):Int)∧(b1=b1∧0=0)∧2 < Int.toNat (IntKind.i64.wrap ((8:Int)*(1:Int)))∧(0:Int)≤IntKind.i64.wrap ((↑(List.length (Prod.fst x'1)):Int)+IntKind.i64.wrap (IntKind.i64.wrap (IntKind.i64.wrap ((0:Int)+(1:Int))+(1:Int))+(1:Int)))∧IntKind.i64.wrap ((↑(List.length (Prod.fst x'1)):Int)+IntKind.i64.wrap (IntKind.i64.wrap (IntKind.i64.wrap ((0:Int)+(1:Int))+(1:Int))+(1:Int)))
      < (↑(List.length Vt.blkAB):Int)∧(0:Int)≤IntKind.i64.wrap (IntKind.i64.wrap (IntKind.i64.wrap (IntKind.i64.wrap (IntKind.i64.wrap ((0:Int)+(1:Int))+(1:Int))+(1:Int))*(1:Int))+(0:Int))∧IntKind.i64.wrap (IntKind.i64.wrap (IntKind.i64.wrap (IntKind.i64.wrap (IntKind.i64.wrap ((0:Int)+(1:Int))+(1:Int))+(1:Int))*(1:Int))+(0:Int)) < (↑(Int.toNat (IntKind.i64.wrap ((8:Int)*(1:Int)))):Int)∧(b1=b1∧0=0)∧3 <
      Int.toNat (IntKind.i64.wrap ((8:Int)*(1:Int)))∧(0:Int)≤IntKind.i64.wrap ((↑(List.length (Prod.fst x'1)):Int)+IntKind.i64.wrap (IntKind.i64.wrap (IntKind.i64.wrap (IntKind.i64.wrap ((0:Int)+(1:Int))+(1:Int))+(1:Int))+(1:Int)))∧IntKind.i64.wrap ((↑(List.length (Prod.fst x'1)):Int)+IntKind.i64.wrap (IntKind.i64.wrap (IntKind.i64.wrap (IntKind.i64.wrap ((0:Int)+(1:Int))+(1:Int))+(1:Int))+(1:Int))) <
      (↑(List.length Vt.blkAB):Int)∧(0:Int)≤IntKind.i64.wrap (IntKind.i64.wrap (IntKind.i64.wrap (IntKind.i64.wrap (IntKind.i64.wrap (IntKind.i64.wrap ((0:Int)+(1:Int))+(1:Int))+(1:Int))+(1:Int))*(1:Int))+(0:Int))∧IntKind.i64.wrap (IntKind.i64.wrap (IntKind.i64.wrap (IntKind.i64.wrap (IntKind.i64.wrap (IntKind.i64.wrap ((0:Int)+(1:Int))+(1:Int))+(1:Int))+(1:Int))*(1:Int))+(0:Int)) < (↑(Int.toNat
      (IntKind.i64.wrap ((8:Int)*(1:Int)))):Int)∧(b1=b1∧0=0)∧4 < Int.toNat (IntKind.i64.wrap ((8:Int)*(1:Int)))∧(0:Int)≤IntKind.i64.wrap ((↑(List.length (Prod.fst x'1)):Int)+IntKind.i64.wrap (IntKind.i64.wrap (IntKind.i64.wrap (IntKind.i64.wrap (IntKind.i64.wrap ((0:Int)+(1:Int))+(1:Int))+(1:Int))+(1:Int))+(1:Int)))∧IntKind.i64.wrap ((↑(List.length (Prod.fst x'1)):Int)+IntKind.i64.wrap (IntKind.i64.wrap
      (IntKind.i64.wrap (IntKind.i64.wrap (IntKind.i64.wrap ((0:Int)+(1:Int))+(1:Int))+(1:Int))+(1:Int))+(1:Int))) < (↑(List.length Vt.blkAB):Int)∧(0:Int)≤IntKind.i64.wrap (IntKind.i64.wrap (IntKind.i64.wrap (IntKind.i64.wrap (IntKind.i64.wrap (IntKind.i64.wrap (IntKind.i64.wrap ((0:Int)+(1:Int))+(1:Int))+(1:Int))+(1:Int))+(1:Int))*(1:Int))+(0:Int))∧IntKind.i64.wrap (IntKind.i64.wrap (IntKind.i64.wrap
      (IntKind.i64.wrap (IntKind.i64.wrap (IntKind.i64.wrap (IntKind.i64.wrap ((0:Int)+(1:Int))+(1:Int))+(1:Int))+(1:Int))+(1:Int))*(1:Int))+(0:Int)) < (↑(Int.toNat (IntKind.i64.wrap ((8:Int)*(1:Int)))):Int)∧(b1=b1∧0=0)∧5 < Int.toNat (IntKind.i64.wrap ((8:Int)*(1:Int)))∧(0:Int)≤IntKind.i64.wrap ((↑(List.length (Prod.fst x'1)):Int)+IntKind.i64.wrap (IntKind.i64.wrap (IntKind.i64.wrap (IntKind.i64.wrap
      (IntKind.i64.wrap (IntKind.i64.wrap ((0:Int)+(1:Int))+(1:Int))+(1:Int))+(1:Int))+(1:Int))+(1:Int)))∧IntKind.i64.wrap ((↑(List.length (Prod.fst x'1)):Int)+IntKind.i64.wrap (IntKind.i64.wrap (IntKind.i64.wrap (IntKind.i64.wrap (IntKind.i64.wrap (IntKind.i64.wrap ((0:Int)+(1:Int))+(1:Int))+(1:Int))+(1:Int))+(1:Int))+(1:Int))) < (↑(List.length Vt.blkAB):Int)∧(0:Int)≤IntKind.i64.wrap (IntKind.i64.wrap
      (IntKind.i64.wrap (IntKind.i64.wrap (IntKind.i64.wrap (IntKind.i64.wrap (IntKind.i64.wrap (IntKind.i64.wrap ((0:Int)+(1:Int))+(1:Int))+(1:Int))+(1:Int))+(1:Int))+(1:Int))*(1:Int))+(0:Int))∧IntKind.i64.wrap (IntKind.i64.wrap (IntKind.i64.wrap (IntKind.i64.wrap (IntKind.i64.wrap (IntKind.i64.wrap (IntKind.i64.wrap (IntKind.i64.wrap
      ((0:Int)+(1:Int))+(1:Int))+(1:Int))+(1:Int))+(1:Int))+(1:Int))*(1:Int))+(0:Int)) < (↑(Int.toNat (IntKind.i64.wrap ((8:Int)*(1:Int)))):Int)∧(b1=b1∧0=0)∧6 < Int.toNat (IntKind.i64.wrap ((8:Int)*(1:Int)))∧(0:Int)≤IntKind.i64.wrap ((↑(List.length (Prod.fst x'1)):Int)+IntKind.i64.wrap (IntKind.i64.wrap (IntKind.i64.wrap (IntKind.i64.wrap (IntKind.i64.wrap (IntKind.i64.wrap (IntKind.i64.wrap
      ((0:Int)+(1:Int))+(1:Int))+(1:Int))+(1:Int))+(1:Int))+(1:Int))+(1:Int)))∧IntKind.i64.wrap ((↑(List.length (Prod.fst x'1)):Int)+IntKind.i64.wrap (IntKind.i64.wrap (IntKind.i64.wrap (IntKind.i64.wrap (IntKind.i64.wrap (IntKind.i64.wrap (IntKind.i64.wrap ((0:Int)+(1:Int))+(1:Int))+(1:Int))+(1:Int))+(1:Int))+(1:Int))+(1:Int))) < (↑(List.length Vt.blkAB):Int)∧(0:Int)≤IntKind.i64.wrap (IntKind.i64.wrap
      (IntKind.i64.wrap (IntKind.i64.wrap (IntKind.i64.wrap (IntKind.i64.wrap (IntKind.i64.wrap (IntKind.i64.wrap (IntKind.i64.wrap ((0:Int)+(1:Int))+(1:Int))+(1:Int))+(1:Int))+(1:Int))+(1:Int))+(1:Int))*(1:Int))+(0:Int))∧IntKind.i64.wrap (IntKind.i64.wrap (IntKind.i64.wrap (IntKind.i64.wrap (IntKind.i64.wrap (IntKind.i64.wrap (IntKind.i64.wrap (IntKind.i64.wrap (IntKind.i64.wrap
      ((0:Int)+(1:Int))+(1:Int))+(1:Int))+(1:Int))+(1:Int))+(1:Int))+(1:Int))*(1:Int))+(0:Int)) < (↑(Int.toNat (IntKind.i64.wrap ((8:Int)*(1:Int)))):Int)∧(b1=b1∧0=0)∧7 < Int.toNat (IntKind.i64.wrap ((8:Int)*(1:Int)))∧8≤Int.toNat (IntKind.i64.wrap ((8:Int)*(1:Int)))∧(∀ (k2:Nat), k2 < Int.toNat (IntKind.i64.wrap ((8:Int)*(1:Int)))→true=true)∧(b1=b1∧0=0)∧List.length [(97:UInt8), (98:UInt8)]+List.length
      (Byt.of (fun (k:Nat) ↦ if k=7 then (↑(UInt8.toNat (List.getD Vt.blkAB (Int.toNat (IntKind.i64.wrap ((↑(List.length (Prod.fst x'1)):Int)+IntKind.i64.wrap (IntKind.i64.wrap (IntKind.i64.wrap (IntKind.i64.wrap (IntKind.i64.wrap (IntKind.i64.wrap (IntKind.i64.wrap ((0:Int)+(1:Int))+(1:Int))+(1:Int))+(1:Int))+(1:Int))+(1:Int))+(1:Int))))) 0)):Int) else if k=6 then (↑(UInt8.toNat (List.getD Vt.blkAB
      (Int.toNat (IntKind.i64.wrap ((↑(List.length (Prod.fst x'1)):Int)+IntKind.i64.wrap (IntKind.i64.wrap (IntKind.i64.wrap (IntKind.i64.wrap (IntKind.i64.wrap (IntKind.i64.wrap ((0:Int)+(1:Int))+(1:Int))+(1:Int))+(1:Int))+(1:Int))+(1:Int))))) 0)):Int) else if k=5 then (↑(UInt8.toNat (List.getD Vt.blkAB (Int.toNat (IntKind.i64.wrap ((↑(List.length (Prod.fst x'1)):Int)+IntKind.i64.wrap (IntKind.i64.wrap
      (IntKind.i64.wrap (IntKind.i64.wrap (IntKind.i64.wrap ((0:Int)+(1:Int))+(1:Int))+(1:Int))+(1:Int))+(1:Int))))) 0)):Int) else if k=4 then (↑(UInt8.toNat (List.getD Vt.blkAB (Int.toNat (IntKind.i64.wrap ((↑(List.length (Prod.fst x'1)):Int)+IntKind.i64.wrap (IntKind.i64.wrap (IntKind.i64.wrap (IntKind.i64.wrap ((0:Int)+(1:Int))+(1:Int))+(1:Int))+(1:Int))))) 0)):Int) else if k=3 then (↑(UInt8.toNat
      (List.getD Vt.blkAB (Int.toNat (IntKind.i64.wrap ((↑(List.length (Prod.fst x'1)):Int)+IntKind.i64.wrap (IntKind.i64.wrap (IntKind.i64.wrap ((0:Int)+(1:Int))+(1:Int))+(1:Int))))) 0)):Int) else if k=2 then (↑(UInt8.toNat (List.getD Vt.blkAB (Int.toNat (IntKind.i64.wrap ((↑(List.length (Prod.fst x'1)):Int)+IntKind.i64.wrap (IntKind.i64.wrap ((0:Int)+(1:Int))+(1:Int))))) 0)):Int) else if k=1 then
      (↑(UInt8.toNat (List.getD Vt.blkAB (Int.toNat (IntKind.i64.wrap ((↑(List.length (Prod.fst x'1)):Int)+IntKind.i64.wrap ((0:Int)+(1:Int))))) 0)):Int) else if k=0 then (↑(UInt8.toNat (List.getD Vt.blkAB (Int.toNat (IntKind.i64.wrap ((↑(List.length (Prod.fst x'1)):Int)+(0:Int)))) 0)):Int) else (0:Int)) (Int.toNat (IntKind.i64.wrap ((8:Int)*(1:Int)))))≤9223372036854775807∧[(97:UInt8),
      (98:UInt8)]++Byt.of (fun (k:Nat) ↦ if k=7 then (↑(UInt8.toNat (List.getD Vt.blkAB (Int.toNat (IntKind.i64.wrap ((↑(List.length (Prod.fst x'1)):Int)+IntKind.i64.wrap (IntKind.i64.wrap (IntKind.i64.wrap (IntKind.i64.wrap (IntKind.i64.wrap (IntKind.i64.wrap (IntKind.i64.wrap ((0:Int)+(1:Int))+(1:Int))+(1:Int))+(1:Int))+(1:Int))+(1:Int))+(1:Int))))) 0)):Int) else if k=6 then (↑(UInt8.toNat (List.getD
      Vt.blkAB (Int.toNat (IntKind.i64.wrap ((↑(List.length (Prod.fst x'1)):Int)+IntKind.i64.wrap (IntKind.i64.wrap (IntKind.i64.wrap (IntKind.i64.wrap (IntKind.i64.wrap (IntKind.i64.wrap ((0:Int)+(1:Int))+(1:Int))+(1:Int))+(1:Int))+(1:Int))+(1:Int))))) 0)):Int) else if k=5 then (↑(UInt8.toNat (List.getD Vt.blkAB (Int.toNat (IntKind.i64.wrap ((↑(List.length (Prod.fst x'1)):Int)+IntKind.i64.wrap
      (IntKind.i64.wrap (IntKind.i64.wrap (IntKind.i64.wrap (IntKind.i64.wrap ((0:Int)+(1:Int))+(1:Int))+(1:Int))+(1:Int))+(1:Int))))) 0)):Int) else if k=4 then (↑(UInt8.toNat (List.getD Vt.blkAB (Int.toNat (IntKind.i64.wrap ((↑(List.length (Prod.fst x'1)):Int)+IntKind.i64.wrap (IntKind.i64.wrap (IntKind.i64.wrap (IntKind.i64.wrap ((0:Int)+(1:Int))+(1:Int))+(1:Int))+(1:Int))))) 0)):Int) else if k=3 then
      (↑(UInt8.toNat (List.getD Vt.blkAB (Int.toNat (IntKind.i64.wrap ((↑(List.length (Prod.fst x'1)):Int)+IntKind.i64.wrap (IntKind.i64.wrap (IntKind.i64.wrap ((0:Int)+(1:Int))+(1:Int))+(1:Int))))) 0)):Int) else if k=2 then (↑(UInt8.toNat (List.getD Vt.blkAB (Int.toNat (IntKind.i64.wrap ((↑(List.length (Prod.fst x'1)):Int)+IntKind.i64.wrap (IntKind.i64.wrap ((0:Int)+(1:Int))+(1:Int))))) 0)):Int) else if
      k=1 then (↑(UInt8.toNat (List.getD Vt.blkAB (Int.toNat (IntKind.i64.wrap ((↑(List.length (Prod.fst x'1)):Int)+IntKind.i64.wrap ((0:Int)+(1:Int))))) 0)):Int) else if k=0 then (↑(UInt8.toNat (List.getD Vt.blkAB (Int.toNat (IntKind.i64.wrap ((↑(List.length (Prod.fst x'1)):Int)+(0:Int)))) 0)):Int) else (0:Int)) (Int.toNat (IntKind.i64.wrap ((8:Int)*(1:Int))))=Vt.blkAB∧(0:Int)=(0:Int)) (by kernel_rfl) ?_
  try simp only [eq_self, true_and, and_true, Nat.le_refl, implies_true, forall_const, Bool.false_eq_true, Bool.true_eq_false, reduceCtorEq, false_imp_iff, true_imp_iff, Int.toNat_zero, Int.toNat_natCast, Nat.zero_lt_one, Int.le_refl, allGet]
  refine ⟨by decide, by decide, by decide, fun x' hx => ?_⟩
  subst hx
  refine ⟨rfl, by decide, by decide, fun y hy => ?_⟩
  and_intros
  all_goals decide +kernel
end Vt
