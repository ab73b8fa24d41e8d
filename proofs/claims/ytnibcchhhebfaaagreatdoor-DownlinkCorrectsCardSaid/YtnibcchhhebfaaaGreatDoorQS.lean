/-
  OWN WORK. Block: Wrap.
-/
import Derived.Test.YtnibcchhhebfaaaGreatDoorB4
namespace Galois
open Go Go.Proofs Eng
set_option linter.unusedVariables false
set_option linter.unusedSimpArgs false
set_option maxHeartbeats 8000000
set_option maxRecDepth 100000

theorem partN_eq {i q j d : Nat} (hd : 1 ≤ d) (h : i = j + q * d) : partN i j d = q := by
  apply Nat.le_antisymm
  · apply Nat.le_of_not_lt
    intro hq
    have := (partN_iff hd q).1 hq
    omega
  · apply Nat.le_of_not_lt
    intro hq
    have h1 : ¬ partN i j d < partN i j d := Nat.lt_irrefl _
    rw [partN_iff hd] at h1
    have : partN i j d * d + d ≤ q * d := by
      have := Nat.mul_le_mul_right d hq
      rw [Nat.succ_mul] at this
      exact this
    omega
theorem partN_hit {i j d : Nat} (hd : 1 ≤ d) (h : i % d = j) : j + partN i j d * d = i ∧ partN (i + 1) j d = partN i j d + 1 := by
  have hi : i = j + i / d * d := by
    have := Nat.div_add_mod i d
    rw [Nat.mul_comm] at this
    omega
  have e := partN_eq hd hi
  have hj : j < d := h ▸ Nat.mod_lt _ (by omega)
  refine ⟨by rw [e]; exact hi.symm, ?_⟩
  rw [e]
  apply Nat.le_antisymm
  · apply Nat.le_of_not_lt
    intro hq
    have := (partN_iff hd _).1 hq
    rw [Nat.succ_mul] at this
    omega
  · exact (partN_iff hd _).2 (by omega)
theorem partN_miss {i j d : Nat} (hd : 1 ≤ d) (hj : j < d) (h : i % d ≠ j) : partN (i + 1) j d = partN i j d := by
  have key : ∀ t, t < partN (i + 1) j d ↔ t < partN i j d := fun t => by
    rw [partN_iff hd, partN_iff hd]
    constructor
    · intro q
      have : j + t * d ≠ i := by
        rintro rfl
        apply h
        rw [Nat.add_mul_mod_self_right, Nat.mod_eq_of_lt hj]
      omega
    · omega
  apply Nat.le_antisymm
  · apply Nat.le_of_not_lt; intro q; exact Nat.lt_irrefl _ ((key _).1 q)
  · apply Nat.le_of_not_lt; intro q; exact Nat.lt_irrefl _ ((key _).2 q)
theorem partN_zero (j d : Nat) (hd : 1 ≤ d) : partN 0 j d = 0 := by
  apply Nat.eq_zero_of_not_pos
  intro q
  have := (partN_iff hd 0).1 q
  omega
theorem partN_pos {n j d : Nat} (hd : 1 ≤ d) (h : j < n) : 0 < partN n j d := (partN_iff hd 0).2 (by omega)
abbrev PD := Nat → Nat × Nat × Nat
abbrev ptS (g : Nat) (P : PD) (n : Nat) (k : Nat) : SV := .slice g (P k).1 (P k).2.1 [] 1 0 n (P k).2.2 (Nat.beq n 0)
abbrev ptE (s : List UInt8) (d i : Nat) (P : PD) (k : Nat) : Ent := ⟨400 + k, (P k).1, (P k).2.1, 1, partN i k d, fun t => .int .u8 ((s.getD (k + t * d) 0).toNat : Nat), true, false, (P k).2.2, 5, Nat.beq (partN i k d) 0, none⟩
theorem fam_sveq {g g' b o i n c : Nat} {z z' : Bool} (hz : z = z') : SVeq (.slice g b o [] 1 0 n c z) (.slice g' b o [.elt i 0] 1 0 n c z') := by
  subst hz
  exact ⟨by simp [SV.den, pathOff, PS.off], by simp [SV.flat, pathOff, PS.off], rfl, fun h => h⟩
/-- The parts, as they lie: the row, the family. -/
abbrev ptRow (g gf n d : Nat) (A : Nat × Nat) (P : PD) : Ent := ⟨g, A.1, A.2, 1, d, fun k => .slice gf (P k).1 (P k).2.1 [.elt k 0] 1 0 (partN n k d) (P k).2.2 false, true, false, d, 31, false, none⟩
abbrev ptFam (gf : Nat) (s : List UInt8) (d : Nat) (P : PD) : Ent := ⟨gf, 0, 0, 0, d, fun k => .arr (partN s.length k d) 1 fun t => .int .u8 ((s.getD (k + t * d) 0).toNat : Nat), true, false, 0, 5, false, some fun k => ((P k).1, (P k).2.1)⟩
def parts := ecC aStrI (fun x => [1 ≤ x.2.1, x.2.1 ≤ 4, x.2.1 ≤ x.1.length, x.1.length ≤ 100000]) (fun x (y : (Nat × Nat) × PD) => ∀ k, k < x.2.1.toNat → partN x.1.length k x.2.1.toNat ≤ (y.2 k).2.2 ∧ (y.2 k).2.2 ≤ 9223372036854775807)
  (fun x y => .slice 0 y.1.1 y.1.2 [] 1 0 x.2.1.toNat x.2.1.toNat false) (fun x y => [ptRow 0 1 x.1.length x.2.1.toNat y.1 y.2, ptFam 1 x.1 x.2.1.toNat y.2]) 2
def partsEs (s : List UInt8) (d i : Nat) (P : PD) : Nat → Hp
  | 0 => []
  | k + 1 => ptE s d i P k :: partsEs s d i P k
def partsA (s : List UInt8) (d : Nat) (vals : List Int) : List An :=
  [.loopD 3 (fun fr H => ⟨3, Nat × PD, [11], fun y => [.int .i64 (y.1 : Nat)], [0], fun y => { entG H 0 with get := fun k => ptS (400 + k) y.2 (partN y.1 k d) k } :: partsEs s d y.1 y.2 d, fun y => y.1 ≤ s.length ∧ ∀ k, k < d → partN y.1 k d ≤ (y.2 k).2.2 ∧ (y.2 k).2.2 ≤ 9223372036854775807 ∧ (partN y.1 k d = 0 → (y.2 k).2.2 = 0), fun y => s.length - y.1⟩),
   .draw 5 (.take 0 (.take 1 (.take 2 (.take 3 (.take 4 (.take 5 (.take 6 (.take 7 (.case 21 vals (.take 8 (.take 10 (.take 11 (.take 12 (.br 9 (.br 13 (.br 14 (.take 15 (.br 16 .fin .stop)) .stop) .stop) (.br 13 (.br 9 (.br 14 (.take 15 (.br 16 .fin .stop)) .stop) .stop) .stop))))))))))))))) [5, 100400, 100401, 100402, 100403]]
theorem pt_beq (n : Nat) : (Nat.beq n 0 && decide False) = Nat.beq (n + 1) 0 := by
  rw [show decide False = false from rfl, Bool.and_false]
  rfl
theorem pt_eqv {i d c k : Nat} {P : PD} {b o cap : Nat} {z : Bool} (hd : 1 ≤ d) (hc : i % d = c) (hk : k < d) (hz : z = false) :
    eqv (if k = c then SV.slice (400 + c) b o [] 1 0 (partN i c d + 1) cap z else SV.slice (400 + k) (P k).1 (P k).2.1 [] 1 0 (partN i k d) (P k).2.2 (Nat.beq (partN i k d) 0))
      (SV.slice (400 + k) (if k = c then (b, o, cap) else P k).1 (if k = c then (b, o, cap) else P k).2.1 [] 1 0 (partN (i + 1) k d) (if k = c then (b, o, cap) else P k).2.2 (Nat.beq (partN (i + 1) k d) 0)) := by
  have key : ∀ g b o n c z, eqv (SV.slice g b o [] 1 0 n c z) (SV.slice g b o [] 1 0 n c z) := fun g b o n c z => by
    simp [eqv, eqv0, eqv1, eqv2, eqv3, eqPath, conjP]
  by_cases h : k = c
  · subst h
    have := partN_hit hd hc
    rw [if_pos rfl, if_pos rfl, this.2, hz]
    exact key ..
  · rw [if_neg h, if_neg h, partN_miss hd hk (by omega)]
    exact key ..
theorem pt_row {s : List UInt8} {i d c : Nat} (hd : 1 ≤ d) (hc : i % d = c) : ∀ t, t < partN i c d + 1 →
    (if t < partN i c d then ((s.getD (c + t * d) 0).toNat : Int) else ((s.getD i 0).toNat : Int)) = ((s.getD (c + t * d) 0).toNat : Int) := fun t ht => by
  have := (partN_hit hd hc).1
  by_cases h : t < partN i c d
  · rw [if_pos h]
  · have : t = partN i c d := by omega
    subst this
    rw [if_neg h, (partN_hit hd hc).1]
theorem parts_walk1 (s : List UInt8) (hs : 1 ≤ s.length) (hl : s.length ≤ 100000) :
    exCode E0 Tryz.f79.ntmps (partsA s 1 [0]) (bodyOf Tryz.f79) (argFr 0 (aStrI.svs 0 (s, 1, ()))) (aStrI.hp 0 (s, 1, ())) aStrI.tags
      (atEnd E0 Tryz.f79.results.toList fun r H' _ => ∃ y : (Nat × Nat) × PD, ends r H' (.slice 0 y.1.1 y.1.2 [] 1 0 1 1 false) [ptRow 0 1 s.length 1 y.1 y.2, ptFam 1 s 1 y.2] [] (∀ k, k < 1 → partN s.length k 1 ≤ (y.2 k).2.2 ∧ (y.2 k).2.2 ≤ 9223372036854775807)) := by
  refine vc_of (q :=
      (0:Int)≤(1:Int)∧(1:Int)≤(1:Int)∧(1:Int)*(↑(24:Nat):Int)≤(140737488355328:Int)∧(1:Int)≤(9223372036854775807:Int)∧∀ (b1:Nat) (v1:Int), v1=(↑(List.length s):Int)→(∃ (x1:Nat × (Nat→Nat × Nat × Nat)), (0:Int)=(↑x1.1:Int)∧((b1=b1∧0=0∧false=false∧Int.toNat (1:Int)≤Int.toNat (1:Int)∧Int.toNat (1:Int)≤Int.toNat (1:Int)∧Int.toNat (1:Int)≤Int.toNat (1:Int))∧∀ (i1:Nat), i1 < Int.toNat (1:Int)→SVeq (SV.slice
      999999 0 0 [] 0 0 0 0 true) (SV.slice (400+i1) ((x1.2 i1).1) (((x1.2 i1).2.1)) [] 1 0 (partN x1.1 i1 1) (((x1.2 i1).2.2)) (Nat.beq (partN x1.1 i1 1) 0)))∧(Nat.beq (partN x1.1 (nat_lit 0) 1) 0=true∧partN x1.1 (nat_lit 0) 1=0∧((x1.2 (nat_lit 0)).2.2)=0)∧x1.1≤List.length s∧∀ (k1:Nat), k1 < 1→partN x1.1 k1 1≤((x1.2 k1).2.2)∧((x1.2 k1).2.2)≤9223372036854775807∧(partN x1.1 k1 1=0→((x1.2 k1).2.2)=0))∧∀
      (x2:Nat × (Nat→Nat × Nat × Nat)), (x2.1≤List.length s∧∀ (k:Nat), k < 1→partN x2.1 k 1≤((x2.2 k).2.2)∧((x2.2 k).2.2)≤9223372036854775807∧(partN x2.1 k 1=0→((x2.2 k).2.2)=0))→(decide ((↑x2.1:Int) < v1)=true→(1:Int)≠(0:Int)∧∀ (v2:Int), v2=Int.tmod (↑x2.1:Int) (1:Int)→(1:Int)≠(0:Int)∧∀ (v3:Int), v3=Int.tmod (↑x2.1:Int) (1:Int)→v3=0∧(v3=(0:Int)→(0:Int)≤(0:Int)∧(0:Int) < (↑(Int.toNat
      (1:Int)):Int)∧(0:Int)≤(↑x2.1:Int)∧(↑x2.1:Int) < (↑(List.length s):Int)∧((b1=b1∧0=0)∧0 < Int.toNat (1:Int)∧(∀ (b2:Nat), (((x2.2 (nat_lit 0)).1=(x2.2 0).1∧((x2.2 (nat_lit 0)).2.1)=((x2.2 0).2.1))∧(Nat.beq (partN x2.1 0 1) 0=true→Nat.beq (partN x2.1 (nat_lit 0) 1) 0=true)∧0=0∧partN x2.1 0 1≤partN x2.1 (nat_lit 0) 1∧((x2.2 0).2.2)≤((x2.2 (nat_lit 0)).2.2)∧(partN x2.1 0 1+1)*1≤140737488355328∧partN x2.1
      0 1+1≤9223372036854775807∧1≤1∧(b2=b2∧0=0)∧∀ (b3 b4 b5:Nat), partN x2.1 0 1+1≤b5→b5≤9223372036854775807→(Nat.beq (partN x2.1 (nat_lit 0) 1) 0=true→1=0→b5=0)→0≤v2∧v2 < (↑(Int.toNat (1:Int)):Int)∧((b1=b1∧0=0)∧Int.toNat v2 < Int.toNat (1:Int)∧∀ (v4:Int), v4=IntKind.i64.wrap ((↑x2.1:Int)+(1:Int))→∃ (x3:Nat × (Nat→Nat × Nat × Nat)), v4=(↑x3.1:Int)∧((b1=b1∧0=0∧false=false∧Int.toNat (1:Int)≤Int.toNat
      (1:Int)∧Int.toNat (1:Int)≤Int.toNat (1:Int)∧Int.toNat (1:Int)≤Int.toNat (1:Int))∧∀ (i2:Nat), i2 < Int.toNat (1:Int)→eqv (if i2=Int.toNat v2 then SV.slice 400 b3 b4 [] 1 0 (partN x2.1 0 1+1) b5 (Nat.beq (partN x2.1 0 1) 0&&decide (1=0)) else SV.slice (400+i2) ((x2.2 i2).1) (((x2.2 i2).2.1)) [] 1 0 (partN x2.1 i2 1) (((x2.2 i2).2.2)) (Nat.beq (partN x2.1 i2 1) 0)) (SV.slice (400+i2) ((x3.2 i2).1)
      (((x3.2 i2).2.1)) [] 1 0 (partN x3.1 i2 1) (((x3.2 i2).2.2)) (Nat.beq (partN x3.1 i2 1) 0)))∧((b3=(x3.2 (nat_lit 0)).1∧b4=((x3.2 (nat_lit 0)).2.1)∧(Nat.beq (partN x2.1 (nat_lit 0) 1) 0&&decide (1=0))=Nat.beq (partN x3.1 (nat_lit 0) 1) 0∧partN x3.1 (nat_lit 0) 1≤partN x2.1 0 1+1∧partN x3.1 (nat_lit 0) 1≤((x3.2 (nat_lit 0)).2.2)∧((x3.2 (nat_lit 0)).2.2)≤b5)∧∀ (i3:Nat), i3 < partN x3.1 (nat_lit 0)
      1→(if i3 < partN x2.1 0 1 then (↑(UInt8.toNat (List.getD s (nat_lit 0+i3*1) 0)):Int) else (↑(UInt8.toNat (List.getD s (Int.toNat (↑x2.1:Int)) 0)):Int))=(↑(UInt8.toNat (List.getD s (nat_lit 0+i3*1) 0)):Int))∧(x3.1≤List.length s∧∀ (k2:Nat), k2 < 1→partN x3.1 k2 1≤((x3.2 k2).2.2)∧((x3.2 k2).2.2)≤9223372036854775807∧(partN x3.1 k2 1=0→((x3.2 k2).2.2)=0))∧List.length s - x3.1 < List.length s -
      x2.1)∧True)∧True)∧True)∧(∀ (b3:Nat), ((b1=b1∧0=0)∧0 < Int.toNat (1:Int)∧(((x2.2 (nat_lit 0)).1=(x2.2 0).1∧((x2.2 (nat_lit 0)).2.1)=((x2.2 0).2.1))∧(Nat.beq (partN x2.1 0 1) 0=true→Nat.beq (partN x2.1 (nat_lit 0) 1) 0=true)∧0=0∧partN x2.1 0 1≤partN x2.1 (nat_lit 0) 1∧((x2.2 0).2.2)≤((x2.2 (nat_lit 0)).2.2)∧(partN x2.1 0 1+1)*1≤140737488355328∧partN x2.1 0 1+1≤9223372036854775807∧1≤1∧(b3=b3∧0=0)∧∀
      (b4 b5 b6:Nat), partN x2.1 0 1+1≤b6→b6≤9223372036854775807→(Nat.beq (partN x2.1 (nat_lit 0) 1) 0=true→1=0→b6=0)→0≤v2∧v2 < (↑(Int.toNat (1:Int)):Int)∧((b1=b1∧0=0)∧Int.toNat v2 < Int.toNat (1:Int)∧∀ (v4:Int), v4=IntKind.i64.wrap ((↑x2.1:Int)+(1:Int))→∃ (x3:Nat × (Nat→Nat × Nat × Nat)), v4=(↑x3.1:Int)∧((b1=b1∧0=0∧false=false∧Int.toNat (1:Int)≤Int.toNat (1:Int)∧Int.toNat (1:Int)≤Int.toNat
      (1:Int)∧Int.toNat (1:Int)≤Int.toNat (1:Int))∧∀ (i2:Nat), i2 < Int.toNat (1:Int)→eqv (if i2=Int.toNat v2 then SV.slice 400 b4 b5 [] 1 0 (partN x2.1 0 1+1) b6 (Nat.beq (partN x2.1 0 1) 0&&decide (1=0)) else SV.slice (400+i2) ((x2.2 i2).1) (((x2.2 i2).2.1)) [] 1 0 (partN x2.1 i2 1) (((x2.2 i2).2.2)) (Nat.beq (partN x2.1 i2 1) 0)) (SV.slice (400+i2) ((x3.2 i2).1) (((x3.2 i2).2.1)) [] 1 0 (partN x3.1 i2
      1) (((x3.2 i2).2.2)) (Nat.beq (partN x3.1 i2 1) 0)))∧((b4=(x3.2 (nat_lit 0)).1∧b5=((x3.2 (nat_lit 0)).2.1)∧(Nat.beq (partN x2.1 (nat_lit 0) 1) 0&&decide (1=0))=Nat.beq (partN x3.1 (nat_lit 0) 1) 0∧partN x3.1 (nat_lit 0) 1≤partN x2.1 0 1+1∧partN x3.1 (nat_lit 0) 1≤((x3.2 (nat_lit 0)).2.2)∧((x3.2 (nat_lit 0)).2.2)≤b6)∧∀ (i3:Nat), i3 < partN x3.1 (nat_lit 0) 1→(if i3 < partN x2.1 0 1 then
      (↑(UInt8.toNat (List.getD s (nat_lit 0+i3*1) 0)):Int) else (↑(UInt8.toNat (List.getD s (Int.toNat (↑x2.1:Int)) 0)):Int))=(↑(UInt8.toNat (List.getD s (nat_lit 0+i3*1) 0)):Int))∧(x3.1≤List.length s∧∀ (k2:Nat), k2 < 1→partN x3.1 k2 1≤((x3.2 k2).2.2)∧((x3.2 k2).2.2)≤9223372036854775807∧(partN x3.1 k2 1=0→((x3.2 k2).2.2)=0))∧List.length s - x3.1 < List.length s -
      x2.1)∧True)∧True)∧True)∧True)∧True)∧(decide ((↑x2.1:Int) < v1)=false→∃ (x3:(Nat × Nat) × (Nat→Nat × Nat × Nat)), (b1=x3.1.1∧0=x3.1.2∧0=0∧Int.toNat (1:Int)=1∧Int.toNat (1:Int)=1∧false=false)∧((b1=x3.1.1∧0=x3.1.2∧false=false∧1≤Int.toNat (1:Int)∧1≤1∧1≤Int.toNat (1:Int))∧∀ (i2:Nat), i2 < 1→SVeq (SV.slice (400+i2) ((x2.2 i2).1) (((x2.2 i2).2.1)) [] 1 0 (partN x2.1 i2 1) (((x2.2 i2).2.2)) (Nat.beq (partN
      x2.1 i2 1) 0)) (SV.slice 1 ((x3.2 i2).1) (((x3.2 i2).2.1)) [PS.elt i2 0] 1 0 (partN (List.length s) i2 1) (((x3.2 i2).2.2)) false))∧(∀ (i3:Nat), i3 < 1→Nat.beq (partN x2.1 (nat_lit 0) 1) 0=false∧((x2.2 (nat_lit 0)).1, ((x2.2 (nat_lit 0)).2.1))=((x3.2 i3).1, ((x3.2 i3).2.1))∧partN x2.1 (nat_lit 0) 1=partN (List.length s) i3 1∧∀ (k2:Nat), k2 < partN x2.1 (nat_lit 0) 1→(↑(UInt8.toNat (List.getD s
      (nat_lit 0+k2*1) 0)):Int)=(↑(UInt8.toNat (List.getD s (i3+k2*1) 0)):Int))∧∀ (k2:Nat), k2 < 1→partN (List.length s) k2 1≤((x3.2 k2).2.2)∧((x3.2 k2).2.2)≤9223372036854775807)) (by kernel_rfl) ?_
  try simp only [eq_self, true_and, and_true, Nat.le_refl, implies_true, forall_const, Bool.false_eq_true, Bool.true_eq_false, reduceCtorEq, false_imp_iff, true_imp_iff, Int.toNat_zero, Int.toNat_natCast, Nat.zero_lt_one, Int.le_refl, allGet]
  refine ⟨by decide, by decide, by decide, fun b1 v1 hv1 => ⟨?_, ?_⟩⟩
  · refine ⟨(0, fun _ => (0, 0, 0)), ?_⟩
    dsimp only
    simp only [fun j => partN_zero j 1 (by omega)]
    and_intros
    all_goals try (first | rfl | omega | exact fun k hk => nil_eqv rfl rfl rfl | trivial | exact fun k hk => ⟨Nat.le_refl _, by omega, fun _ => trivial⟩)
  · rintro x ⟨hx, hp⟩
    have f0 := hp 0 (by omega)
    refine ⟨fun ht => ?_, fun ht => ?_⟩
    · have hlt : x.1 < s.length := by
        have := of_decide_eq_true ht
        omega
      refine ⟨by decide, fun v2 hv2 => ⟨by decide, fun v3 hv3' => ⟨?_, ?_⟩⟩⟩
      · have h := Int.ofNat_tmod x.1 1
        have h2 : ((1 : Nat) : Int) = 1 := rfl
        rw [h2] at h
        have := Nat.mod_lt x.1 (y := 1) (by omega)
        omega
      · intro hv3
        have hm : x.1 % 1 = 0 := by
          have h := Int.ofNat_tmod x.1 1
          have h2 : ((1 : Nat) : Int) = 1 := rfl
          rw [h2] at h
          omega
        have hv2' : v2.toNat = 0 := by omega
        have hh := partN_hit (by omega) hm
        and_intros
        all_goals try (first | decide | omega | exact fun h => h)
        all_goals
          intro b3 b4 b5 hb hb'
          and_intros
          all_goals try (first | decide | omega)
          intro v4 hv4
          refine ⟨(x.1 + 1, fun k => if k = 0 then (b3, b4, b5) else x.2 k), ?_⟩
          rw [hv2']
          dsimp only
          simp only [hh.2]
          refine ⟨by rw [hv4, w64_id (by omega) (by omega)]; omega, fun k hk => ?_, ?_⟩
          · have e := pt_eqv (P := x.2) (b := b3) (o := b4) (cap := b5) (by omega) hm hk (z := ((partN x.1 0 1).beq 0 && decide False)) (by simp)
            exact e
          and_intros
          all_goals try (first | rfl | omega | exact pt_row (by omega) hm | exact pt_beq _ | (simp; done) | (simp; omega))
    · have he : x.1 = s.length := by
        have := of_decide_eq_false ht
        omega
      have hb : ∀ k, k < 1 → Nat.beq (partN s.length k 1) 0 = false := fun k hk => by
        have := partN_pos (n := s.length) (j := k) (d := 1) (by omega) (by omega)
        cases h : partN s.length k 1 with
        | zero => omega
        | succ m => rfl
      rw [he] at hp ⊢
      refine ⟨((b1, 0), x.2), ⟨rfl, rfl, rfl, rfl⟩, ⟨⟨rfl, rfl, by decide, by decide⟩, fun k hk => fam_sveq (hb k hk)⟩, ?_, fun k hk => ⟨(hp k hk).1, (hp k hk).2.1⟩⟩
      · intro k hk
        have hk0 : k = 0 := by omega
        subst hk0
        all_goals
          repeat (first | exact ⟨hb _ (by omega), rfl, rfl, fun _ _ => rfl⟩ | (left; exact ⟨hb _ (by omega), rfl, rfl, fun _ _ => rfl⟩) | right)
theorem parts_walk2 (s : List UInt8) (hs : 2 ≤ s.length) (hl : s.length ≤ 100000) :
    exCode E0 Tryz.f79.ntmps (partsA s 2 [0, 1]) (bodyOf Tryz.f79) (argFr 0 (aStrI.svs 0 (s, 2, ()))) (aStrI.hp 0 (s, 2, ())) aStrI.tags
      (atEnd E0 Tryz.f79.results.toList fun r H' _ => ∃ y : (Nat × Nat) × PD, ends r H' (.slice 0 y.1.1 y.1.2 [] 1 0 2 2 false) [ptRow 0 1 s.length 2 y.1 y.2, ptFam 1 s 2 y.2] [] (∀ k, k < 2 → partN s.length k 2 ≤ (y.2 k).2.2 ∧ (y.2 k).2.2 ≤ 9223372036854775807)) := by
  refine vc_of (q :=
      (0:Int)≤(2:Int)∧(2:Int)≤(2:Int)∧(2:Int)*(↑(24:Nat):Int)≤(140737488355328:Int)∧(2:Int)≤(9223372036854775807:Int)∧∀ (b1:Nat) (v1:Int), v1=(↑(List.length s):Int)→(∃ (x1:Nat × (Nat→Nat × Nat × Nat)), (0:Int)=(↑x1.1:Int)∧((b1=b1∧0=0∧false=false∧Int.toNat (2:Int)≤Int.toNat (2:Int)∧Int.toNat (2:Int)≤Int.toNat (2:Int)∧Int.toNat (2:Int)≤Int.toNat (2:Int))∧∀ (i1:Nat), i1 < Int.toNat (2:Int)→SVeq (SV.slice
      999999 0 0 [] 0 0 0 0 true) (SV.slice (400+i1) ((x1.2 i1).1) (((x1.2 i1).2.1)) [] 1 0 (partN x1.1 i1 2) (((x1.2 i1).2.2)) (Nat.beq (partN x1.1 i1 2) 0)))∧(Nat.beq (partN x1.1 (nat_lit 1) 2) 0=true∧partN x1.1 (nat_lit 1) 2=0∧((x1.2 (nat_lit 1)).2.2)=0)∧(Nat.beq (partN x1.1 (nat_lit 0) 2) 0=true∧partN x1.1 (nat_lit 0) 2=0∧((x1.2 (nat_lit 0)).2.2)=0)∧x1.1≤List.length s∧∀ (k1:Nat), k1 < 2→partN x1.1 k1
      2≤((x1.2 k1).2.2)∧((x1.2 k1).2.2)≤9223372036854775807∧(partN x1.1 k1 2=0→((x1.2 k1).2.2)=0))∧∀ (x2:Nat × (Nat→Nat × Nat × Nat)), (x2.1≤List.length s∧∀ (k:Nat), k < 2→partN x2.1 k 2≤((x2.2 k).2.2)∧((x2.2 k).2.2)≤9223372036854775807∧(partN x2.1 k 2=0→((x2.2 k).2.2)=0))→(decide ((↑x2.1:Int) < v1)=true→(2:Int)≠(0:Int)∧∀ (v2:Int), v2=Int.tmod (↑x2.1:Int) (2:Int)→(2:Int)≠(0:Int)∧∀ (v3:Int), v3=Int.tmod
      (↑x2.1:Int) (2:Int)→(v3=(0:Int)∨v3=1)∧(v3=(0:Int)→(0:Int)≤(0:Int)∧(0:Int) < (↑(Int.toNat (2:Int)):Int)∧(0:Int)≤(↑x2.1:Int)∧(↑x2.1:Int) < (↑(List.length s):Int)∧((b1=b1∧0=0)∧0 < Int.toNat (2:Int)∧(∀ (b2:Nat), (((x2.2 (nat_lit 0)).1=(x2.2 0).1∧((x2.2 (nat_lit 0)).2.1)=((x2.2 0).2.1))∧(Nat.beq (partN x2.1 0 2) 0=true→Nat.beq (partN x2.1 (nat_lit 0) 2) 0=true)∧0=0∧partN x2.1 0 2≤partN x2.1 (nat_lit 0)
      2∧((x2.2 0).2.2)≤((x2.2 (nat_lit 0)).2.2)∧(partN x2.1 0 2+1)*1≤140737488355328∧partN x2.1 0 2+1≤9223372036854775807∧1≤1∧(b2=b2∧0=0)∧∀ (b3 b4 b5:Nat), partN x2.1 0 2+1≤b5→b5≤9223372036854775807→(Nat.beq (partN x2.1 (nat_lit 0) 2) 0=true→1=0→b5=0)→0≤v2∧v2 < (↑(Int.toNat (2:Int)):Int)∧((b1=b1∧0=0)∧Int.toNat v2 < Int.toNat (2:Int)∧∀ (v4:Int), v4=IntKind.i64.wrap ((↑x2.1:Int)+(1:Int))→∃ (x3:Nat ×
      (Nat→Nat × Nat × Nat)), v4=(↑x3.1:Int)∧((b1=b1∧0=0∧false=false∧Int.toNat (2:Int)≤Int.toNat (2:Int)∧Int.toNat (2:Int)≤Int.toNat (2:Int)∧Int.toNat (2:Int)≤Int.toNat (2:Int))∧∀ (i2:Nat), i2 < Int.toNat (2:Int)→eqv (if i2=Int.toNat v2 then SV.slice 400 b3 b4 [] 1 0 (partN x2.1 0 2+1) b5 (Nat.beq (partN x2.1 0 2) 0&&decide (1=0)) else SV.slice (400+i2) ((x2.2 i2).1) (((x2.2 i2).2.1)) [] 1 0 (partN x2.1
      i2 2) (((x2.2 i2).2.2)) (Nat.beq (partN x2.1 i2 2) 0)) (SV.slice (400+i2) ((x3.2 i2).1) (((x3.2 i2).2.1)) [] 1 0 (partN x3.1 i2 2) (((x3.2 i2).2.2)) (Nat.beq (partN x3.1 i2 2) 0)))∧(((x2.2 (nat_lit 1)).1=(x3.2 (nat_lit 1)).1∧((x2.2 (nat_lit 1)).2.1)=((x3.2 (nat_lit 1)).2.1)∧Nat.beq (partN x2.1 (nat_lit 1) 2) 0=Nat.beq (partN x3.1 (nat_lit 1) 2) 0∧partN x3.1 (nat_lit 1) 2≤partN x2.1 (nat_lit 1)
      2∧partN x3.1 (nat_lit 1) 2≤((x3.2 (nat_lit 1)).2.2)∧((x3.2 (nat_lit 1)).2.2)≤((x2.2 (nat_lit 1)).2.2))∧∀ (i3:Nat), i3 < partN x3.1 (nat_lit 1) 2→(↑(UInt8.toNat (List.getD s (nat_lit 1+i3*2) 0)):Int)=(↑(UInt8.toNat (List.getD s (nat_lit 1+i3*2) 0)):Int))∧((b3=(x3.2 (nat_lit 0)).1∧b4=((x3.2 (nat_lit 0)).2.1)∧(Nat.beq (partN x2.1 (nat_lit 0) 2) 0&&decide (1=0))=Nat.beq (partN x3.1 (nat_lit 0) 2)
      0∧partN x3.1 (nat_lit 0) 2≤partN x2.1 0 2+1∧partN x3.1 (nat_lit 0) 2≤((x3.2 (nat_lit 0)).2.2)∧((x3.2 (nat_lit 0)).2.2)≤b5)∧∀ (i4:Nat), i4 < partN x3.1 (nat_lit 0) 2→(if i4 < partN x2.1 0 2 then (↑(UInt8.toNat (List.getD s (nat_lit 0+i4*2) 0)):Int) else (↑(UInt8.toNat (List.getD s (Int.toNat (↑x2.1:Int)) 0)):Int))=(↑(UInt8.toNat (List.getD s (nat_lit 0+i4*2) 0)):Int))∧(x3.1≤List.length s∧∀ (k2:Nat),
      k2 < 2→partN x3.1 k2 2≤((x3.2 k2).2.2)∧((x3.2 k2).2.2)≤9223372036854775807∧(partN x3.1 k2 2=0→((x3.2 k2).2.2)=0))∧List.length s - x3.1 < List.length s - x2.1)∧True)∧True)∧True)∧(∀ (b3:Nat), ((b1=b1∧0=0)∧0 < Int.toNat (2:Int)∧(((x2.2 (nat_lit 0)).1=(x2.2 0).1∧((x2.2 (nat_lit 0)).2.1)=((x2.2 0).2.1))∧(Nat.beq (partN x2.1 0 2) 0=true→Nat.beq (partN x2.1 (nat_lit 0) 2) 0=true)∧0=0∧partN x2.1 0 2≤partN
      x2.1 (nat_lit 0) 2∧((x2.2 0).2.2)≤((x2.2 (nat_lit 0)).2.2)∧(partN x2.1 0 2+1)*1≤140737488355328∧partN x2.1 0 2+1≤9223372036854775807∧1≤1∧(b3=b3∧0=0)∧∀ (b4 b5 b6:Nat), partN x2.1 0 2+1≤b6→b6≤9223372036854775807→(Nat.beq (partN x2.1 (nat_lit 0) 2) 0=true→1=0→b6=0)→0≤v2∧v2 < (↑(Int.toNat (2:Int)):Int)∧((b1=b1∧0=0)∧Int.toNat v2 < Int.toNat (2:Int)∧∀ (v4:Int), v4=IntKind.i64.wrap ((↑x2.1:Int)+(1:Int))→∃
      (x3:Nat × (Nat→Nat × Nat × Nat)), v4=(↑x3.1:Int)∧((b1=b1∧0=0∧false=false∧Int.toNat (2:Int)≤Int.toNat (2:Int)∧Int.toNat (2:Int)≤Int.toNat (2:Int)∧Int.toNat (2:Int)≤Int.toNat (2:Int))∧∀ (i2:Nat), i2 < Int.toNat (2:Int)→eqv (if i2=Int.toNat v2 then SV.slice 400 b4 b5 [] 1 0 (partN x2.1 0 2+1) b6 (Nat.beq (partN x2.1 0 2) 0&&decide (1=0)) else SV.slice (400+i2) ((x2.2 i2).1) (((x2.2 i2).2.1)) [] 1 0
      (partN x2.1 i2 2) (((x2.2 i2).2.2)) (Nat.beq (partN x2.1 i2 2) 0)) (SV.slice (400+i2) ((x3.2 i2).1) (((x3.2 i2).2.1)) [] 1 0 (partN x3.1 i2 2) (((x3.2 i2).2.2)) (Nat.beq (partN x3.1 i2 2) 0)))∧(((x2.2 (nat_lit 1)).1=(x3.2 (nat_lit 1)).1∧((x2.2 (nat_lit 1)).2.1)=((x3.2 (nat_lit 1)).2.1)∧Nat.beq (partN x2.1 (nat_lit 1) 2) 0=Nat.beq (partN x3.1 (nat_lit 1) 2) 0∧partN x3.1 (nat_lit 1) 2≤partN x2.1
      (nat_lit 1) 2∧partN x3.1 (nat_lit 1) 2≤((x3.2 (nat_lit 1)).2.2)∧((x3.2 (nat_lit 1)).2.2)≤((x2.2 (nat_lit 1)).2.2))∧∀ (i3:Nat), i3 < partN x3.1 (nat_lit 1) 2→(↑(UInt8.toNat (List.getD s (nat_lit 1+i3*2) 0)):Int)=(↑(UInt8.toNat (List.getD s (nat_lit 1+i3*2) 0)):Int))∧((b4=(x3.2 (nat_lit 0)).1∧b5=((x3.2 (nat_lit 0)).2.1)∧(Nat.beq (partN x2.1 (nat_lit 0) 2) 0&&decide (1=0))=Nat.beq (partN x3.1 (nat_lit
      0) 2) 0∧partN x3.1 (nat_lit 0) 2≤partN x2.1 0 2+1∧partN x3.1 (nat_lit 0) 2≤((x3.2 (nat_lit 0)).2.2)∧((x3.2 (nat_lit 0)).2.2)≤b6)∧∀ (i4:Nat), i4 < partN x3.1 (nat_lit 0) 2→(if i4 < partN x2.1 0 2 then (↑(UInt8.toNat (List.getD s (nat_lit 0+i4*2) 0)):Int) else (↑(UInt8.toNat (List.getD s (Int.toNat (↑x2.1:Int)) 0)):Int))=(↑(UInt8.toNat (List.getD s (nat_lit 0+i4*2) 0)):Int))∧(x3.1≤List.length s∧∀
      (k2:Nat), k2 < 2→partN x3.1 k2 2≤((x3.2 k2).2.2)∧((x3.2 k2).2.2)≤9223372036854775807∧(partN x3.1 k2 2=0→((x3.2 k2).2.2)=0))∧List.length s - x3.1 < List.length s - x2.1)∧True)∧True)∧True)∧True)∧(v3=(1:Int)→(0:Int)≤(1:Int)∧(1:Int) < (↑(Int.toNat (2:Int)):Int)∧(0:Int)≤(↑x2.1:Int)∧(↑x2.1:Int) < (↑(List.length s):Int)∧((b1=b1∧0=0)∧1 < Int.toNat (2:Int)∧(∀ (b4:Nat), (((x2.2 (nat_lit 1)).1=(x2.2
      1).1∧((x2.2 (nat_lit 1)).2.1)=((x2.2 1).2.1))∧(Nat.beq (partN x2.1 1 2) 0=true→Nat.beq (partN x2.1 (nat_lit 1) 2) 0=true)∧0=0∧partN x2.1 1 2≤partN x2.1 (nat_lit 1) 2∧((x2.2 1).2.2)≤((x2.2 (nat_lit 1)).2.2)∧(partN x2.1 1 2+1)*1≤140737488355328∧partN x2.1 1 2+1≤9223372036854775807∧1≤1∧(b4=b4∧0=0)∧∀ (b5 b6 b7:Nat), partN x2.1 1 2+1≤b7→b7≤9223372036854775807→(Nat.beq (partN x2.1 (nat_lit 1) 2)
      0=true→1=0→b7=0)→0≤v2∧v2 < (↑(Int.toNat (2:Int)):Int)∧((b1=b1∧0=0)∧Int.toNat v2 < Int.toNat (2:Int)∧∀ (v4:Int), v4=IntKind.i64.wrap ((↑x2.1:Int)+(1:Int))→∃ (x3:Nat × (Nat→Nat × Nat × Nat)), v4=(↑x3.1:Int)∧((b1=b1∧0=0∧false=false∧Int.toNat (2:Int)≤Int.toNat (2:Int)∧Int.toNat (2:Int)≤Int.toNat (2:Int)∧Int.toNat (2:Int)≤Int.toNat (2:Int))∧∀ (i2:Nat), i2 < Int.toNat (2:Int)→eqv (if i2=Int.toNat v2 then
      SV.slice 401 b5 b6 [] 1 0 (partN x2.1 1 2+1) b7 (Nat.beq (partN x2.1 1 2) 0&&decide (1=0)) else SV.slice (400+i2) ((x2.2 i2).1) (((x2.2 i2).2.1)) [] 1 0 (partN x2.1 i2 2) (((x2.2 i2).2.2)) (Nat.beq (partN x2.1 i2 2) 0)) (SV.slice (400+i2) ((x3.2 i2).1) (((x3.2 i2).2.1)) [] 1 0 (partN x3.1 i2 2) (((x3.2 i2).2.2)) (Nat.beq (partN x3.1 i2 2) 0)))∧((b5=(x3.2 (nat_lit 1)).1∧b6=((x3.2 (nat_lit
      1)).2.1)∧(Nat.beq (partN x2.1 (nat_lit 1) 2) 0&&decide (1=0))=Nat.beq (partN x3.1 (nat_lit 1) 2) 0∧partN x3.1 (nat_lit 1) 2≤partN x2.1 1 2+1∧partN x3.1 (nat_lit 1) 2≤((x3.2 (nat_lit 1)).2.2)∧((x3.2 (nat_lit 1)).2.2)≤b7)∧∀ (i3:Nat), i3 < partN x3.1 (nat_lit 1) 2→(if i3 < partN x2.1 1 2 then (↑(UInt8.toNat (List.getD s (nat_lit 1+i3*2) 0)):Int) else (↑(UInt8.toNat (List.getD s (Int.toNat (↑x2.1:Int))
      0)):Int))=(↑(UInt8.toNat (List.getD s (nat_lit 1+i3*2) 0)):Int))∧(((x2.2 (nat_lit 0)).1=(x3.2 (nat_lit 0)).1∧((x2.2 (nat_lit 0)).2.1)=((x3.2 (nat_lit 0)).2.1)∧Nat.beq (partN x2.1 (nat_lit 0) 2) 0=Nat.beq (partN x3.1 (nat_lit 0) 2) 0∧partN x3.1 (nat_lit 0) 2≤partN x2.1 (nat_lit 0) 2∧partN x3.1 (nat_lit 0) 2≤((x3.2 (nat_lit 0)).2.2)∧((x3.2 (nat_lit 0)).2.2)≤((x2.2 (nat_lit 0)).2.2))∧∀ (i4:Nat), i4 <
      partN x3.1 (nat_lit 0) 2→(↑(UInt8.toNat (List.getD s (nat_lit 0+i4*2) 0)):Int)=(↑(UInt8.toNat (List.getD s (nat_lit 0+i4*2) 0)):Int))∧(x3.1≤List.length s∧∀ (k2:Nat), k2 < 2→partN x3.1 k2 2≤((x3.2 k2).2.2)∧((x3.2 k2).2.2)≤9223372036854775807∧(partN x3.1 k2 2=0→((x3.2 k2).2.2)=0))∧List.length s - x3.1 < List.length s - x2.1)∧True)∧True)∧True)∧(∀ (b5:Nat), ((b1=b1∧0=0)∧1 < Int.toNat (2:Int)∧(((x2.2
      (nat_lit 1)).1=(x2.2 1).1∧((x2.2 (nat_lit 1)).2.1)=((x2.2 1).2.1))∧(Nat.beq (partN x2.1 1 2) 0=true→Nat.beq (partN x2.1 (nat_lit 1) 2) 0=true)∧0=0∧partN x2.1 1 2≤partN x2.1 (nat_lit 1) 2∧((x2.2 1).2.2)≤((x2.2 (nat_lit 1)).2.2)∧(partN x2.1 1 2+1)*1≤140737488355328∧partN x2.1 1 2+1≤9223372036854775807∧1≤1∧(b5=b5∧0=0)∧∀ (b6 b7 b8:Nat), partN x2.1 1 2+1≤b8→b8≤9223372036854775807→(Nat.beq (partN x2.1
      (nat_lit 1) 2) 0=true→1=0→b8=0)→0≤v2∧v2 < (↑(Int.toNat (2:Int)):Int)∧((b1=b1∧0=0)∧Int.toNat v2 < Int.toNat (2:Int)∧∀ (v4:Int), v4=IntKind.i64.wrap ((↑x2.1:Int)+(1:Int))→∃ (x3:Nat × (Nat→Nat × Nat × Nat)), v4=(↑x3.1:Int)∧((b1=b1∧0=0∧false=false∧Int.toNat (2:Int)≤Int.toNat (2:Int)∧Int.toNat (2:Int)≤Int.toNat (2:Int)∧Int.toNat (2:Int)≤Int.toNat (2:Int))∧∀ (i2:Nat), i2 < Int.toNat (2:Int)→eqv (if
      i2=Int.toNat v2 then SV.slice 401 b6 b7 [] 1 0 (partN x2.1 1 2+1) b8 (Nat.beq (partN x2.1 1 2) 0&&decide (1=0)) else SV.slice (400+i2) ((x2.2 i2).1) (((x2.2 i2).2.1)) [] 1 0 (partN x2.1 i2 2) (((x2.2 i2).2.2)) (Nat.beq (partN x2.1 i2 2) 0)) (SV.slice (400+i2) ((x3.2 i2).1) (((x3.2 i2).2.1)) [] 1 0 (partN x3.1 i2 2) (((x3.2 i2).2.2)) (Nat.beq (partN x3.1 i2 2) 0)))∧((b6=(x3.2 (nat_lit
      1)).1∧b7=((x3.2 (nat_lit 1)).2.1)∧(Nat.beq (partN x2.1 (nat_lit 1) 2) 0&&decide (1=0))=Nat.beq (partN x3.1 (nat_lit 1) 2) 0∧partN x3.1 (nat_lit 1) 2≤partN x2.1 1 2+1∧partN x3.1 (nat_lit 1) 2≤((x3.2 (nat_lit 1)).2.2)∧((x3.2 (nat_lit 1)).2.2)≤b8)∧∀ (i3:Nat), i3 < partN x3.1 (nat_lit 1) 2→(if i3 < partN x2.1 1 2 then (↑(UInt8.toNat (List.getD s (nat_lit 1+i3*2) 0)):Int) else (↑(UInt8.toNat (List.getD
      s (Int.toNat (↑x2.1:Int)) 0)):Int))=(↑(UInt8.toNat (List.getD s (nat_lit 1+i3*2) 0)):Int))∧(((x2.2 (nat_lit 0)).1=(x3.2 (nat_lit 0)).1∧((x2.2 (nat_lit 0)).2.1)=((x3.2 (nat_lit 0)).2.1)∧Nat.beq (partN x2.1 (nat_lit 0) 2) 0=Nat.beq (partN x3.1 (nat_lit 0) 2) 0∧partN x3.1 (nat_lit 0) 2≤partN x2.1 (nat_lit 0) 2∧partN x3.1 (nat_lit 0) 2≤((x3.2 (nat_lit 0)).2.2)∧((x3.2 (nat_lit 0)).2.2)≤((x2.2 (nat_lit
      0)).2.2))∧∀ (i4:Nat), i4 < partN x3.1 (nat_lit 0) 2→(↑(UInt8.toNat (List.getD s (nat_lit 0+i4*2) 0)):Int)=(↑(UInt8.toNat (List.getD s (nat_lit 0+i4*2) 0)):Int))∧(x3.1≤List.length s∧∀ (k2:Nat), k2 < 2→partN x3.1 k2 2≤((x3.2 k2).2.2)∧((x3.2 k2).2.2)≤9223372036854775807∧(partN x3.1 k2 2=0→((x3.2 k2).2.2)=0))∧List.length s - x3.1 < List.length s - x2.1)∧True)∧True)∧True)∧True)∧True)∧(decide
      ((↑x2.1:Int) < v1)=false→∃ (x3:(Nat × Nat) × (Nat→Nat × Nat × Nat)), (b1=x3.1.1∧0=x3.1.2∧0=0∧Int.toNat (2:Int)=2∧Int.toNat (2:Int)=2∧false=false)∧((b1=x3.1.1∧0=x3.1.2∧false=false∧2≤Int.toNat (2:Int)∧2≤2∧2≤Int.toNat (2:Int))∧∀ (i2:Nat), i2 < 2→SVeq (SV.slice (400+i2) ((x2.2 i2).1) (((x2.2 i2).2.1)) [] 1 0 (partN x2.1 i2 2) (((x2.2 i2).2.2)) (Nat.beq (partN x2.1 i2 2) 0)) (SV.slice 1 ((x3.2 i2).1)
      (((x3.2 i2).2.1)) [PS.elt i2 0] 1 0 (partN (List.length s) i2 2) (((x3.2 i2).2.2)) false))∧(∀ (i3:Nat), i3 < 2→(Nat.beq (partN x2.1 (nat_lit 1) 2) 0=false∧((x2.2 (nat_lit 1)).1, ((x2.2 (nat_lit 1)).2.1))=((x3.2 i3).1, ((x3.2 i3).2.1))∧partN x2.1 (nat_lit 1) 2=partN (List.length s) i3 2∧∀ (k2:Nat), k2 < partN x2.1 (nat_lit 1) 2→(↑(UInt8.toNat (List.getD s (nat_lit 1+k2*2) 0)):Int)=(↑(UInt8.toNat
      (List.getD s (i3+k2*2) 0)):Int))∨Nat.beq (partN x2.1 (nat_lit 0) 2) 0=false∧((x2.2 (nat_lit 0)).1, ((x2.2 (nat_lit 0)).2.1))=((x3.2 i3).1, ((x3.2 i3).2.1))∧partN x2.1 (nat_lit 0) 2=partN (List.length s) i3 2∧∀ (k3:Nat), k3 < partN x2.1 (nat_lit 0) 2→(↑(UInt8.toNat (List.getD s (nat_lit 0+k3*2) 0)):Int)=(↑(UInt8.toNat (List.getD s (i3+k3*2) 0)):Int))∧∀ (k2:Nat), k2 < 2→partN (List.length s) k2
      2≤((x3.2 k2).2.2)∧((x3.2 k2).2.2)≤9223372036854775807)) (by kernel_rfl) ?_
  try simp only [eq_self, true_and, and_true, Nat.le_refl, implies_true, forall_const, Bool.false_eq_true, Bool.true_eq_false, reduceCtorEq, false_imp_iff, true_imp_iff, Int.toNat_zero, Int.toNat_natCast, Nat.zero_lt_one, Int.le_refl, allGet]
  refine ⟨by decide, by decide, by decide, fun b1 v1 hv1 => ⟨?_, ?_⟩⟩
  · refine ⟨(0, fun _ => (0, 0, 0)), ?_⟩
    dsimp only
    simp only [fun j => partN_zero j 2 (by omega)]
    and_intros
    all_goals try (first | rfl | omega | exact fun k hk => nil_eqv rfl rfl rfl | trivial | exact fun k hk => ⟨Nat.le_refl _, by omega, fun _ => trivial⟩)
  · rintro x ⟨hx, hp⟩
    have f0 := hp 0 (by omega)
    have f1 := hp 1 (by omega)
    refine ⟨fun ht => ?_, fun ht => ?_⟩
    · have hlt : x.1 < s.length := by
        have := of_decide_eq_true ht
        omega
      refine ⟨by decide, fun v2 hv2 => ⟨by decide, fun v3 hv3' => ⟨?_, ?_, ?_⟩⟩⟩
      · have h := Int.ofNat_tmod x.1 2
        have h2 : ((2 : Nat) : Int) = 2 := rfl
        rw [h2] at h
        have := Nat.mod_lt x.1 (y := 2) (by omega)
        omega
      · intro hv3
        have hm : x.1 % 2 = 0 := by
          have h := Int.ofNat_tmod x.1 2
          have h2 : ((2 : Nat) : Int) = 2 := rfl
          rw [h2] at h
          omega
        have hv2' : v2.toNat = 0 := by omega
        have hh := partN_hit (by omega) hm
        have q1 : partN (x.1 + 1) 1 2 = partN x.1 1 2 := partN_miss (by omega) (by omega) (by omega)
        and_intros
        all_goals try (first | decide | omega | exact fun h => h)
        all_goals
          intro b3 b4 b5 hb hb'
          and_intros
          all_goals try (first | decide | omega)
          intro v4 hv4
          refine ⟨(x.1 + 1, fun k => if k = 0 then (b3, b4, b5) else x.2 k), ?_⟩
          rw [hv2']
          dsimp only
          simp only [q1, hh.2]
          refine ⟨by rw [hv4, w64_id (by omega) (by omega)]; omega, fun k hk => ?_, ?_⟩
          · have e := pt_eqv (P := x.2) (b := b3) (o := b4) (cap := b5) (by omega) hm hk (z := ((partN x.1 0 2).beq 0 && decide False)) (by simp)
            exact e
          and_intros
          all_goals try (first | rfl | omega | exact pt_row (by omega) hm | exact pt_beq _ | (simp; done) | (simp; omega))
          intro k hk
          have hk0 : k = 0 ∨ k = 1 := by omega
          rcases hk0 with rfl | rfl
          all_goals
            simp only [q1, hh.2]
            simp
            omega
      · intro hv3
        have hm : x.1 % 2 = 1 := by
          have h := Int.ofNat_tmod x.1 2
          have h2 : ((2 : Nat) : Int) = 2 := rfl
          rw [h2] at h
          omega
        have hv2' : v2.toNat = 1 := by omega
        have hh := partN_hit (by omega) hm
        have q0 : partN (x.1 + 1) 0 2 = partN x.1 0 2 := partN_miss (by omega) (by omega) (by omega)
        and_intros
        all_goals try (first | decide | omega | exact fun h => h)
        all_goals
          intro b3 b4 b5 hb hb'
          and_intros
          all_goals try (first | decide | omega)
          intro v4 hv4
          refine ⟨(x.1 + 1, fun k => if k = 1 then (b3, b4, b5) else x.2 k), ?_⟩
          rw [hv2']
          dsimp only
          simp only [q0, hh.2]
          refine ⟨by rw [hv4, w64_id (by omega) (by omega)]; omega, fun k hk => ?_, ?_⟩
          · have e := pt_eqv (P := x.2) (b := b3) (o := b4) (cap := b5) (by omega) hm hk (z := ((partN x.1 1 2).beq 0 && decide False)) (by simp)
            exact e
          and_intros
          all_goals try (first | rfl | omega | exact pt_row (by omega) hm | exact pt_beq _ | (simp; done) | (simp; omega))
          intro k hk
          have hk0 : k = 0 ∨ k = 1 := by omega
          rcases hk0 with rfl | rfl
          all_goals
            simp only [q0, hh.2]
            simp
            omega
    · have he : x.1 = s.length := by
        have := of_decide_eq_false ht
        omega
      have hb : ∀ k, k < 2 → Nat.beq (partN s.length k 2) 0 = false := fun k hk => by
        have := partN_pos (n := s.length) (j := k) (d := 2) (by omega) (by omega)
        cases h : partN s.length k 2 with
        | zero => omega
        | succ m => rfl
      rw [he] at hp ⊢
      refine ⟨((b1, 0), x.2), ⟨rfl, rfl, rfl, rfl⟩, ⟨⟨rfl, rfl, by decide, by decide⟩, fun k hk => fam_sveq (hb k hk)⟩, ?_, fun k hk => ⟨(hp k hk).1, (hp k hk).2.1⟩⟩
      · intro k hk
        have hk0 : k = 0 ∨ k = 1 := by omega
        rcases hk0 with rfl | rfl
        all_goals
          repeat (first | exact ⟨hb _ (by omega), rfl, rfl, fun _ _ => rfl⟩ | (left; exact ⟨hb _ (by omega), rfl, rfl, fun _ _ => rfl⟩) | right)
theorem parts_walk3 (s : List UInt8) (hs : 3 ≤ s.length) (hl : s.length ≤ 100000) :
    exCode E0 Tryz.f79.ntmps (partsA s 3 [0, 1, 2]) (bodyOf Tryz.f79) (argFr 0 (aStrI.svs 0 (s, 3, ()))) (aStrI.hp 0 (s, 3, ())) aStrI.tags
      (atEnd E0 Tryz.f79.results.toList fun r H' _ => ∃ y : (Nat × Nat) × PD, ends r H' (.slice 0 y.1.1 y.1.2 [] 1 0 3 3 false) [ptRow 0 1 s.length 3 y.1 y.2, ptFam 1 s 3 y.2] [] (∀ k, k < 3 → partN s.length k 3 ≤ (y.2 k).2.2 ∧ (y.2 k).2.2 ≤ 9223372036854775807)) := by
  refine vc_of (q :=
      (0:Int)≤(3:Int)∧(3:Int)≤(3:Int)∧(3:Int)*(↑(24:Nat):Int)≤(140737488355328:Int)∧(3:Int)≤(9223372036854775807:Int)∧∀ (b1:Nat) (v1:Int), v1=(↑(List.length s):Int)→(∃ (x1:Nat × (Nat→Nat × Nat × Nat)), (0:Int)=(↑x1.1:Int)∧((b1=b1∧0=0∧false=false∧Int.toNat (3:Int)≤Int.toNat (3:Int)∧Int.toNat (3:Int)≤Int.toNat (3:Int)∧Int.toNat (3:Int)≤Int.toNat (3:Int))∧∀ (i1:Nat), i1 < Int.toNat (3:Int)→SVeq (SV.slice
      999999 0 0 [] 0 0 0 0 true) (SV.slice (400+i1) ((x1.2 i1).1) (((x1.2 i1).2.1)) [] 1 0 (partN x1.1 i1 3) (((x1.2 i1).2.2)) (Nat.beq (partN x1.1 i1 3) 0)))∧(Nat.beq (partN x1.1 (nat_lit 2) 3) 0=true∧partN x1.1 (nat_lit 2) 3=0∧((x1.2 (nat_lit 2)).2.2)=0)∧(Nat.beq (partN x1.1 (nat_lit 1) 3) 0=true∧partN x1.1 (nat_lit 1) 3=0∧((x1.2 (nat_lit 1)).2.2)=0)∧(Nat.beq (partN x1.1 (nat_lit 0) 3) 0=true∧partN
      x1.1 (nat_lit 0) 3=0∧((x1.2 (nat_lit 0)).2.2)=0)∧x1.1≤List.length s∧∀ (k1:Nat), k1 < 3→partN x1.1 k1 3≤((x1.2 k1).2.2)∧((x1.2 k1).2.2)≤9223372036854775807∧(partN x1.1 k1 3=0→((x1.2 k1).2.2)=0))∧∀ (x2:Nat × (Nat→Nat × Nat × Nat)), (x2.1≤List.length s∧∀ (k:Nat), k < 3→partN x2.1 k 3≤((x2.2 k).2.2)∧((x2.2 k).2.2)≤9223372036854775807∧(partN x2.1 k 3=0→((x2.2 k).2.2)=0))→(decide ((↑x2.1:Int) <
      v1)=true→(3:Int)≠(0:Int)∧∀ (v2:Int), v2=Int.tmod (↑x2.1:Int) (3:Int)→(3:Int)≠(0:Int)∧∀ (v3:Int), v3=Int.tmod (↑x2.1:Int) (3:Int)→(v3=(0:Int)∨v3=1∨v3=2)∧(v3=(0:Int)→(0:Int)≤(0:Int)∧(0:Int) < (↑(Int.toNat (3:Int)):Int)∧(0:Int)≤(↑x2.1:Int)∧(↑x2.1:Int) < (↑(List.length s):Int)∧((b1=b1∧0=0)∧0 < Int.toNat (3:Int)∧(∀ (b2:Nat), (((x2.2 (nat_lit 0)).1=(x2.2 0).1∧((x2.2 (nat_lit 0)).2.1)=((x2.2
      0).2.1))∧(Nat.beq (partN x2.1 0 3) 0=true→Nat.beq (partN x2.1 (nat_lit 0) 3) 0=true)∧0=0∧partN x2.1 0 3≤partN x2.1 (nat_lit 0) 3∧((x2.2 0).2.2)≤((x2.2 (nat_lit 0)).2.2)∧(partN x2.1 0 3+1)*1≤140737488355328∧partN x2.1 0 3+1≤9223372036854775807∧1≤1∧(b2=b2∧0=0)∧∀ (b3 b4 b5:Nat), partN x2.1 0 3+1≤b5→b5≤9223372036854775807→(Nat.beq (partN x2.1 (nat_lit 0) 3) 0=true→1=0→b5=0)→0≤v2∧v2 < (↑(Int.toNat
      (3:Int)):Int)∧((b1=b1∧0=0)∧Int.toNat v2 < Int.toNat (3:Int)∧∀ (v4:Int), v4=IntKind.i64.wrap ((↑x2.1:Int)+(1:Int))→∃ (x3:Nat × (Nat→Nat × Nat × Nat)), v4=(↑x3.1:Int)∧((b1=b1∧0=0∧false=false∧Int.toNat (3:Int)≤Int.toNat (3:Int)∧Int.toNat (3:Int)≤Int.toNat (3:Int)∧Int.toNat (3:Int)≤Int.toNat (3:Int))∧∀ (i2:Nat), i2 < Int.toNat (3:Int)→eqv (if i2=Int.toNat v2 then SV.slice 400 b3 b4 [] 1 0 (partN x2.1 0
      3+1) b5 (Nat.beq (partN x2.1 0 3) 0&&decide (1=0)) else SV.slice (400+i2) ((x2.2 i2).1) (((x2.2 i2).2.1)) [] 1 0 (partN x2.1 i2 3) (((x2.2 i2).2.2)) (Nat.beq (partN x2.1 i2 3) 0)) (SV.slice (400+i2) ((x3.2 i2).1) (((x3.2 i2).2.1)) [] 1 0 (partN x3.1 i2 3) (((x3.2 i2).2.2)) (Nat.beq (partN x3.1 i2 3) 0)))∧(((x2.2 (nat_lit 2)).1=(x3.2 (nat_lit 2)).1∧((x2.2 (nat_lit 2)).2.1)=((x3.2 (nat_lit
      2)).2.1)∧Nat.beq (partN x2.1 (nat_lit 2) 3) 0=Nat.beq (partN x3.1 (nat_lit 2) 3) 0∧partN x3.1 (nat_lit 2) 3≤partN x2.1 (nat_lit 2) 3∧partN x3.1 (nat_lit 2) 3≤((x3.2 (nat_lit 2)).2.2)∧((x3.2 (nat_lit 2)).2.2)≤((x2.2 (nat_lit 2)).2.2))∧∀ (i3:Nat), i3 < partN x3.1 (nat_lit 2) 3→(↑(UInt8.toNat (List.getD s (nat_lit 2+i3*3) 0)):Int)=(↑(UInt8.toNat (List.getD s (nat_lit 2+i3*3) 0)):Int))∧(((x2.2 (nat_lit
      1)).1=(x3.2 (nat_lit 1)).1∧((x2.2 (nat_lit 1)).2.1)=((x3.2 (nat_lit 1)).2.1)∧Nat.beq (partN x2.1 (nat_lit 1) 3) 0=Nat.beq (partN x3.1 (nat_lit 1) 3) 0∧partN x3.1 (nat_lit 1) 3≤partN x2.1 (nat_lit 1) 3∧partN x3.1 (nat_lit 1) 3≤((x3.2 (nat_lit 1)).2.2)∧((x3.2 (nat_lit 1)).2.2)≤((x2.2 (nat_lit 1)).2.2))∧∀ (i4:Nat), i4 < partN x3.1 (nat_lit 1) 3→(↑(UInt8.toNat (List.getD s (nat_lit 1+i4*3)
      0)):Int)=(↑(UInt8.toNat (List.getD s (nat_lit 1+i4*3) 0)):Int))∧((b3=(x3.2 (nat_lit 0)).1∧b4=((x3.2 (nat_lit 0)).2.1)∧(Nat.beq (partN x2.1 (nat_lit 0) 3) 0&&decide (1=0))=Nat.beq (partN x3.1 (nat_lit 0) 3) 0∧partN x3.1 (nat_lit 0) 3≤partN x2.1 0 3+1∧partN x3.1 (nat_lit 0) 3≤((x3.2 (nat_lit 0)).2.2)∧((x3.2 (nat_lit 0)).2.2)≤b5)∧∀ (i5:Nat), i5 < partN x3.1 (nat_lit 0) 3→(if i5 < partN x2.1 0 3 then
      (↑(UInt8.toNat (List.getD s (nat_lit 0+i5*3) 0)):Int) else (↑(UInt8.toNat (List.getD s (Int.toNat (↑x2.1:Int)) 0)):Int))=(↑(UInt8.toNat (List.getD s (nat_lit 0+i5*3) 0)):Int))∧(x3.1≤List.length s∧∀ (k2:Nat), k2 < 3→partN x3.1 k2 3≤((x3.2 k2).2.2)∧((x3.2 k2).2.2)≤9223372036854775807∧(partN x3.1 k2 3=0→((x3.2 k2).2.2)=0))∧List.length s - x3.1 < List.length s - x2.1)∧True)∧True)∧True)∧(∀ (b3:Nat),
      ((b1=b1∧0=0)∧0 < Int.toNat (3:Int)∧(((x2.2 (nat_lit 0)).1=(x2.2 0).1∧((x2.2 (nat_lit 0)).2.1)=((x2.2 0).2.1))∧(Nat.beq (partN x2.1 0 3) 0=true→Nat.beq (partN x2.1 (nat_lit 0) 3) 0=true)∧0=0∧partN x2.1 0 3≤partN x2.1 (nat_lit 0) 3∧((x2.2 0).2.2)≤((x2.2 (nat_lit 0)).2.2)∧(partN x2.1 0 3+1)*1≤140737488355328∧partN x2.1 0 3+1≤9223372036854775807∧1≤1∧(b3=b3∧0=0)∧∀ (b4 b5 b6:Nat), partN x2.1 0
      3+1≤b6→b6≤9223372036854775807→(Nat.beq (partN x2.1 (nat_lit 0) 3) 0=true→1=0→b6=0)→0≤v2∧v2 < (↑(Int.toNat (3:Int)):Int)∧((b1=b1∧0=0)∧Int.toNat v2 < Int.toNat (3:Int)∧∀ (v4:Int), v4=IntKind.i64.wrap ((↑x2.1:Int)+(1:Int))→∃ (x3:Nat × (Nat→Nat × Nat × Nat)), v4=(↑x3.1:Int)∧((b1=b1∧0=0∧false=false∧Int.toNat (3:Int)≤Int.toNat (3:Int)∧Int.toNat (3:Int)≤Int.toNat (3:Int)∧Int.toNat (3:Int)≤Int.toNat
      (3:Int))∧∀ (i2:Nat), i2 < Int.toNat (3:Int)→eqv (if i2=Int.toNat v2 then SV.slice 400 b4 b5 [] 1 0 (partN x2.1 0 3+1) b6 (Nat.beq (partN x2.1 0 3) 0&&decide (1=0)) else SV.slice (400+i2) ((x2.2 i2).1) (((x2.2 i2).2.1)) [] 1 0 (partN x2.1 i2 3) (((x2.2 i2).2.2)) (Nat.beq (partN x2.1 i2 3) 0)) (SV.slice (400+i2) ((x3.2 i2).1) (((x3.2 i2).2.1)) [] 1 0 (partN x3.1 i2 3) (((x3.2 i2).2.2)) (Nat.beq
      (partN x3.1 i2 3) 0)))∧(((x2.2 (nat_lit 2)).1=(x3.2 (nat_lit 2)).1∧((x2.2 (nat_lit 2)).2.1)=((x3.2 (nat_lit 2)).2.1)∧Nat.beq (partN x2.1 (nat_lit 2) 3) 0=Nat.beq (partN x3.1 (nat_lit 2) 3) 0∧partN x3.1 (nat_lit 2) 3≤partN x2.1 (nat_lit 2) 3∧partN x3.1 (nat_lit 2) 3≤((x3.2 (nat_lit 2)).2.2)∧((x3.2 (nat_lit 2)).2.2)≤((x2.2 (nat_lit 2)).2.2))∧∀ (i3:Nat), i3 < partN x3.1 (nat_lit 2) 3→(↑(UInt8.toNat
      (List.getD s (nat_lit 2+i3*3) 0)):Int)=(↑(UInt8.toNat (List.getD s (nat_lit 2+i3*3) 0)):Int))∧(((x2.2 (nat_lit 1)).1=(x3.2 (nat_lit 1)).1∧((x2.2 (nat_lit 1)).2.1)=((x3.2 (nat_lit 1)).2.1)∧Nat.beq (partN x2.1 (nat_lit 1) 3) 0=Nat.beq (partN x3.1 (nat_lit 1) 3) 0∧partN x3.1 (nat_lit 1) 3≤partN x2.1 (nat_lit 1) 3∧partN x3.1 (nat_lit 1) 3≤((x3.2 (nat_lit 1)).2.2)∧((x3.2 (nat_lit 1)).2.2)≤((x2.2
      (nat_lit 1)).2.2))∧∀ (i4:Nat), i4 < partN x3.1 (nat_lit 1) 3→(↑(UInt8.toNat (List.getD s (nat_lit 1+i4*3) 0)):Int)=(↑(UInt8.toNat (List.getD s (nat_lit 1+i4*3) 0)):Int))∧((b4=(x3.2 (nat_lit 0)).1∧b5=((x3.2 (nat_lit 0)).2.1)∧(Nat.beq (partN x2.1 (nat_lit 0) 3) 0&&decide (1=0))=Nat.beq (partN x3.1 (nat_lit 0) 3) 0∧partN x3.1 (nat_lit 0) 3≤partN x2.1 0 3+1∧partN x3.1 (nat_lit 0) 3≤((x3.2 (nat_lit
      0)).2.2)∧((x3.2 (nat_lit 0)).2.2)≤b6)∧∀ (i5:Nat), i5 < partN x3.1 (nat_lit 0) 3→(if i5 < partN x2.1 0 3 then (↑(UInt8.toNat (List.getD s (nat_lit 0+i5*3) 0)):Int) else (↑(UInt8.toNat (List.getD s (Int.toNat (↑x2.1:Int)) 0)):Int))=(↑(UInt8.toNat (List.getD s (nat_lit 0+i5*3) 0)):Int))∧(x3.1≤List.length s∧∀ (k2:Nat), k2 < 3→partN x3.1 k2 3≤((x3.2 k2).2.2)∧((x3.2 k2).2.2)≤9223372036854775807∧(partN
      x3.1 k2 3=0→((x3.2 k2).2.2)=0))∧List.length s - x3.1 < List.length s - x2.1)∧True)∧True)∧True)∧True)∧(v3=(1:Int)→(0:Int)≤(1:Int)∧(1:Int) < (↑(Int.toNat (3:Int)):Int)∧(0:Int)≤(↑x2.1:Int)∧(↑x2.1:Int) < (↑(List.length s):Int)∧((b1=b1∧0=0)∧1 < Int.toNat (3:Int)∧(∀ (b4:Nat), (((x2.2 (nat_lit 1)).1=(x2.2 1).1∧((x2.2 (nat_lit 1)).2.1)=((x2.2 1).2.1))∧(Nat.beq (partN x2.1 1 3) 0=true→Nat.beq (partN x2.1
      (nat_lit 1) 3) 0=true)∧0=0∧partN x2.1 1 3≤partN x2.1 (nat_lit 1) 3∧((x2.2 1).2.2)≤((x2.2 (nat_lit 1)).2.2)∧(partN x2.1 1 3+1)*1≤140737488355328∧partN x2.1 1 3+1≤9223372036854775807∧1≤1∧(b4=b4∧0=0)∧∀ (b5 b6 b7:Nat), partN x2.1 1 3+1≤b7→b7≤9223372036854775807→(Nat.beq (partN x2.1 (nat_lit 1) 3) 0=true→1=0→b7=0)→0≤v2∧v2 < (↑(Int.toNat (3:Int)):Int)∧((b1=b1∧0=0)∧Int.toNat v2 < Int.toNat (3:Int)∧∀
      (v4:Int), v4=IntKind.i64.wrap ((↑x2.1:Int)+(1:Int))→∃ (x3:Nat × (Nat→Nat × Nat × Nat)), v4=(↑x3.1:Int)∧((b1=b1∧0=0∧false=false∧Int.toNat (3:Int)≤Int.toNat (3:Int)∧Int.toNat (3:Int)≤Int.toNat (3:Int)∧Int.toNat (3:Int)≤Int.toNat (3:Int))∧∀ (i2:Nat), i2 < Int.toNat (3:Int)→eqv (if i2=Int.toNat v2 then SV.slice 401 b5 b6 [] 1 0 (partN x2.1 1 3+1) b7 (Nat.beq (partN x2.1 1 3) 0&&decide (1=0)) else
      SV.slice (400+i2) ((x2.2 i2).1) (((x2.2 i2).2.1)) [] 1 0 (partN x2.1 i2 3) (((x2.2 i2).2.2)) (Nat.beq (partN x2.1 i2 3) 0)) (SV.slice (400+i2) ((x3.2 i2).1) (((x3.2 i2).2.1)) [] 1 0 (partN x3.1 i2 3) (((x3.2 i2).2.2)) (Nat.beq (partN x3.1 i2 3) 0)))∧(((x2.2 (nat_lit 2)).1=(x3.2 (nat_lit 2)).1∧((x2.2 (nat_lit 2)).2.1)=((x3.2 (nat_lit 2)).2.1)∧Nat.beq (partN x2.1 (nat_lit 2) 3) 0=Nat.beq (partN x3.1
      (nat_lit 2) 3) 0∧partN x3.1 (nat_lit 2) 3≤partN x2.1 (nat_lit 2) 3∧partN x3.1 (nat_lit 2) 3≤((x3.2 (nat_lit 2)).2.2)∧((x3.2 (nat_lit 2)).2.2)≤((x2.2 (nat_lit 2)).2.2))∧∀ (i3:Nat), i3 < partN x3.1 (nat_lit 2) 3→(↑(UInt8.toNat (List.getD s (nat_lit 2+i3*3) 0)):Int)=(↑(UInt8.toNat (List.getD s (nat_lit 2+i3*3) 0)):Int))∧((b5=(x3.2 (nat_lit 1)).1∧b6=((x3.2 (nat_lit 1)).2.1)∧(Nat.beq (partN x2.1
      (nat_lit 1) 3) 0&&decide (1=0))=Nat.beq (partN x3.1 (nat_lit 1) 3) 0∧partN x3.1 (nat_lit 1) 3≤partN x2.1 1 3+1∧partN x3.1 (nat_lit 1) 3≤((x3.2 (nat_lit 1)).2.2)∧((x3.2 (nat_lit 1)).2.2)≤b7)∧∀ (i4:Nat), i4 < partN x3.1 (nat_lit 1) 3→(if i4 < partN x2.1 1 3 then (↑(UInt8.toNat (List.getD s (nat_lit 1+i4*3) 0)):Int) else (↑(UInt8.toNat (List.getD s (Int.toNat (↑x2.1:Int)) 0)):Int))=(↑(UInt8.toNat
      (List.getD s (nat_lit 1+i4*3) 0)):Int))∧(((x2.2 (nat_lit 0)).1=(x3.2 (nat_lit 0)).1∧((x2.2 (nat_lit 0)).2.1)=((x3.2 (nat_lit 0)).2.1)∧Nat.beq (partN x2.1 (nat_lit 0) 3) 0=Nat.beq (partN x3.1 (nat_lit 0) 3) 0∧partN x3.1 (nat_lit 0) 3≤partN x2.1 (nat_lit 0) 3∧partN x3.1 (nat_lit 0) 3≤((x3.2 (nat_lit 0)).2.2)∧((x3.2 (nat_lit 0)).2.2)≤((x2.2 (nat_lit 0)).2.2))∧∀ (i5:Nat), i5 < partN x3.1 (nat_lit 0)
      3→(↑(UInt8.toNat (List.getD s (nat_lit 0+i5*3) 0)):Int)=(↑(UInt8.toNat (List.getD s (nat_lit 0+i5*3) 0)):Int))∧(x3.1≤List.length s∧∀ (k2:Nat), k2 < 3→partN x3.1 k2 3≤((x3.2 k2).2.2)∧((x3.2 k2).2.2)≤9223372036854775807∧(partN x3.1 k2 3=0→((x3.2 k2).2.2)=0))∧List.length s - x3.1 < List.length s - x2.1)∧True)∧True)∧True)∧(∀ (b5:Nat), ((b1=b1∧0=0)∧1 < Int.toNat (3:Int)∧(((x2.2 (nat_lit 1)).1=(x2.2
      1).1∧((x2.2 (nat_lit 1)).2.1)=((x2.2 1).2.1))∧(Nat.beq (partN x2.1 1 3) 0=true→Nat.beq (partN x2.1 (nat_lit 1) 3) 0=true)∧0=0∧partN x2.1 1 3≤partN x2.1 (nat_lit 1) 3∧((x2.2 1).2.2)≤((x2.2 (nat_lit 1)).2.2)∧(partN x2.1 1 3+1)*1≤140737488355328∧partN x2.1 1 3+1≤9223372036854775807∧1≤1∧(b5=b5∧0=0)∧∀ (b6 b7 b8:Nat), partN x2.1 1 3+1≤b8→b8≤9223372036854775807→(Nat.beq (partN x2.1 (nat_lit 1) 3)
      0=true→1=0→b8=0)→0≤v2∧v2 < (↑(Int.toNat (3:Int)):Int)∧((b1=b1∧0=0)∧Int.toNat v2 < Int.toNat (3:Int)∧∀ (v4:Int), v4=IntKind.i64.wrap ((↑x2.1:Int)+(1:Int))→∃ (x3:Nat × (Nat→Nat × Nat × Nat)), v4=(↑x3.1:Int)∧((b1=b1∧0=0∧false=false∧Int.toNat (3:Int)≤Int.toNat (3:Int)∧Int.toNat (3:Int)≤Int.toNat (3:Int)∧Int.toNat (3:Int)≤Int.toNat (3:Int))∧∀ (i2:Nat), i2 < Int.toNat (3:Int)→eqv (if i2=Int.toNat v2 then
      SV.slice 401 b6 b7 [] 1 0 (partN x2.1 1 3+1) b8 (Nat.beq (partN x2.1 1 3) 0&&decide (1=0)) else SV.slice (400+i2) ((x2.2 i2).1) (((x2.2 i2).2.1)) [] 1 0 (partN x2.1 i2 3) (((x2.2 i2).2.2)) (Nat.beq (partN x2.1 i2 3) 0)) (SV.slice (400+i2) ((x3.2 i2).1) (((x3.2 i2).2.1)) [] 1 0 (partN x3.1 i2 3) (((x3.2 i2).2.2)) (Nat.beq (partN x3.1 i2 3) 0)))∧(((x2.2 (nat_lit 2)).1=(x3.2 (nat_lit 2)).1∧((x2.2
      (nat_lit 2)).2.1)=((x3.2 (nat_lit 2)).2.1)∧Nat.beq (partN x2.1 (nat_lit 2) 3) 0=Nat.beq (partN x3.1 (nat_lit 2) 3) 0∧partN x3.1 (nat_lit 2) 3≤partN x2.1 (nat_lit 2) 3∧partN x3.1 (nat_lit 2) 3≤((x3.2 (nat_lit 2)).2.2)∧((x3.2 (nat_lit 2)).2.2)≤((x2.2 (nat_lit 2)).2.2))∧∀ (i3:Nat), i3 < partN x3.1 (nat_lit 2) 3→(↑(UInt8.toNat (List.getD s (nat_lit 2+i3*3) 0)):Int)=(↑(UInt8.toNat (List.getD s (nat_lit
      2+i3*3) 0)):Int))∧((b6=(x3.2 (nat_lit 1)).1∧b7=((x3.2 (nat_lit 1)).2.1)∧(Nat.beq (partN x2.1 (nat_lit 1) 3) 0&&decide (1=0))=Nat.beq (partN x3.1 (nat_lit 1) 3) 0∧partN x3.1 (nat_lit 1) 3≤partN x2.1 1 3+1∧partN x3.1 (nat_lit 1) 3≤((x3.2 (nat_lit 1)).2.2)∧((x3.2 (nat_lit 1)).2.2)≤b8)∧∀ (i4:Nat), i4 < partN x3.1 (nat_lit 1) 3→(if i4 < partN x2.1 1 3 then (↑(UInt8.toNat (List.getD s (nat_lit 1+i4*3)
      0)):Int) else (↑(UInt8.toNat (List.getD s (Int.toNat (↑x2.1:Int)) 0)):Int))=(↑(UInt8.toNat (List.getD s (nat_lit 1+i4*3) 0)):Int))∧(((x2.2 (nat_lit 0)).1=(x3.2 (nat_lit 0)).1∧((x2.2 (nat_lit 0)).2.1)=((x3.2 (nat_lit 0)).2.1)∧Nat.beq (partN x2.1 (nat_lit 0) 3) 0=Nat.beq (partN x3.1 (nat_lit 0) 3) 0∧partN x3.1 (nat_lit 0) 3≤partN x2.1 (nat_lit 0) 3∧partN x3.1 (nat_lit 0) 3≤((x3.2 (nat_lit
      0)).2.2)∧((x3.2 (nat_lit 0)).2.2)≤((x2.2 (nat_lit 0)).2.2))∧∀ (i5:Nat), i5 < partN x3.1 (nat_lit 0) 3→(↑(UInt8.toNat (List.getD s (nat_lit 0+i5*3) 0)):Int)=(↑(UInt8.toNat (List.getD s (nat_lit 0+i5*3) 0)):Int))∧(x3.1≤List.length s∧∀ (k2:Nat), k2 < 3→partN x3.1 k2 3≤((x3.2 k2).2.2)∧((x3.2 k2).2.2)≤9223372036854775807∧(partN x3.1 k2 3=0→((x3.2 k2).2.2)=0))∧List.length s - x3.1 < List.length s -
      x2.1)∧True)∧True)∧True)∧True)∧(v3=(2:Int)→(0:Int)≤(2:Int)∧(2:Int) < (↑(Int.toNat (3:Int)):Int)∧(0:Int)≤(↑x2.1:Int)∧(↑x2.1:Int) < (↑(List.length s):Int)∧((b1=b1∧0=0)∧2 < Int.toNat (3:Int)∧(∀ (b6:Nat), (((x2.2 (nat_lit 2)).1=(x2.2 2).1∧((x2.2 (nat_lit 2)).2.1)=((x2.2 2).2.1))∧(Nat.beq (partN x2.1 2 3) 0=true→Nat.beq (partN x2.1 (nat_lit 2) 3) 0=true)∧0=0∧partN x2.1 2 3≤partN x2.1 (nat_lit 2) 3∧((x2.2
      2).2.2)≤((x2.2 (nat_lit 2)).2.2)∧(partN x2.1 2 3+1)*1≤140737488355328∧partN x2.1 2 3+1≤9223372036854775807∧1≤1∧(b6=b6∧0=0)∧∀ (b7 b8 b9:Nat), partN x2.1 2 3+1≤b9→b9≤9223372036854775807→(Nat.beq (partN x2.1 (nat_lit 2) 3) 0=true→1=0→b9=0)→0≤v2∧v2 < (↑(Int.toNat (3:Int)):Int)∧((b1=b1∧0=0)∧Int.toNat v2 < Int.toNat (3:Int)∧∀ (v4:Int), v4=IntKind.i64.wrap ((↑x2.1:Int)+(1:Int))→∃ (x3:Nat × (Nat→Nat × Nat
      × Nat)), v4=(↑x3.1:Int)∧((b1=b1∧0=0∧false=false∧Int.toNat (3:Int)≤Int.toNat (3:Int)∧Int.toNat (3:Int)≤Int.toNat (3:Int)∧Int.toNat (3:Int)≤Int.toNat (3:Int))∧∀ (i2:Nat), i2 < Int.toNat (3:Int)→eqv (if i2=Int.toNat v2 then SV.slice 402 b7 b8 [] 1 0 (partN x2.1 2 3+1) b9 (Nat.beq (partN x2.1 2 3) 0&&decide (1=0)) else SV.slice (400+i2) ((x2.2 i2).1) (((x2.2 i2).2.1)) [] 1 0 (partN x2.1 i2 3) (((x2.2
      i2).2.2)) (Nat.beq (partN x2.1 i2 3) 0)) (SV.slice (400+i2) ((x3.2 i2).1) (((x3.2 i2).2.1)) [] 1 0 (partN x3.1 i2 3) (((x3.2 i2).2.2)) (Nat.beq (partN x3.1 i2 3) 0)))∧((b7=(x3.2 (nat_lit 2)).1∧b8=((x3.2 (nat_lit 2)).2.1)∧(Nat.beq (partN x2.1 (nat_lit 2) 3) 0&&decide (1=0))=Nat.beq (partN x3.1 (nat_lit 2) 3) 0∧partN x3.1 (nat_lit 2) 3≤partN x2.1 2 3+1∧partN x3.1 (nat_lit 2) 3≤((x3.2 (nat_lit
      2)).2.2)∧((x3.2 (nat_lit 2)).2.2)≤b9)∧∀ (i3:Nat), i3 < partN x3.1 (nat_lit 2) 3→(if i3 < partN x2.1 2 3 then (↑(UInt8.toNat (List.getD s (nat_lit 2+i3*3) 0)):Int) else (↑(UInt8.toNat (List.getD s (Int.toNat (↑x2.1:Int)) 0)):Int))=(↑(UInt8.toNat (List.getD s (nat_lit 2+i3*3) 0)):Int))∧(((x2.2 (nat_lit 1)).1=(x3.2 (nat_lit 1)).1∧((x2.2 (nat_lit 1)).2.1)=((x3.2 (nat_lit 1)).2.1)∧Nat.beq (partN x2.1
      (nat_lit 1) 3) 0=Nat.beq (partN x3.1 (nat_lit 1) 3) 0∧partN x3.1 (nat_lit 1) 3≤partN x2.1 (nat_lit 1) 3∧partN x3.1 (nat_lit 1) 3≤((x3.2 (nat_lit 1)).2.2)∧((x3.2 (nat_lit 1)).2.2)≤((x2.2 (nat_lit 1)).2.2))∧∀ (i4:Nat), i4 < partN x3.1 (nat_lit 1) 3→(↑(UInt8.toNat (List.getD s (nat_lit 1+i4*3) 0)):Int)=(↑(UInt8.toNat (List.getD s (nat_lit 1+i4*3) 0)):Int))∧(((x2.2 (nat_lit 0)).1=(x3.2 (nat_lit
      0)).1∧((x2.2 (nat_lit 0)).2.1)=((x3.2 (nat_lit 0)).2.1)∧Nat.beq (partN x2.1 (nat_lit 0) 3) 0=Nat.beq (partN x3.1 (nat_lit 0) 3) 0∧partN x3.1 (nat_lit 0) 3≤partN x2.1 (nat_lit 0) 3∧partN x3.1 (nat_lit 0) 3≤((x3.2 (nat_lit 0)).2.2)∧((x3.2 (nat_lit 0)).2.2)≤((x2.2 (nat_lit 0)).2.2))∧∀ (i5:Nat), i5 < partN x3.1 (nat_lit 0) 3→(↑(UInt8.toNat (List.getD s (nat_lit 0+i5*3) 0)):Int)=(↑(UInt8.toNat
      (List.getD s (nat_lit 0+i5*3) 0)):Int))∧(x3.1≤List.length s∧∀ (k2:Nat), k2 < 3→partN x3.1 k2 3≤((x3.2 k2).2.2)∧((x3.2 k2).2.2)≤9223372036854775807∧(partN x3.1 k2 3=0→((x3.2 k2).2.2)=0))∧List.length s - x3.1 < List.length s - x2.1)∧True)∧True)∧True)∧(∀ (b7:Nat), ((b1=b1∧0=0)∧2 < Int.toNat (3:Int)∧(((x2.2 (nat_lit 2)).1=(x2.2 2).1∧((x2.2 (nat_lit 2)).2.1)=((x2.2 2).2.1))∧(Nat.beq (partN x2.1 2 3)
      0=true→Nat.beq (partN x2.1 (nat_lit 2) 3) 0=true)∧0=0∧partN x2.1 2 3≤partN x2.1 (nat_lit 2) 3∧((x2.2 2).2.2)≤((x2.2 (nat_lit 2)).2.2)∧(partN x2.1 2 3+1)*1≤140737488355328∧partN x2.1 2 3+1≤9223372036854775807∧1≤1∧(b7=b7∧0=0)∧∀ (b8 b9 b10:Nat), partN x2.1 2 3+1≤b10→b10≤9223372036854775807→(Nat.beq (partN x2.1 (nat_lit 2) 3) 0=true→1=0→b10=0)→0≤v2∧v2 < (↑(Int.toNat (3:Int)):Int)∧((b1=b1∧0=0)∧Int.toNat
      v2 < Int.toNat (3:Int)∧∀ (v4:Int), v4=IntKind.i64.wrap ((↑x2.1:Int)+(1:Int))→∃ (x3:Nat × (Nat→Nat × Nat × Nat)), v4=(↑x3.1:Int)∧((b1=b1∧0=0∧false=false∧Int.toNat (3:Int)≤Int.toNat (3:Int)∧Int.toNat (3:Int)≤Int.toNat (3:Int)∧Int.toNat (3:Int)≤Int.toNat (3:Int))∧∀ (i2:Nat), i2 < Int.toNat (3:Int)→eqv (if i2=Int.toNat v2 then SV.slice 402 b8 b9 [] 1 0 (partN x2.1 2 3+1) b10 (Nat.beq (partN x2.1 2 3)
      0&&decide (1=0)) else SV.slice (400+i2) ((x2.2 i2).1) (((x2.2 i2).2.1)) [] 1 0 (partN x2.1 i2 3) (((x2.2 i2).2.2)) (Nat.beq (partN x2.1 i2 3) 0)) (SV.slice (400+i2) ((x3.2 i2).1) (((x3.2 i2).2.1)) [] 1 0 (partN x3.1 i2 3) (((x3.2 i2).2.2)) (Nat.beq (partN x3.1 i2 3) 0)))∧((b8=(x3.2 (nat_lit 2)).1∧b9=((x3.2 (nat_lit 2)).2.1)∧(Nat.beq (partN x2.1 (nat_lit 2) 3) 0&&decide (1=0))=Nat.beq (partN x3.1
      (nat_lit 2) 3) 0∧partN x3.1 (nat_lit 2) 3≤partN x2.1 2 3+1∧partN x3.1 (nat_lit 2) 3≤((x3.2 (nat_lit 2)).2.2)∧((x3.2 (nat_lit 2)).2.2)≤b10)∧∀ (i3:Nat), i3 < partN x3.1 (nat_lit 2) 3→(if i3 < partN x2.1 2 3 then (↑(UInt8.toNat (List.getD s (nat_lit 2+i3*3) 0)):Int) else (↑(UInt8.toNat (List.getD s (Int.toNat (↑x2.1:Int)) 0)):Int))=(↑(UInt8.toNat (List.getD s (nat_lit 2+i3*3) 0)):Int))∧(((x2.2
      (nat_lit 1)).1=(x3.2 (nat_lit 1)).1∧((x2.2 (nat_lit 1)).2.1)=((x3.2 (nat_lit 1)).2.1)∧Nat.beq (partN x2.1 (nat_lit 1) 3) 0=Nat.beq (partN x3.1 (nat_lit 1) 3) 0∧partN x3.1 (nat_lit 1) 3≤partN x2.1 (nat_lit 1) 3∧partN x3.1 (nat_lit 1) 3≤((x3.2 (nat_lit 1)).2.2)∧((x3.2 (nat_lit 1)).2.2)≤((x2.2 (nat_lit 1)).2.2))∧∀ (i4:Nat), i4 < partN x3.1 (nat_lit 1) 3→(↑(UInt8.toNat (List.getD s (nat_lit 1+i4*3)
      0)):Int)=(↑(UInt8.toNat (List.getD s (nat_lit 1+i4*3) 0)):Int))∧(((x2.2 (nat_lit 0)).1=(x3.2 (nat_lit 0)).1∧((x2.2 (nat_lit 0)).2.1)=((x3.2 (nat_lit 0)).2.1)∧Nat.beq (partN x2.1 (nat_lit 0) 3) 0=Nat.beq (partN x3.1 (nat_lit 0) 3) 0∧partN x3.1 (nat_lit 0) 3≤partN x2.1 (nat_lit 0) 3∧partN x3.1 (nat_lit 0) 3≤((x3.2 (nat_lit 0)).2.2)∧((x3.2 (nat_lit 0)).2.2)≤((x2.2 (nat_lit 0)).2.2))∧∀ (i5:Nat), i5 <
      partN x3.1 (nat_lit 0) 3→(↑(UInt8.toNat (List.getD s (nat_lit 0+i5*3) 0)):Int)=(↑(UInt8.toNat (List.getD s (nat_lit 0+i5*3) 0)):Int))∧(x3.1≤List.length s∧∀ (k2:Nat), k2 < 3→partN x3.1 k2 3≤((x3.2 k2).2.2)∧((x3.2 k2).2.2)≤9223372036854775807∧(partN x3.1 k2 3=0→((x3.2 k2).2.2)=0))∧List.length s - x3.1 < List.length s - x2.1)∧True)∧True)∧True)∧True)∧True)∧(decide ((↑x2.1:Int) < v1)=false→∃ (x3:(Nat ×
      Nat) × (Nat→Nat × Nat × Nat)), (b1=x3.1.1∧0=x3.1.2∧0=0∧Int.toNat (3:Int)=3∧Int.toNat (3:Int)=3∧false=false)∧((b1=x3.1.1∧0=x3.1.2∧false=false∧3≤Int.toNat (3:Int)∧3≤3∧3≤Int.toNat (3:Int))∧∀ (i2:Nat), i2 < 3→SVeq (SV.slice (400+i2) ((x2.2 i2).1) (((x2.2 i2).2.1)) [] 1 0 (partN x2.1 i2 3) (((x2.2 i2).2.2)) (Nat.beq (partN x2.1 i2 3) 0)) (SV.slice 1 ((x3.2 i2).1) (((x3.2 i2).2.1)) [PS.elt i2 0] 1 0
      (partN (List.length s) i2 3) (((x3.2 i2).2.2)) false))∧(∀ (i3:Nat), i3 < 3→(Nat.beq (partN x2.1 (nat_lit 2) 3) 0=false∧((x2.2 (nat_lit 2)).1, ((x2.2 (nat_lit 2)).2.1))=((x3.2 i3).1, ((x3.2 i3).2.1))∧partN x2.1 (nat_lit 2) 3=partN (List.length s) i3 3∧∀ (k2:Nat), k2 < partN x2.1 (nat_lit 2) 3→(↑(UInt8.toNat (List.getD s (nat_lit 2+k2*3) 0)):Int)=(↑(UInt8.toNat (List.getD s (i3+k2*3)
      0)):Int))∨(Nat.beq (partN x2.1 (nat_lit 1) 3) 0=false∧((x2.2 (nat_lit 1)).1, ((x2.2 (nat_lit 1)).2.1))=((x3.2 i3).1, ((x3.2 i3).2.1))∧partN x2.1 (nat_lit 1) 3=partN (List.length s) i3 3∧∀ (k3:Nat), k3 < partN x2.1 (nat_lit 1) 3→(↑(UInt8.toNat (List.getD s (nat_lit 1+k3*3) 0)):Int)=(↑(UInt8.toNat (List.getD s (i3+k3*3) 0)):Int))∨Nat.beq (partN x2.1 (nat_lit 0) 3) 0=false∧((x2.2 (nat_lit 0)).1,
      ((x2.2 (nat_lit 0)).2.1))=((x3.2 i3).1, ((x3.2 i3).2.1))∧partN x2.1 (nat_lit 0) 3=partN (List.length s) i3 3∧∀ (k4:Nat), k4 < partN x2.1 (nat_lit 0) 3→(↑(UInt8.toNat (List.getD s (nat_lit 0+k4*3) 0)):Int)=(↑(UInt8.toNat (List.getD s (i3+k4*3) 0)):Int))∧∀ (k2:Nat), k2 < 3→partN (List.length s) k2 3≤((x3.2 k2).2.2)∧((x3.2 k2).2.2)≤9223372036854775807)) (by kernel_rfl) ?_
  try simp only [eq_self, true_and, and_true, Nat.le_refl, implies_true, forall_const, Bool.false_eq_true, Bool.true_eq_false, reduceCtorEq, false_imp_iff, true_imp_iff, Int.toNat_zero, Int.toNat_natCast, Nat.zero_lt_one, Int.le_refl, allGet]
  refine ⟨by decide, by decide, by decide, fun b1 v1 hv1 => ⟨?_, ?_⟩⟩
  · refine ⟨(0, fun _ => (0, 0, 0)), ?_⟩
    dsimp only
    simp only [fun j => partN_zero j 3 (by omega)]
    and_intros
    all_goals try (first | rfl | omega | exact fun k hk => nil_eqv rfl rfl rfl | trivial | exact fun k hk => ⟨Nat.le_refl _, by omega, fun _ => trivial⟩)
  · rintro x ⟨hx, hp⟩
    have f0 := hp 0 (by omega)
    have f1 := hp 1 (by omega)
    have f2 := hp 2 (by omega)
    refine ⟨fun ht => ?_, fun ht => ?_⟩
    · have hlt : x.1 < s.length := by
        have := of_decide_eq_true ht
        omega
      refine ⟨by decide, fun v2 hv2 => ⟨by decide, fun v3 hv3' => ⟨?_, ?_, ?_, ?_⟩⟩⟩
      · have h := Int.ofNat_tmod x.1 3
        have h2 : ((3 : Nat) : Int) = 3 := rfl
        rw [h2] at h
        have := Nat.mod_lt x.1 (y := 3) (by omega)
        omega
      · intro hv3
        have hm : x.1 % 3 = 0 := by
          have h := Int.ofNat_tmod x.1 3
          have h2 : ((3 : Nat) : Int) = 3 := rfl
          rw [h2] at h
          omega
        have hv2' : v2.toNat = 0 := by omega
        have hh := partN_hit (by omega) hm
        have q1 : partN (x.1 + 1) 1 3 = partN x.1 1 3 := partN_miss (by omega) (by omega) (by omega)
        have q2 : partN (x.1 + 1) 2 3 = partN x.1 2 3 := partN_miss (by omega) (by omega) (by omega)
        and_intros
        all_goals try (first | decide | omega | exact fun h => h)
        all_goals
          intro b3 b4 b5 hb hb'
          and_intros
          all_goals try (first | decide | omega)
          intro v4 hv4
          refine ⟨(x.1 + 1, fun k => if k = 0 then (b3, b4, b5) else x.2 k), ?_⟩
          rw [hv2']
          dsimp only
          simp only [q1, q2, hh.2]
          refine ⟨by rw [hv4, w64_id (by omega) (by omega)]; omega, fun k hk => ?_, ?_⟩
          · have e := pt_eqv (P := x.2) (b := b3) (o := b4) (cap := b5) (by omega) hm hk (z := ((partN x.1 0 3).beq 0 && decide False)) (by simp)
            exact e
          and_intros
          all_goals try (first | rfl | omega | exact pt_row (by omega) hm | exact pt_beq _ | (simp; done) | (simp; omega))
          intro k hk
          have hk0 : k = 0 ∨ k = 1 ∨ k = 2 := by omega
          rcases hk0 with rfl | rfl | rfl
          all_goals
            simp only [q1, q2, hh.2]
            simp
            omega
      · intro hv3
        have hm : x.1 % 3 = 1 := by
          have h := Int.ofNat_tmod x.1 3
          have h2 : ((3 : Nat) : Int) = 3 := rfl
          rw [h2] at h
          omega
        have hv2' : v2.toNat = 1 := by omega
        have hh := partN_hit (by omega) hm
        have q0 : partN (x.1 + 1) 0 3 = partN x.1 0 3 := partN_miss (by omega) (by omega) (by omega)
        have q2 : partN (x.1 + 1) 2 3 = partN x.1 2 3 := partN_miss (by omega) (by omega) (by omega)
        and_intros
        all_goals try (first | decide | omega | exact fun h => h)
        all_goals
          intro b3 b4 b5 hb hb'
          and_intros
          all_goals try (first | decide | omega)
          intro v4 hv4
          refine ⟨(x.1 + 1, fun k => if k = 1 then (b3, b4, b5) else x.2 k), ?_⟩
          rw [hv2']
          dsimp only
          simp only [q0, q2, hh.2]
          refine ⟨by rw [hv4, w64_id (by omega) (by omega)]; omega, fun k hk => ?_, ?_⟩
          · have e := pt_eqv (P := x.2) (b := b3) (o := b4) (cap := b5) (by omega) hm hk (z := ((partN x.1 1 3).beq 0 && decide False)) (by simp)
            exact e
          and_intros
          all_goals try (first | rfl | omega | exact pt_row (by omega) hm | exact pt_beq _ | (simp; done) | (simp; omega))
          intro k hk
          have hk0 : k = 0 ∨ k = 1 ∨ k = 2 := by omega
          rcases hk0 with rfl | rfl | rfl
          all_goals
            simp only [q0, q2, hh.2]
            simp
            omega
      · intro hv3
        have hm : x.1 % 3 = 2 := by
          have h := Int.ofNat_tmod x.1 3
          have h2 : ((3 : Nat) : Int) = 3 := rfl
          rw [h2] at h
          omega
        have hv2' : v2.toNat = 2 := by omega
        have hh := partN_hit (by omega) hm
        have q0 : partN (x.1 + 1) 0 3 = partN x.1 0 3 := partN_miss (by omega) (by omega) (by omega)
        have q1 : partN (x.1 + 1) 1 3 = partN x.1 1 3 := partN_miss (by omega) (by omega) (by omega)
        and_intros
        all_goals try (first | decide | omega | exact fun h => h)
        all_goals
          intro b3 b4 b5 hb hb'
          and_intros
          all_goals try (first | decide | omega)
          intro v4 hv4
          refine ⟨(x.1 + 1, fun k => if k = 2 then (b3, b4, b5) else x.2 k), ?_⟩
          rw [hv2']
          dsimp only
          simp only [q0, q1, hh.2]
          refine ⟨by rw [hv4, w64_id (by omega) (by omega)]; omega, fun k hk => ?_, ?_⟩
          · have e := pt_eqv (P := x.2) (b := b3) (o := b4) (cap := b5) (by omega) hm hk (z := ((partN x.1 2 3).beq 0 && decide False)) (by simp)
            exact e
          and_intros
          all_goals try (first | rfl | omega | exact pt_row (by omega) hm | exact pt_beq _ | (simp; done) | (simp; omega))
          intro k hk
          have hk0 : k = 0 ∨ k = 1 ∨ k = 2 := by omega
          rcases hk0 with rfl | rfl | rfl
          all_goals
            simp only [q0, q1, hh.2]
            simp
            omega
    · have he : x.1 = s.length := by
        have := of_decide_eq_false ht
        omega
      have hb : ∀ k, k < 3 → Nat.beq (partN s.length k 3) 0 = false := fun k hk => by
        have := partN_pos (n := s.length) (j := k) (d := 3) (by omega) (by omega)
        cases h : partN s.length k 3 with
        | zero => omega
        | succ m => rfl
      rw [he] at hp ⊢
      refine ⟨((b1, 0), x.2), ⟨rfl, rfl, rfl, rfl⟩, ⟨⟨rfl, rfl, by decide, by decide⟩, fun k hk => fam_sveq (hb k hk)⟩, ?_, fun k hk => ⟨(hp k hk).1, (hp k hk).2.1⟩⟩
      · intro k hk
        have hk0 : k = 0 ∨ k = 1 ∨ k = 2 := by omega
        rcases hk0 with rfl | rfl | rfl
        all_goals
          repeat (first | exact ⟨hb _ (by omega), rfl, rfl, fun _ _ => rfl⟩ | (left; exact ⟨hb _ (by omega), rfl, rfl, fun _ _ => rfl⟩) | right)
theorem parts_walk4 (s : List UInt8) (hs : 4 ≤ s.length) (hl : s.length ≤ 100000) :
    exCode E0 Tryz.f79.ntmps (partsA s 4 [0, 1, 2, 3]) (bodyOf Tryz.f79) (argFr 0 (aStrI.svs 0 (s, 4, ()))) (aStrI.hp 0 (s, 4, ())) aStrI.tags
      (atEnd E0 Tryz.f79.results.toList fun r H' _ => ∃ y : (Nat × Nat) × PD, ends r H' (.slice 0 y.1.1 y.1.2 [] 1 0 4 4 false) [ptRow 0 1 s.length 4 y.1 y.2, ptFam 1 s 4 y.2] [] (∀ k, k < 4 → partN s.length k 4 ≤ (y.2 k).2.2 ∧ (y.2 k).2.2 ≤ 9223372036854775807)) := by
  refine vc_of (q :=
      (0:Int)≤(4:Int)∧(4:Int)≤(4:Int)∧(4:Int)*(↑(24:Nat):Int)≤(140737488355328:Int)∧(4:Int)≤(9223372036854775807:Int)∧∀ (b1:Nat) (v1:Int), v1=(↑(List.length s):Int)→(∃ (x1:Nat × (Nat→Nat × Nat × Nat)), (0:Int)=(↑x1.1:Int)∧((b1=b1∧0=0∧false=false∧Int.toNat (4:Int)≤Int.toNat (4:Int)∧Int.toNat (4:Int)≤Int.toNat (4:Int)∧Int.toNat (4:Int)≤Int.toNat (4:Int))∧∀ (i1:Nat), i1 < Int.toNat (4:Int)→SVeq (SV.slice
      999999 0 0 [] 0 0 0 0 true) (SV.slice (400+i1) ((x1.2 i1).1) (((x1.2 i1).2.1)) [] 1 0 (partN x1.1 i1 4) (((x1.2 i1).2.2)) (Nat.beq (partN x1.1 i1 4) 0)))∧(Nat.beq (partN x1.1 (nat_lit 3) 4) 0=true∧partN x1.1 (nat_lit 3) 4=0∧((x1.2 (nat_lit 3)).2.2)=0)∧(Nat.beq (partN x1.1 (nat_lit 2) 4) 0=true∧partN x1.1 (nat_lit 2) 4=0∧((x1.2 (nat_lit 2)).2.2)=0)∧(Nat.beq (partN x1.1 (nat_lit 1) 4) 0=true∧partN
      x1.1 (nat_lit 1) 4=0∧((x1.2 (nat_lit 1)).2.2)=0)∧(Nat.beq (partN x1.1 (nat_lit 0) 4) 0=true∧partN x1.1 (nat_lit 0) 4=0∧((x1.2 (nat_lit 0)).2.2)=0)∧x1.1≤List.length s∧∀ (k1:Nat), k1 < 4→partN x1.1 k1 4≤((x1.2 k1).2.2)∧((x1.2 k1).2.2)≤9223372036854775807∧(partN x1.1 k1 4=0→((x1.2 k1).2.2)=0))∧∀ (x2:Nat × (Nat→Nat × Nat × Nat)), (x2.1≤List.length s∧∀ (k:Nat), k < 4→partN x2.1 k 4≤((x2.2 k).2.2)∧((x2.2
      k).2.2)≤9223372036854775807∧(partN x2.1 k 4=0→((x2.2 k).2.2)=0))→(decide ((↑x2.1:Int) < v1)=true→(4:Int)≠(0:Int)∧∀ (v2:Int), v2=Int.tmod (↑x2.1:Int) (4:Int)→(4:Int)≠(0:Int)∧∀ (v3:Int), v3=Int.tmod (↑x2.1:Int) (4:Int)→(v3=(0:Int)∨v3=1∨v3=2∨v3=3)∧(v3=(0:Int)→(0:Int)≤(0:Int)∧(0:Int) < (↑(Int.toNat (4:Int)):Int)∧(0:Int)≤(↑x2.1:Int)∧(↑x2.1:Int) < (↑(List.length s):Int)∧((b1=b1∧0=0)∧0 < Int.toNat
      (4:Int)∧(∀ (b2:Nat), (((x2.2 (nat_lit 0)).1=(x2.2 0).1∧((x2.2 (nat_lit 0)).2.1)=((x2.2 0).2.1))∧(Nat.beq (partN x2.1 0 4) 0=true→Nat.beq (partN x2.1 (nat_lit 0) 4) 0=true)∧0=0∧partN x2.1 0 4≤partN x2.1 (nat_lit 0) 4∧((x2.2 0).2.2)≤((x2.2 (nat_lit 0)).2.2)∧(partN x2.1 0 4+1)*1≤140737488355328∧partN x2.1 0 4+1≤9223372036854775807∧1≤1∧(b2=b2∧0=0)∧∀ (b3 b4 b5:Nat), partN x2.1 0
      4+1≤b5→b5≤9223372036854775807→(Nat.beq (partN x2.1 (nat_lit 0) 4) 0=true→1=0→b5=0)→0≤v2∧v2 < (↑(Int.toNat (4:Int)):Int)∧((b1=b1∧0=0)∧Int.toNat v2 < Int.toNat (4:Int)∧∀ (v4:Int), v4=IntKind.i64.wrap ((↑x2.1:Int)+(1:Int))→∃ (x3:Nat × (Nat→Nat × Nat × Nat)), v4=(↑x3.1:Int)∧((b1=b1∧0=0∧false=false∧Int.toNat (4:Int)≤Int.toNat (4:Int)∧Int.toNat (4:Int)≤Int.toNat (4:Int)∧Int.toNat (4:Int)≤Int.toNat
      (4:Int))∧∀ (i2:Nat), i2 < Int.toNat (4:Int)→eqv (if i2=Int.toNat v2 then SV.slice 400 b3 b4 [] 1 0 (partN x2.1 0 4+1) b5 (Nat.beq (partN x2.1 0 4) 0&&decide (1=0)) else SV.slice (400+i2) ((x2.2 i2).1) (((x2.2 i2).2.1)) [] 1 0 (partN x2.1 i2 4) (((x2.2 i2).2.2)) (Nat.beq (partN x2.1 i2 4) 0)) (SV.slice (400+i2) ((x3.2 i2).1) (((x3.2 i2).2.1)) [] 1 0 (partN x3.1 i2 4) (((x3.2 i2).2.2)) (Nat.beq
      (partN x3.1 i2 4) 0)))∧(((x2.2 (nat_lit 3)).1=(x3.2 (nat_lit 3)).1∧((x2.2 (nat_lit 3)).2.1)=((x3.2 (nat_lit 3)).2.1)∧Nat.beq (partN x2.1 (nat_lit 3) 4) 0=Nat.beq (partN x3.1 (nat_lit 3) 4) 0∧partN x3.1 (nat_lit 3) 4≤partN x2.1 (nat_lit 3) 4∧partN x3.1 (nat_lit 3) 4≤((x3.2 (nat_lit 3)).2.2)∧((x3.2 (nat_lit 3)).2.2)≤((x2.2 (nat_lit 3)).2.2))∧∀ (i3:Nat), i3 < partN x3.1 (nat_lit 3) 4→(↑(UInt8.toNat
      (List.getD s (nat_lit 3+i3*4) 0)):Int)=(↑(UInt8.toNat (List.getD s (nat_lit 3+i3*4) 0)):Int))∧(((x2.2 (nat_lit 2)).1=(x3.2 (nat_lit 2)).1∧((x2.2 (nat_lit 2)).2.1)=((x3.2 (nat_lit 2)).2.1)∧Nat.beq (partN x2.1 (nat_lit 2) 4) 0=Nat.beq (partN x3.1 (nat_lit 2) 4) 0∧partN x3.1 (nat_lit 2) 4≤partN x2.1 (nat_lit 2) 4∧partN x3.1 (nat_lit 2) 4≤((x3.2 (nat_lit 2)).2.2)∧((x3.2 (nat_lit 2)).2.2)≤((x2.2
      (nat_lit 2)).2.2))∧∀ (i4:Nat), i4 < partN x3.1 (nat_lit 2) 4→(↑(UInt8.toNat (List.getD s (nat_lit 2+i4*4) 0)):Int)=(↑(UInt8.toNat (List.getD s (nat_lit 2+i4*4) 0)):Int))∧(((x2.2 (nat_lit 1)).1=(x3.2 (nat_lit 1)).1∧((x2.2 (nat_lit 1)).2.1)=((x3.2 (nat_lit 1)).2.1)∧Nat.beq (partN x2.1 (nat_lit 1) 4) 0=Nat.beq (partN x3.1 (nat_lit 1) 4) 0∧partN x3.1 (nat_lit 1) 4≤partN x2.1 (nat_lit 1) 4∧partN x3.1
      (nat_lit 1) 4≤((x3.2 (nat_lit 1)).2.2)∧((x3.2 (nat_lit 1)).2.2)≤((x2.2 (nat_lit 1)).2.2))∧∀ (i5:Nat), i5 < partN x3.1 (nat_lit 1) 4→(↑(UInt8.toNat (List.getD s (nat_lit 1+i5*4) 0)):Int)=(↑(UInt8.toNat (List.getD s (nat_lit 1+i5*4) 0)):Int))∧((b3=(x3.2 (nat_lit 0)).1∧b4=((x3.2 (nat_lit 0)).2.1)∧(Nat.beq (partN x2.1 (nat_lit 0) 4) 0&&decide (1=0))=Nat.beq (partN x3.1 (nat_lit 0) 4) 0∧partN x3.1
      (nat_lit 0) 4≤partN x2.1 0 4+1∧partN x3.1 (nat_lit 0) 4≤((x3.2 (nat_lit 0)).2.2)∧((x3.2 (nat_lit 0)).2.2)≤b5)∧∀ (i6:Nat), i6 < partN x3.1 (nat_lit 0) 4→(if i6 < partN x2.1 0 4 then (↑(UInt8.toNat (List.getD s (nat_lit 0+i6*4) 0)):Int) else (↑(UInt8.toNat (List.getD s (Int.toNat (↑x2.1:Int)) 0)):Int))=(↑(UInt8.toNat (List.getD s (nat_lit 0+i6*4) 0)):Int))∧(x3.1≤List.length s∧∀ (k2:Nat), k2 < 4→partN
      x3.1 k2 4≤((x3.2 k2).2.2)∧((x3.2 k2).2.2)≤9223372036854775807∧(partN x3.1 k2 4=0→((x3.2 k2).2.2)=0))∧List.length s - x3.1 < List.length s - x2.1)∧True)∧True)∧True)∧(∀ (b3:Nat), ((b1=b1∧0=0)∧0 < Int.toNat (4:Int)∧(((x2.2 (nat_lit 0)).1=(x2.2 0).1∧((x2.2 (nat_lit 0)).2.1)=((x2.2 0).2.1))∧(Nat.beq (partN x2.1 0 4) 0=true→Nat.beq (partN x2.1 (nat_lit 0) 4) 0=true)∧0=0∧partN x2.1 0 4≤partN x2.1 (nat_lit
      0) 4∧((x2.2 0).2.2)≤((x2.2 (nat_lit 0)).2.2)∧(partN x2.1 0 4+1)*1≤140737488355328∧partN x2.1 0 4+1≤9223372036854775807∧1≤1∧(b3=b3∧0=0)∧∀ (b4 b5 b6:Nat), partN x2.1 0 4+1≤b6→b6≤9223372036854775807→(Nat.beq (partN x2.1 (nat_lit 0) 4) 0=true→1=0→b6=0)→0≤v2∧v2 < (↑(Int.toNat (4:Int)):Int)∧((b1=b1∧0=0)∧Int.toNat v2 < Int.toNat (4:Int)∧∀ (v4:Int), v4=IntKind.i64.wrap ((↑x2.1:Int)+(1:Int))→∃ (x3:Nat ×
      (Nat→Nat × Nat × Nat)), v4=(↑x3.1:Int)∧((b1=b1∧0=0∧false=false∧Int.toNat (4:Int)≤Int.toNat (4:Int)∧Int.toNat (4:Int)≤Int.toNat (4:Int)∧Int.toNat (4:Int)≤Int.toNat (4:Int))∧∀ (i2:Nat), i2 < Int.toNat (4:Int)→eqv (if i2=Int.toNat v2 then SV.slice 400 b4 b5 [] 1 0 (partN x2.1 0 4+1) b6 (Nat.beq (partN x2.1 0 4) 0&&decide (1=0)) else SV.slice (400+i2) ((x2.2 i2).1) (((x2.2 i2).2.1)) [] 1 0 (partN x2.1
      i2 4) (((x2.2 i2).2.2)) (Nat.beq (partN x2.1 i2 4) 0)) (SV.slice (400+i2) ((x3.2 i2).1) (((x3.2 i2).2.1)) [] 1 0 (partN x3.1 i2 4) (((x3.2 i2).2.2)) (Nat.beq (partN x3.1 i2 4) 0)))∧(((x2.2 (nat_lit 3)).1=(x3.2 (nat_lit 3)).1∧((x2.2 (nat_lit 3)).2.1)=((x3.2 (nat_lit 3)).2.1)∧Nat.beq (partN x2.1 (nat_lit 3) 4) 0=Nat.beq (partN x3.1 (nat_lit 3) 4) 0∧partN x3.1 (nat_lit 3) 4≤partN x2.1 (nat_lit 3)
      4∧partN x3.1 (nat_lit 3) 4≤((x3.2 (nat_lit 3)).2.2)∧((x3.2 (nat_lit 3)).2.2)≤((x2.2 (nat_lit 3)).2.2))∧∀ (i3:Nat), i3 < partN x3.1 (nat_lit 3) 4→(↑(UInt8.toNat (List.getD s (nat_lit 3+i3*4) 0)):Int)=(↑(UInt8.toNat (List.getD s (nat_lit 3+i3*4) 0)):Int))∧(((x2.2 (nat_lit 2)).1=(x3.2 (nat_lit 2)).1∧((x2.2 (nat_lit 2)).2.1)=((x3.2 (nat_lit 2)).2.1)∧Nat.beq (partN x2.1 (nat_lit 2) 4) 0=Nat.beq (partN
      x3.1 (nat_lit 2) 4) 0∧partN x3.1 (nat_lit 2) 4≤partN x2.1 (nat_lit 2) 4∧partN x3.1 (nat_lit 2) 4≤((x3.2 (nat_lit 2)).2.2)∧((x3.2 (nat_lit 2)).2.2)≤((x2.2 (nat_lit 2)).2.2))∧∀ (i4:Nat), i4 < partN x3.1 (nat_lit 2) 4→(↑(UInt8.toNat (List.getD s (nat_lit 2+i4*4) 0)):Int)=(↑(UInt8.toNat (List.getD s (nat_lit 2+i4*4) 0)):Int))∧(((x2.2 (nat_lit 1)).1=(x3.2 (nat_lit 1)).1∧((x2.2 (nat_lit 1)).2.1)=((x3.2
      (nat_lit 1)).2.1)∧Nat.beq (partN x2.1 (nat_lit 1) 4) 0=Nat.beq (partN x3.1 (nat_lit 1) 4) 0∧partN x3.1 (nat_lit 1) 4≤partN x2.1 (nat_lit 1) 4∧partN x3.1 (nat_lit 1) 4≤((x3.2 (nat_lit 1)).2.2)∧((x3.2 (nat_lit 1)).2.2)≤((x2.2 (nat_lit 1)).2.2))∧∀ (i5:Nat), i5 < partN x3.1 (nat_lit 1) 4→(↑(UInt8.toNat (List.getD s (nat_lit 1+i5*4) 0)):Int)=(↑(UInt8.toNat (List.getD s (nat_lit 1+i5*4)
      0)):Int))∧((b4=(x3.2 (nat_lit 0)).1∧b5=((x3.2 (nat_lit 0)).2.1)∧(Nat.beq (partN x2.1 (nat_lit 0) 4) 0&&decide (1=0))=Nat.beq (partN x3.1 (nat_lit 0) 4) 0∧partN x3.1 (nat_lit 0) 4≤partN x2.1 0 4+1∧partN x3.1 (nat_lit 0) 4≤((x3.2 (nat_lit 0)).2.2)∧((x3.2 (nat_lit 0)).2.2)≤b6)∧∀ (i6:Nat), i6 < partN x3.1 (nat_lit 0) 4→(if i6 < partN x2.1 0 4 then (↑(UInt8.toNat (List.getD s (nat_lit 0+i6*4) 0)):Int)
      else (↑(UInt8.toNat (List.getD s (Int.toNat (↑x2.1:Int)) 0)):Int))=(↑(UInt8.toNat (List.getD s (nat_lit 0+i6*4) 0)):Int))∧(x3.1≤List.length s∧∀ (k2:Nat), k2 < 4→partN x3.1 k2 4≤((x3.2 k2).2.2)∧((x3.2 k2).2.2)≤9223372036854775807∧(partN x3.1 k2 4=0→((x3.2 k2).2.2)=0))∧List.length s - x3.1 < List.length s - x2.1)∧True)∧True)∧True)∧True)∧(v3=(1:Int)→(0:Int)≤(1:Int)∧(1:Int) < (↑(Int.toNat
      (4:Int)):Int)∧(0:Int)≤(↑x2.1:Int)∧(↑x2.1:Int) < (↑(List.length s):Int)∧((b1=b1∧0=0)∧1 < Int.toNat (4:Int)∧(∀ (b4:Nat), (((x2.2 (nat_lit 1)).1=(x2.2 1).1∧((x2.2 (nat_lit 1)).2.1)=((x2.2 1).2.1))∧(Nat.beq (partN x2.1 1 4) 0=true→Nat.beq (partN x2.1 (nat_lit 1) 4) 0=true)∧0=0∧partN x2.1 1 4≤partN x2.1 (nat_lit 1) 4∧((x2.2 1).2.2)≤((x2.2 (nat_lit 1)).2.2)∧(partN x2.1 1 4+1)*1≤140737488355328∧partN x2.1
      1 4+1≤9223372036854775807∧1≤1∧(b4=b4∧0=0)∧∀ (b5 b6 b7:Nat), partN x2.1 1 4+1≤b7→b7≤9223372036854775807→(Nat.beq (partN x2.1 (nat_lit 1) 4) 0=true→1=0→b7=0)→0≤v2∧v2 < (↑(Int.toNat (4:Int)):Int)∧((b1=b1∧0=0)∧Int.toNat v2 < Int.toNat (4:Int)∧∀ (v4:Int), v4=IntKind.i64.wrap ((↑x2.1:Int)+(1:Int))→∃ (x3:Nat × (Nat→Nat × Nat × Nat)), v4=(↑x3.1:Int)∧((b1=b1∧0=0∧false=false∧Int.toNat (4:Int)≤Int.toNat
      (4:Int)∧Int.toNat (4:Int)≤Int.toNat (4:Int)∧Int.toNat (4:Int)≤Int.toNat (4:Int))∧∀ (i2:Nat), i2 < Int.toNat (4:Int)→eqv (if i2=Int.toNat v2 then SV.slice 401 b5 b6 [] 1 0 (partN x2.1 1 4+1) b7 (Nat.beq (partN x2.1 1 4) 0&&decide (1=0)) else SV.slice (400+i2) ((x2.2 i2).1) (((x2.2 i2).2.1)) [] 1 0 (partN x2.1 i2 4) (((x2.2 i2).2.2)) (Nat.beq (partN x2.1 i2 4) 0)) (SV.slice (400+i2) ((x3.2 i2).1)
      (((x3.2 i2).2.1)) [] 1 0 (partN x3.1 i2 4) (((x3.2 i2).2.2)) (Nat.beq (partN x3.1 i2 4) 0)))∧(((x2.2 (nat_lit 3)).1=(x3.2 (nat_lit 3)).1∧((x2.2 (nat_lit 3)).2.1)=((x3.2 (nat_lit 3)).2.1)∧Nat.beq (partN x2.1 (nat_lit 3) 4) 0=Nat.beq (partN x3.1 (nat_lit 3) 4) 0∧partN x3.1 (nat_lit 3) 4≤partN x2.1 (nat_lit 3) 4∧partN x3.1 (nat_lit 3) 4≤((x3.2 (nat_lit 3)).2.2)∧((x3.2 (nat_lit 3)).2.2)≤((x2.2 (nat_lit
      3)).2.2))∧∀ (i3:Nat), i3 < partN x3.1 (nat_lit 3) 4→(↑(UInt8.toNat (List.getD s (nat_lit 3+i3*4) 0)):Int)=(↑(UInt8.toNat (List.getD s (nat_lit 3+i3*4) 0)):Int))∧(((x2.2 (nat_lit 2)).1=(x3.2 (nat_lit 2)).1∧((x2.2 (nat_lit 2)).2.1)=((x3.2 (nat_lit 2)).2.1)∧Nat.beq (partN x2.1 (nat_lit 2) 4) 0=Nat.beq (partN x3.1 (nat_lit 2) 4) 0∧partN x3.1 (nat_lit 2) 4≤partN x2.1 (nat_lit 2) 4∧partN x3.1 (nat_lit 2)
      4≤((x3.2 (nat_lit 2)).2.2)∧((x3.2 (nat_lit 2)).2.2)≤((x2.2 (nat_lit 2)).2.2))∧∀ (i4:Nat), i4 < partN x3.1 (nat_lit 2) 4→(↑(UInt8.toNat (List.getD s (nat_lit 2+i4*4) 0)):Int)=(↑(UInt8.toNat (List.getD s (nat_lit 2+i4*4) 0)):Int))∧((b5=(x3.2 (nat_lit 1)).1∧b6=((x3.2 (nat_lit 1)).2.1)∧(Nat.beq (partN x2.1 (nat_lit 1) 4) 0&&decide (1=0))=Nat.beq (partN x3.1 (nat_lit 1) 4) 0∧partN x3.1 (nat_lit 1)
      4≤partN x2.1 1 4+1∧partN x3.1 (nat_lit 1) 4≤((x3.2 (nat_lit 1)).2.2)∧((x3.2 (nat_lit 1)).2.2)≤b7)∧∀ (i5:Nat), i5 < partN x3.1 (nat_lit 1) 4→(if i5 < partN x2.1 1 4 then (↑(UInt8.toNat (List.getD s (nat_lit 1+i5*4) 0)):Int) else (↑(UInt8.toNat (List.getD s (Int.toNat (↑x2.1:Int)) 0)):Int))=(↑(UInt8.toNat (List.getD s (nat_lit 1+i5*4) 0)):Int))∧(((x2.2 (nat_lit 0)).1=(x3.2 (nat_lit 0)).1∧((x2.2
      (nat_lit 0)).2.1)=((x3.2 (nat_lit 0)).2.1)∧Nat.beq (partN x2.1 (nat_lit 0) 4) 0=Nat.beq (partN x3.1 (nat_lit 0) 4) 0∧partN x3.1 (nat_lit 0) 4≤partN x2.1 (nat_lit 0) 4∧partN x3.1 (nat_lit 0) 4≤((x3.2 (nat_lit 0)).2.2)∧((x3.2 (nat_lit 0)).2.2)≤((x2.2 (nat_lit 0)).2.2))∧∀ (i6:Nat), i6 < partN x3.1 (nat_lit 0) 4→(↑(UInt8.toNat (List.getD s (nat_lit 0+i6*4) 0)):Int)=(↑(UInt8.toNat (List.getD s (nat_lit
      0+i6*4) 0)):Int))∧(x3.1≤List.length s∧∀ (k2:Nat), k2 < 4→partN x3.1 k2 4≤((x3.2 k2).2.2)∧((x3.2 k2).2.2)≤9223372036854775807∧(partN x3.1 k2 4=0→((x3.2 k2).2.2)=0))∧List.length s - x3.1 < List.length s - x2.1)∧True)∧True)∧True)∧(∀ (b5:Nat), ((b1=b1∧0=0)∧1 < Int.toNat (4:Int)∧(((x2.2 (nat_lit 1)).1=(x2.2 1).1∧((x2.2 (nat_lit 1)).2.1)=((x2.2 1).2.1))∧(Nat.beq (partN x2.1 1 4) 0=true→Nat.beq (partN
      x2.1 (nat_lit 1) 4) 0=true)∧0=0∧partN x2.1 1 4≤partN x2.1 (nat_lit 1) 4∧((x2.2 1).2.2)≤((x2.2 (nat_lit 1)).2.2)∧(partN x2.1 1 4+1)*1≤140737488355328∧partN x2.1 1 4+1≤9223372036854775807∧1≤1∧(b5=b5∧0=0)∧∀ (b6 b7 b8:Nat), partN x2.1 1 4+1≤b8→b8≤9223372036854775807→(Nat.beq (partN x2.1 (nat_lit 1) 4) 0=true→1=0→b8=0)→0≤v2∧v2 < (↑(Int.toNat (4:Int)):Int)∧((b1=b1∧0=0)∧Int.toNat v2 < Int.toNat (4:Int)∧∀
      (v4:Int), v4=IntKind.i64.wrap ((↑x2.1:Int)+(1:Int))→∃ (x3:Nat × (Nat→Nat × Nat × Nat)), v4=(↑x3.1:Int)∧((b1=b1∧0=0∧false=false∧Int.toNat (4:Int)≤Int.toNat (4:Int)∧Int.toNat (4:Int)≤Int.toNat (4:Int)∧Int.toNat (4:Int)≤Int.toNat (4:Int))∧∀ (i2:Nat), i2 < Int.toNat (4:Int)→eqv (if i2=Int.toNat v2 then SV.slice 401 b6 b7 [] 1 0 (partN x2.1 1 4+1) b8 (Nat.beq (partN x2.1 1 4) 0&&decide (1=0)) else
      SV.slice (400+i2) ((x2.2 i2).1) (((x2.2 i2).2.1)) [] 1 0 (partN x2.1 i2 4) (((x2.2 i2).2.2)) (Nat.beq (partN x2.1 i2 4) 0)) (SV.slice (400+i2) ((x3.2 i2).1) (((x3.2 i2).2.1)) [] 1 0 (partN x3.1 i2 4) (((x3.2 i2).2.2)) (Nat.beq (partN x3.1 i2 4) 0)))∧(((x2.2 (nat_lit 3)).1=(x3.2 (nat_lit 3)).1∧((x2.2 (nat_lit 3)).2.1)=((x3.2 (nat_lit 3)).2.1)∧Nat.beq (partN x2.1 (nat_lit 3) 4) 0=Nat.beq (partN x3.1
      (nat_lit 3) 4) 0∧partN x3.1 (nat_lit 3) 4≤partN x2.1 (nat_lit 3) 4∧partN x3.1 (nat_lit 3) 4≤((x3.2 (nat_lit 3)).2.2)∧((x3.2 (nat_lit 3)).2.2)≤((x2.2 (nat_lit 3)).2.2))∧∀ (i3:Nat), i3 < partN x3.1 (nat_lit 3) 4→(↑(UInt8.toNat (List.getD s (nat_lit 3+i3*4) 0)):Int)=(↑(UInt8.toNat (List.getD s (nat_lit 3+i3*4) 0)):Int))∧(((x2.2 (nat_lit 2)).1=(x3.2 (nat_lit 2)).1∧((x2.2 (nat_lit 2)).2.1)=((x3.2
      (nat_lit 2)).2.1)∧Nat.beq (partN x2.1 (nat_lit 2) 4) 0=Nat.beq (partN x3.1 (nat_lit 2) 4) 0∧partN x3.1 (nat_lit 2) 4≤partN x2.1 (nat_lit 2) 4∧partN x3.1 (nat_lit 2) 4≤((x3.2 (nat_lit 2)).2.2)∧((x3.2 (nat_lit 2)).2.2)≤((x2.2 (nat_lit 2)).2.2))∧∀ (i4:Nat), i4 < partN x3.1 (nat_lit 2) 4→(↑(UInt8.toNat (List.getD s (nat_lit 2+i4*4) 0)):Int)=(↑(UInt8.toNat (List.getD s (nat_lit 2+i4*4)
      0)):Int))∧((b6=(x3.2 (nat_lit 1)).1∧b7=((x3.2 (nat_lit 1)).2.1)∧(Nat.beq (partN x2.1 (nat_lit 1) 4) 0&&decide (1=0))=Nat.beq (partN x3.1 (nat_lit 1) 4) 0∧partN x3.1 (nat_lit 1) 4≤partN x2.1 1 4+1∧partN x3.1 (nat_lit 1) 4≤((x3.2 (nat_lit 1)).2.2)∧((x3.2 (nat_lit 1)).2.2)≤b8)∧∀ (i5:Nat), i5 < partN x3.1 (nat_lit 1) 4→(if i5 < partN x2.1 1 4 then (↑(UInt8.toNat (List.getD s (nat_lit 1+i5*4) 0)):Int)
      else (↑(UInt8.toNat (List.getD s (Int.toNat (↑x2.1:Int)) 0)):Int))=(↑(UInt8.toNat (List.getD s (nat_lit 1+i5*4) 0)):Int))∧(((x2.2 (nat_lit 0)).1=(x3.2 (nat_lit 0)).1∧((x2.2 (nat_lit 0)).2.1)=((x3.2 (nat_lit 0)).2.1)∧Nat.beq (partN x2.1 (nat_lit 0) 4) 0=Nat.beq (partN x3.1 (nat_lit 0) 4) 0∧partN x3.1 (nat_lit 0) 4≤partN x2.1 (nat_lit 0) 4∧partN x3.1 (nat_lit 0) 4≤((x3.2 (nat_lit 0)).2.2)∧((x3.2
      (nat_lit 0)).2.2)≤((x2.2 (nat_lit 0)).2.2))∧∀ (i6:Nat), i6 < partN x3.1 (nat_lit 0) 4→(↑(UInt8.toNat (List.getD s (nat_lit 0+i6*4) 0)):Int)=(↑(UInt8.toNat (List.getD s (nat_lit 0+i6*4) 0)):Int))∧(x3.1≤List.length s∧∀ (k2:Nat), k2 < 4→partN x3.1 k2 4≤((x3.2 k2).2.2)∧((x3.2 k2).2.2)≤9223372036854775807∧(partN x3.1 k2 4=0→((x3.2 k2).2.2)=0))∧List.length s - x3.1 < List.length s -
      x2.1)∧True)∧True)∧True)∧True)∧(v3=(2:Int)→(0:Int)≤(2:Int)∧(2:Int) < (↑(Int.toNat (4:Int)):Int)∧(0:Int)≤(↑x2.1:Int)∧(↑x2.1:Int) < (↑(List.length s):Int)∧((b1=b1∧0=0)∧2 < Int.toNat (4:Int)∧(∀ (b6:Nat), (((x2.2 (nat_lit 2)).1=(x2.2 2).1∧((x2.2 (nat_lit 2)).2.1)=((x2.2 2).2.1))∧(Nat.beq (partN x2.1 2 4) 0=true→Nat.beq (partN x2.1 (nat_lit 2) 4) 0=true)∧0=0∧partN x2.1 2 4≤partN x2.1 (nat_lit 2) 4∧((x2.2
      2).2.2)≤((x2.2 (nat_lit 2)).2.2)∧(partN x2.1 2 4+1)*1≤140737488355328∧partN x2.1 2 4+1≤9223372036854775807∧1≤1∧(b6=b6∧0=0)∧∀ (b7 b8 b9:Nat), partN x2.1 2 4+1≤b9→b9≤9223372036854775807→(Nat.beq (partN x2.1 (nat_lit 2) 4) 0=true→1=0→b9=0)→0≤v2∧v2 < (↑(Int.toNat (4:Int)):Int)∧((b1=b1∧0=0)∧Int.toNat v2 < Int.toNat (4:Int)∧∀ (v4:Int), v4=IntKind.i64.wrap ((↑x2.1:Int)+(1:Int))→∃ (x3:Nat × (Nat→Nat × Nat
      × Nat)), v4=(↑x3.1:Int)∧((b1=b1∧0=0∧false=false∧Int.toNat (4:Int)≤Int.toNat (4:Int)∧Int.toNat (4:Int)≤Int.toNat (4:Int)∧Int.toNat (4:Int)≤Int.toNat (4:Int))∧∀ (i2:Nat), i2 < Int.toNat (4:Int)→eqv (if i2=Int.toNat v2 then SV.slice 402 b7 b8 [] 1 0 (partN x2.1 2 4+1) b9 (Nat.beq (partN x2.1 2 4) 0&&decide (1=0)) else SV.slice (400+i2) ((x2.2 i2).1) (((x2.2 i2).2.1)) [] 1 0 (partN x2.1 i2 4) (((x2.2
      i2).2.2)) (Nat.beq (partN x2.1 i2 4) 0)) (SV.slice (400+i2) ((x3.2 i2).1) (((x3.2 i2).2.1)) [] 1 0 (partN x3.1 i2 4) (((x3.2 i2).2.2)) (Nat.beq (partN x3.1 i2 4) 0)))∧(((x2.2 (nat_lit 3)).1=(x3.2 (nat_lit 3)).1∧((x2.2 (nat_lit 3)).2.1)=((x3.2 (nat_lit 3)).2.1)∧Nat.beq (partN x2.1 (nat_lit 3) 4) 0=Nat.beq (partN x3.1 (nat_lit 3) 4) 0∧partN x3.1 (nat_lit 3) 4≤partN x2.1 (nat_lit 3) 4∧partN x3.1
      (nat_lit 3) 4≤((x3.2 (nat_lit 3)).2.2)∧((x3.2 (nat_lit 3)).2.2)≤((x2.2 (nat_lit 3)).2.2))∧∀ (i3:Nat), i3 < partN x3.1 (nat_lit 3) 4→(↑(UInt8.toNat (List.getD s (nat_lit 3+i3*4) 0)):Int)=(↑(UInt8.toNat (List.getD s (nat_lit 3+i3*4) 0)):Int))∧((b7=(x3.2 (nat_lit 2)).1∧b8=((x3.2 (nat_lit 2)).2.1)∧(Nat.beq (partN x2.1 (nat_lit 2) 4) 0&&decide (1=0))=Nat.beq (partN x3.1 (nat_lit 2) 4) 0∧partN x3.1
      (nat_lit 2) 4≤partN x2.1 2 4+1∧partN x3.1 (nat_lit 2) 4≤((x3.2 (nat_lit 2)).2.2)∧((x3.2 (nat_lit 2)).2.2)≤b9)∧∀ (i4:Nat), i4 < partN x3.1 (nat_lit 2) 4→(if i4 < partN x2.1 2 4 then (↑(UInt8.toNat (List.getD s (nat_lit 2+i4*4) 0)):Int) else (↑(UInt8.toNat (List.getD s (Int.toNat (↑x2.1:Int)) 0)):Int))=(↑(UInt8.toNat (List.getD s (nat_lit 2+i4*4) 0)):Int))∧(((x2.2 (nat_lit 1)).1=(x3.2 (nat_lit
      1)).1∧((x2.2 (nat_lit 1)).2.1)=((x3.2 (nat_lit 1)).2.1)∧Nat.beq (partN x2.1 (nat_lit 1) 4) 0=Nat.beq (partN x3.1 (nat_lit 1) 4) 0∧partN x3.1 (nat_lit 1) 4≤partN x2.1 (nat_lit 1) 4∧partN x3.1 (nat_lit 1) 4≤((x3.2 (nat_lit 1)).2.2)∧((x3.2 (nat_lit 1)).2.2)≤((x2.2 (nat_lit 1)).2.2))∧∀ (i5:Nat), i5 < partN x3.1 (nat_lit 1) 4→(↑(UInt8.toNat (List.getD s (nat_lit 1+i5*4) 0)):Int)=(↑(UInt8.toNat
      (List.getD s (nat_lit 1+i5*4) 0)):Int))∧(((x2.2 (nat_lit 0)).1=(x3.2 (nat_lit 0)).1∧((x2.2 (nat_lit 0)).2.1)=((x3.2 (nat_lit 0)).2.1)∧Nat.beq (partN x2.1 (nat_lit 0) 4) 0=Nat.beq (partN x3.1 (nat_lit 0) 4) 0∧partN x3.1 (nat_lit 0) 4≤partN x2.1 (nat_lit 0) 4∧partN x3.1 (nat_lit 0) 4≤((x3.2 (nat_lit 0)).2.2)∧((x3.2 (nat_lit 0)).2.2)≤((x2.2 (nat_lit 0)).2.2))∧∀ (i6:Nat), i6 < partN x3.1 (nat_lit 0)
      4→(↑(UInt8.toNat (List.getD s (nat_lit 0+i6*4) 0)):Int)=(↑(UInt8.toNat (List.getD s (nat_lit 0+i6*4) 0)):Int))∧(x3.1≤List.length s∧∀ (k2:Nat), k2 < 4→partN x3.1 k2 4≤((x3.2 k2).2.2)∧((x3.2 k2).2.2)≤9223372036854775807∧(partN x3.1 k2 4=0→((x3.2 k2).2.2)=0))∧List.length s - x3.1 < List.length s - x2.1)∧True)∧True)∧True)∧(∀ (b7:Nat), ((b1=b1∧0=0)∧2 < Int.toNat (4:Int)∧(((x2.2 (nat_lit 2)).1=(x2.2
      2).1∧((x2.2 (nat_lit 2)).2.1)=((x2.2 2).2.1))∧(Nat.beq (partN x2.1 2 4) 0=true→Nat.beq (partN x2.1 (nat_lit 2) 4) 0=true)∧0=0∧partN x2.1 2 4≤partN x2.1 (nat_lit 2) 4∧((x2.2 2).2.2)≤((x2.2 (nat_lit 2)).2.2)∧(partN x2.1 2 4+1)*1≤140737488355328∧partN x2.1 2 4+1≤9223372036854775807∧1≤1∧(b7=b7∧0=0)∧∀ (b8 b9 b10:Nat), partN x2.1 2 4+1≤b10→b10≤9223372036854775807→(Nat.beq (partN x2.1 (nat_lit 2) 4)
      0=true→1=0→b10=0)→0≤v2∧v2 < (↑(Int.toNat (4:Int)):Int)∧((b1=b1∧0=0)∧Int.toNat v2 < Int.toNat (4:Int)∧∀ (v4:Int), v4=IntKind.i64.wrap ((↑x2.1:Int)+(1:Int))→∃ (x3:Nat × (Nat→Nat × Nat × Nat)), v4=(↑x3.1:Int)∧((b1=b1∧0=0∧false=false∧Int.toNat (4:Int)≤Int.toNat (4:Int)∧Int.toNat (4:Int)≤Int.toNat (4:Int)∧Int.toNat (4:Int)≤Int.toNat (4:Int))∧∀ (i2:Nat), i2 < Int.toNat (4:Int)→eqv (if i2=Int.toNat v2
      then SV.slice 402 b8 b9 [] 1 0 (partN x2.1 2 4+1) b10 (Nat.beq (partN x2.1 2 4) 0&&decide (1=0)) else SV.slice (400+i2) ((x2.2 i2).1) (((x2.2 i2).2.1)) [] 1 0 (partN x2.1 i2 4) (((x2.2 i2).2.2)) (Nat.beq (partN x2.1 i2 4) 0)) (SV.slice (400+i2) ((x3.2 i2).1) (((x3.2 i2).2.1)) [] 1 0 (partN x3.1 i2 4) (((x3.2 i2).2.2)) (Nat.beq (partN x3.1 i2 4) 0)))∧(((x2.2 (nat_lit 3)).1=(x3.2 (nat_lit
      3)).1∧((x2.2 (nat_lit 3)).2.1)=((x3.2 (nat_lit 3)).2.1)∧Nat.beq (partN x2.1 (nat_lit 3) 4) 0=Nat.beq (partN x3.1 (nat_lit 3) 4) 0∧partN x3.1 (nat_lit 3) 4≤partN x2.1 (nat_lit 3) 4∧partN x3.1 (nat_lit 3) 4≤((x3.2 (nat_lit 3)).2.2)∧((x3.2 (nat_lit 3)).2.2)≤((x2.2 (nat_lit 3)).2.2))∧∀ (i3:Nat), i3 < partN x3.1 (nat_lit 3) 4→(↑(UInt8.toNat (List.getD s (nat_lit 3+i3*4) 0)):Int)=(↑(UInt8.toNat
      (List.getD s (nat_lit 3+i3*4) 0)):Int))∧((b8=(x3.2 (nat_lit 2)).1∧b9=((x3.2 (nat_lit 2)).2.1)∧(Nat.beq (partN x2.1 (nat_lit 2) 4) 0&&decide (1=0))=Nat.beq (partN x3.1 (nat_lit 2) 4) 0∧partN x3.1 (nat_lit 2) 4≤partN x2.1 2 4+1∧partN x3.1 (nat_lit 2) 4≤((x3.2 (nat_lit 2)).2.2)∧((x3.2 (nat_lit 2)).2.2)≤b10)∧∀ (i4:Nat), i4 < partN x3.1 (nat_lit 2) 4→(if i4 < partN x2.1 2 4 then (↑(UInt8.toNat
      (List.getD s (nat_lit 2+i4*4) 0)):Int) else (↑(UInt8.toNat (List.getD s (Int.toNat (↑x2.1:Int)) 0)):Int))=(↑(UInt8.toNat (List.getD s (nat_lit 2+i4*4) 0)):Int))∧(((x2.2 (nat_lit 1)).1=(x3.2 (nat_lit 1)).1∧((x2.2 (nat_lit 1)).2.1)=((x3.2 (nat_lit 1)).2.1)∧Nat.beq (partN x2.1 (nat_lit 1) 4) 0=Nat.beq (partN x3.1 (nat_lit 1) 4) 0∧partN x3.1 (nat_lit 1) 4≤partN x2.1 (nat_lit 1) 4∧partN x3.1 (nat_lit 1)
      4≤((x3.2 (nat_lit 1)).2.2)∧((x3.2 (nat_lit 1)).2.2)≤((x2.2 (nat_lit 1)).2.2))∧∀ (i5:Nat), i5 < partN x3.1 (nat_lit 1) 4→(↑(UInt8.toNat (List.getD s (nat_lit 1+i5*4) 0)):Int)=(↑(UInt8.toNat (List.getD s (nat_lit 1+i5*4) 0)):Int))∧(((x2.2 (nat_lit 0)).1=(x3.2 (nat_lit 0)).1∧((x2.2 (nat_lit 0)).2.1)=((x3.2 (nat_lit 0)).2.1)∧Nat.beq (partN x2.1 (nat_lit 0) 4) 0=Nat.beq (partN x3.1 (nat_lit 0) 4)
      0∧partN x3.1 (nat_lit 0) 4≤partN x2.1 (nat_lit 0) 4∧partN x3.1 (nat_lit 0) 4≤((x3.2 (nat_lit 0)).2.2)∧((x3.2 (nat_lit 0)).2.2)≤((x2.2 (nat_lit 0)).2.2))∧∀ (i6:Nat), i6 < partN x3.1 (nat_lit 0) 4→(↑(UInt8.toNat (List.getD s (nat_lit 0+i6*4) 0)):Int)=(↑(UInt8.toNat (List.getD s (nat_lit 0+i6*4) 0)):Int))∧(x3.1≤List.length s∧∀ (k2:Nat), k2 < 4→partN x3.1 k2 4≤((x3.2 k2).2.2)∧((x3.2
      k2).2.2)≤9223372036854775807∧(partN x3.1 k2 4=0→((x3.2 k2).2.2)=0))∧List.length s - x3.1 < List.length s - x2.1)∧True)∧True)∧True)∧True)∧(v3=(3:Int)→(0:Int)≤(3:Int)∧(3:Int) < (↑(Int.toNat (4:Int)):Int)∧(0:Int)≤(↑x2.1:Int)∧(↑x2.1:Int) < (↑(List.length s):Int)∧((b1=b1∧0=0)∧3 < Int.toNat (4:Int)∧(∀ (b8:Nat), (((x2.2 (nat_lit 3)).1=(x2.2 3).1∧((x2.2 (nat_lit 3)).2.1)=((x2.2 3).2.1))∧(Nat.beq (partN
      x2.1 3 4) 0=true→Nat.beq (partN x2.1 (nat_lit 3) 4) 0=true)∧0=0∧partN x2.1 3 4≤partN x2.1 (nat_lit 3) 4∧((x2.2 3).2.2)≤((x2.2 (nat_lit 3)).2.2)∧(partN x2.1 3 4+1)*1≤140737488355328∧partN x2.1 3 4+1≤9223372036854775807∧1≤1∧(b8=b8∧0=0)∧∀ (b9 b10 b11:Nat), partN x2.1 3 4+1≤b11→b11≤9223372036854775807→(Nat.beq (partN x2.1 (nat_lit 3) 4) 0=true→1=0→b11=0)→0≤v2∧v2 < (↑(Int.toNat
      (4:Int)):Int)∧((b1=b1∧0=0)∧Int.toNat v2 < Int.toNat (4:Int)∧∀ (v4:Int), v4=IntKind.i64.wrap ((↑x2.1:Int)+(1:Int))→∃ (x3:Nat × (Nat→Nat × Nat × Nat)), v4=(↑x3.1:Int)∧((b1=b1∧0=0∧false=false∧Int.toNat (4:Int)≤Int.toNat (4:Int)∧Int.toNat (4:Int)≤Int.toNat (4:Int)∧Int.toNat (4:Int)≤Int.toNat (4:Int))∧∀ (i2:Nat), i2 < Int.toNat (4:Int)→eqv (if i2=Int.toNat v2 then SV.slice 403 b9 b10 [] 1 0 (partN x2.1
      3 4+1) b11 (Nat.beq (partN x2.1 3 4) 0&&decide (1=0)) else SV.slice (400+i2) ((x2.2 i2).1) (((x2.2 i2).2.1)) [] 1 0 (partN x2.1 i2 4) (((x2.2 i2).2.2)) (Nat.beq (partN x2.1 i2 4) 0)) (SV.slice (400+i2) ((x3.2 i2).1) (((x3.2 i2).2.1)) [] 1 0 (partN x3.1 i2 4) (((x3.2 i2).2.2)) (Nat.beq (partN x3.1 i2 4) 0)))∧((b9=(x3.2 (nat_lit 3)).1∧b10=((x3.2 (nat_lit 3)).2.1)∧(Nat.beq (partN x2.1 (nat_lit 3) 4)
      0&&decide (1=0))=Nat.beq (partN x3.1 (nat_lit 3) 4) 0∧partN x3.1 (nat_lit 3) 4≤partN x2.1 3 4+1∧partN x3.1 (nat_lit 3) 4≤((x3.2 (nat_lit 3)).2.2)∧((x3.2 (nat_lit 3)).2.2)≤b11)∧∀ (i3:Nat), i3 < partN x3.1 (nat_lit 3) 4→(if i3 < partN x2.1 3 4 then (↑(UInt8.toNat (List.getD s (nat_lit 3+i3*4) 0)):Int) else (↑(UInt8.toNat (List.getD s (Int.toNat (↑x2.1:Int)) 0)):Int))=(↑(UInt8.toNat (List.getD s
      (nat_lit 3+i3*4) 0)):Int))∧(((x2.2 (nat_lit 2)).1=(x3.2 (nat_lit 2)).1∧((x2.2 (nat_lit 2)).2.1)=((x3.2 (nat_lit 2)).2.1)∧Nat.beq (partN x2.1 (nat_lit 2) 4) 0=Nat.beq (partN x3.1 (nat_lit 2) 4) 0∧partN x3.1 (nat_lit 2) 4≤partN x2.1 (nat_lit 2) 4∧partN x3.1 (nat_lit 2) 4≤((x3.2 (nat_lit 2)).2.2)∧((x3.2 (nat_lit 2)).2.2)≤((x2.2 (nat_lit 2)).2.2))∧∀ (i4:Nat), i4 < partN x3.1 (nat_lit 2)
      4→(↑(UInt8.toNat (List.getD s (nat_lit 2+i4*4) 0)):Int)=(↑(UInt8.toNat (List.getD s (nat_lit 2+i4*4) 0)):Int))∧(((x2.2 (nat_lit 1)).1=(x3.2 (nat_lit 1)).1∧((x2.2 (nat_lit 1)).2.1)=((x3.2 (nat_lit 1)).2.1)∧Nat.beq (partN x2.1 (nat_lit 1) 4) 0=Nat.beq (partN x3.1 (nat_lit 1) 4) 0∧partN x3.1 (nat_lit 1) 4≤partN x2.1 (nat_lit 1) 4∧partN x3.1 (nat_lit 1) 4≤((x3.2 (nat_lit 1)).2.2)∧((x3.2 (nat_lit
      1)).2.2)≤((x2.2 (nat_lit 1)).2.2))∧∀ (i5:Nat), i5 < partN x3.1 (nat_lit 1) 4→(↑(UInt8.toNat (List.getD s (nat_lit 1+i5*4) 0)):Int)=(↑(UInt8.toNat (List.getD s (nat_lit 1+i5*4) 0)):Int))∧(((x2.2 (nat_lit 0)).1=(x3.2 (nat_lit 0)).1∧((x2.2 (nat_lit 0)).2.1)=((x3.2 (nat_lit 0)).2.1)∧Nat.beq (partN x2.1 (nat_lit 0) 4) 0=Nat.beq (partN x3.1 (nat_lit 0) 4) 0∧partN x3.1 (nat_lit 0) 4≤partN x2.1 (nat_lit 0)
      4∧partN x3.1 (nat_lit 0) 4≤((x3.2 (nat_lit 0)).2.2)∧((x3.2 (nat_lit 0)).2.2)≤((x2.2 (nat_lit 0)).2.2))∧∀ (i6:Nat), i6 < partN x3.1 (nat_lit 0) 4→(↑(UInt8.toNat (List.getD s (nat_lit 0+i6*4) 0)):Int)=(↑(UInt8.toNat (List.getD s (nat_lit 0+i6*4) 0)):Int))∧(x3.1≤List.length s∧∀ (k2:Nat), k2 < 4→partN x3.1 k2 4≤((x3.2 k2).2.2)∧((x3.2 k2).2.2)≤9223372036854775807∧(partN x3.1 k2 4=0→((x3.2
      k2).2.2)=0))∧List.length s - x3.1 < List.length s - x2.1)∧True)∧True)∧True)∧(∀ (b9:Nat), ((b1=b1∧0=0)∧3 < Int.toNat (4:Int)∧(((x2.2 (nat_lit 3)).1=(x2.2 3).1∧((x2.2 (nat_lit 3)).2.1)=((x2.2 3).2.1))∧(Nat.beq (partN x2.1 3 4) 0=true→Nat.beq (partN x2.1 (nat_lit 3) 4) 0=true)∧0=0∧partN x2.1 3 4≤partN x2.1 (nat_lit 3) 4∧((x2.2 3).2.2)≤((x2.2 (nat_lit 3)).2.2)∧(partN x2.1 3 4+1)*1≤140737488355328∧partN
      x2.1 3 4+1≤9223372036854775807∧1≤1∧(b9=b9∧0=0)∧∀ (b10 b11 b12:Nat), partN x2.1 3 4+1≤b12→b12≤9223372036854775807→(Nat.beq (partN x2.1 (nat_lit 3) 4) 0=true→1=0→b12=0)→0≤v2∧v2 < (↑(Int.toNat (4:Int)):Int)∧((b1=b1∧0=0)∧Int.toNat v2 < Int.toNat (4:Int)∧∀ (v4:Int), v4=IntKind.i64.wrap ((↑x2.1:Int)+(1:Int))→∃ (x3:Nat × (Nat→Nat × Nat × Nat)), v4=(↑x3.1:Int)∧((b1=b1∧0=0∧false=false∧Int.toNat
      (4:Int)≤Int.toNat (4:Int)∧Int.toNat (4:Int)≤Int.toNat (4:Int)∧Int.toNat (4:Int)≤Int.toNat (4:Int))∧∀ (i2:Nat), i2 < Int.toNat (4:Int)→eqv (if i2=Int.toNat v2 then SV.slice 403 b10 b11 [] 1 0 (partN x2.1 3 4+1) b12 (Nat.beq (partN x2.1 3 4) 0&&decide (1=0)) else SV.slice (400+i2) ((x2.2 i2).1) (((x2.2 i2).2.1)) [] 1 0 (partN x2.1 i2 4) (((x2.2 i2).2.2)) (Nat.beq (partN x2.1 i2 4) 0)) (SV.slice
      (400+i2) ((x3.2 i2).1) (((x3.2 i2).2.1)) [] 1 0 (partN x3.1 i2 4) (((x3.2 i2).2.2)) (Nat.beq (partN x3.1 i2 4) 0)))∧((b10=(x3.2 (nat_lit 3)).1∧b11=((x3.2 (nat_lit 3)).2.1)∧(Nat.beq (partN x2.1 (nat_lit 3) 4) 0&&decide (1=0))=Nat.beq (partN x3.1 (nat_lit 3) 4) 0∧partN x3.1 (nat_lit 3) 4≤partN x2.1 3 4+1∧partN x3.1 (nat_lit 3) 4≤((x3.2 (nat_lit 3)).2.2)∧((x3.2 (nat_lit 3)).2.2)≤b12)∧∀ (i3:Nat), i3 <
      partN x3.1 (nat_lit 3) 4→(if i3 < partN x2.1 3 4 then (↑(UInt8.toNat (List.getD s (nat_lit 3+i3*4) 0)):Int) else (↑(UInt8.toNat (List.getD s (Int.toNat (↑x2.1:Int)) 0)):Int))=(↑(UInt8.toNat (List.getD s (nat_lit 3+i3*4) 0)):Int))∧(((x2.2 (nat_lit 2)).1=(x3.2 (nat_lit 2)).1∧((x2.2 (nat_lit 2)).2.1)=((x3.2 (nat_lit 2)).2.1)∧Nat.beq (partN x2.1 (nat_lit 2) 4) 0=Nat.beq (partN x3.1 (nat_lit 2) 4)
      0∧partN x3.1 (nat_lit 2) 4≤partN x2.1 (nat_lit 2) 4∧partN x3.1 (nat_lit 2) 4≤((x3.2 (nat_lit 2)).2.2)∧((x3.2 (nat_lit 2)).2.2)≤((x2.2 (nat_lit 2)).2.2))∧∀ (i4:Nat), i4 < partN x3.1 (nat_lit 2) 4→(↑(UInt8.toNat (List.getD s (nat_lit 2+i4*4) 0)):Int)=(↑(UInt8.toNat (List.getD s (nat_lit 2+i4*4) 0)):Int))∧(((x2.2 (nat_lit 1)).1=(x3.2 (nat_lit 1)).1∧((x2.2 (nat_lit 1)).2.1)=((x3.2 (nat_lit
      1)).2.1)∧Nat.beq (partN x2.1 (nat_lit 1) 4) 0=Nat.beq (partN x3.1 (nat_lit 1) 4) 0∧partN x3.1 (nat_lit 1) 4≤partN x2.1 (nat_lit 1) 4∧partN x3.1 (nat_lit 1) 4≤((x3.2 (nat_lit 1)).2.2)∧((x3.2 (nat_lit 1)).2.2)≤((x2.2 (nat_lit 1)).2.2))∧∀ (i5:Nat), i5 < partN x3.1 (nat_lit 1) 4→(↑(UInt8.toNat (List.getD s (nat_lit 1+i5*4) 0)):Int)=(↑(UInt8.toNat (List.getD s (nat_lit 1+i5*4) 0)):Int))∧(((x2.2 (nat_lit
      0)).1=(x3.2 (nat_lit 0)).1∧((x2.2 (nat_lit 0)).2.1)=((x3.2 (nat_lit 0)).2.1)∧Nat.beq (partN x2.1 (nat_lit 0) 4) 0=Nat.beq (partN x3.1 (nat_lit 0) 4) 0∧partN x3.1 (nat_lit 0) 4≤partN x2.1 (nat_lit 0) 4∧partN x3.1 (nat_lit 0) 4≤((x3.2 (nat_lit 0)).2.2)∧((x3.2 (nat_lit 0)).2.2)≤((x2.2 (nat_lit 0)).2.2))∧∀ (i6:Nat), i6 < partN x3.1 (nat_lit 0) 4→(↑(UInt8.toNat (List.getD s (nat_lit 0+i6*4)
      0)):Int)=(↑(UInt8.toNat (List.getD s (nat_lit 0+i6*4) 0)):Int))∧(x3.1≤List.length s∧∀ (k2:Nat), k2 < 4→partN x3.1 k2 4≤((x3.2 k2).2.2)∧((x3.2 k2).2.2)≤9223372036854775807∧(partN x3.1 k2 4=0→((x3.2 k2).2.2)=0))∧List.length s - x3.1 < List.length s - x2.1)∧True)∧True)∧True)∧True)∧True)∧(decide ((↑x2.1:Int) < v1)=false→∃ (x3:(Nat × Nat) × (Nat→Nat × Nat × Nat)), (b1=x3.1.1∧0=x3.1.2∧0=0∧Int.toNat
      (4:Int)=4∧Int.toNat (4:Int)=4∧false=false)∧((b1=x3.1.1∧0=x3.1.2∧false=false∧4≤Int.toNat (4:Int)∧4≤4∧4≤Int.toNat (4:Int))∧∀ (i2:Nat), i2 < 4→SVeq (SV.slice (400+i2) ((x2.2 i2).1) (((x2.2 i2).2.1)) [] 1 0 (partN x2.1 i2 4) (((x2.2 i2).2.2)) (Nat.beq (partN x2.1 i2 4) 0)) (SV.slice 1 ((x3.2 i2).1) (((x3.2 i2).2.1)) [PS.elt i2 0] 1 0 (partN (List.length s) i2 4) (((x3.2 i2).2.2)) false))∧(∀ (i3:Nat),
      i3 < 4→(Nat.beq (partN x2.1 (nat_lit 3) 4) 0=false∧((x2.2 (nat_lit 3)).1, ((x2.2 (nat_lit 3)).2.1))=((x3.2 i3).1, ((x3.2 i3).2.1))∧partN x2.1 (nat_lit 3) 4=partN (List.length s) i3 4∧∀ (k2:Nat), k2 < partN x2.1 (nat_lit 3) 4→(↑(UInt8.toNat (List.getD s (nat_lit 3+k2*4) 0)):Int)=(↑(UInt8.toNat (List.getD s (i3+k2*4) 0)):Int))∨(Nat.beq (partN x2.1 (nat_lit 2) 4) 0=false∧((x2.2 (nat_lit 2)).1, ((x2.2
      (nat_lit 2)).2.1))=((x3.2 i3).1, ((x3.2 i3).2.1))∧partN x2.1 (nat_lit 2) 4=partN (List.length s) i3 4∧∀ (k3:Nat), k3 < partN x2.1 (nat_lit 2) 4→(↑(UInt8.toNat (List.getD s (nat_lit 2+k3*4) 0)):Int)=(↑(UInt8.toNat (List.getD s (i3+k3*4) 0)):Int))∨(Nat.beq (partN x2.1 (nat_lit 1) 4) 0=false∧((x2.2 (nat_lit 1)).1, ((x2.2 (nat_lit 1)).2.1))=((x3.2 i3).1, ((x3.2 i3).2.1))∧partN x2.1 (nat_lit 1) 4=partN
      (List.length s) i3 4∧∀ (k4:Nat), k4 < partN x2.1 (nat_lit 1) 4→(↑(UInt8.toNat (List.getD s (nat_lit 1+k4*4) 0)):Int)=(↑(UInt8.toNat (List.getD s (i3+k4*4) 0)):Int))∨Nat.beq (partN x2.1 (nat_lit 0) 4) 0=false∧((x2.2 (nat_lit 0)).1, ((x2.2 (nat_lit 0)).2.1))=((x3.2 i3).1, ((x3.2 i3).2.1))∧partN x2.1 (nat_lit 0) 4=partN (List.length s) i3 4∧∀ (k5:Nat), k5 < partN x2.1 (nat_lit 0) 4→(↑(UInt8.toNat
      (List.getD s (nat_lit 0+k5*4) 0)):Int)=(↑(UInt8.toNat (List.getD s (i3+k5*4) 0)):Int))∧∀ (k2:Nat), k2 < 4→partN (List.length s) k2 4≤((x3.2 k2).2.2)∧((x3.2 k2).2.2)≤9223372036854775807)) (by kernel_rfl) ?_
  try simp only [eq_self, true_and, and_true, Nat.le_refl, implies_true, forall_const, Bool.false_eq_true, Bool.true_eq_false, reduceCtorEq, false_imp_iff, true_imp_iff, Int.toNat_zero, Int.toNat_natCast, Nat.zero_lt_one, Int.le_refl, allGet]
  refine ⟨by decide, by decide, by decide, fun b1 v1 hv1 => ⟨?_, ?_⟩⟩
  · refine ⟨(0, fun _ => (0, 0, 0)), ?_⟩
    dsimp only
    simp only [fun j => partN_zero j 4 (by omega)]
    and_intros
    all_goals try (first | rfl | omega | exact fun k hk => nil_eqv rfl rfl rfl | trivial | exact fun k hk => ⟨Nat.le_refl _, by omega, fun _ => trivial⟩)
  · rintro x ⟨hx, hp⟩
    have f0 := hp 0 (by omega)
    have f1 := hp 1 (by omega)
    have f2 := hp 2 (by omega)
    have f3 := hp 3 (by omega)
    refine ⟨fun ht => ?_, fun ht => ?_⟩
    · have hlt : x.1 < s.length := by
        have := of_decide_eq_true ht
        omega
      refine ⟨by decide, fun v2 hv2 => ⟨by decide, fun v3 hv3' => ⟨?_, ?_, ?_, ?_, ?_⟩⟩⟩
      · have h := Int.ofNat_tmod x.1 4
        have h2 : ((4 : Nat) : Int) = 4 := rfl
        rw [h2] at h
        have := Nat.mod_lt x.1 (y := 4) (by omega)
        omega
      · intro hv3
        have hm : x.1 % 4 = 0 := by
          have h := Int.ofNat_tmod x.1 4
          have h2 : ((4 : Nat) : Int) = 4 := rfl
          rw [h2] at h
          omega
        have hv2' : v2.toNat = 0 := by omega
        have hh := partN_hit (by omega) hm
        have q1 : partN (x.1 + 1) 1 4 = partN x.1 1 4 := partN_miss (by omega) (by omega) (by omega)
        have q2 : partN (x.1 + 1) 2 4 = partN x.1 2 4 := partN_miss (by omega) (by omega) (by omega)
        have q3 : partN (x.1 + 1) 3 4 = partN x.1 3 4 := partN_miss (by omega) (by omega) (by omega)
        and_intros
        all_goals try (first | decide | omega | exact fun h => h)
        all_goals
          intro b3 b4 b5 hb hb'
          and_intros
          all_goals try (first | decide | omega)
          intro v4 hv4
          refine ⟨(x.1 + 1, fun k => if k = 0 then (b3, b4, b5) else x.2 k), ?_⟩
          rw [hv2']
          dsimp only
          simp only [q1, q2, q3, hh.2]
          refine ⟨by rw [hv4, w64_id (by omega) (by omega)]; omega, fun k hk => ?_, ?_⟩
          · have e := pt_eqv (P := x.2) (b := b3) (o := b4) (cap := b5) (by omega) hm hk (z := ((partN x.1 0 4).beq 0 && decide False)) (by simp)
            exact e
          and_intros
          all_goals try (first | rfl | omega | exact pt_row (by omega) hm | exact pt_beq _ | (simp; done) | (simp; omega))
          intro k hk
          have hk0 : k = 0 ∨ k = 1 ∨ k = 2 ∨ k = 3 := by omega
          rcases hk0 with rfl | rfl | rfl | rfl
          all_goals
            simp only [q1, q2, q3, hh.2]
            simp
            omega
      · intro hv3
        have hm : x.1 % 4 = 1 := by
          have h := Int.ofNat_tmod x.1 4
          have h2 : ((4 : Nat) : Int) = 4 := rfl
          rw [h2] at h
          omega
        have hv2' : v2.toNat = 1 := by omega
        have hh := partN_hit (by omega) hm
        have q0 : partN (x.1 + 1) 0 4 = partN x.1 0 4 := partN_miss (by omega) (by omega) (by omega)
        have q2 : partN (x.1 + 1) 2 4 = partN x.1 2 4 := partN_miss (by omega) (by omega) (by omega)
        have q3 : partN (x.1 + 1) 3 4 = partN x.1 3 4 := partN_miss (by omega) (by omega) (by omega)
        and_intros
        all_goals try (first | decide | omega | exact fun h => h)
        all_goals
          intro b3 b4 b5 hb hb'
          and_intros
          all_goals try (first | decide | omega)
          intro v4 hv4
          refine ⟨(x.1 + 1, fun k => if k = 1 then (b3, b4, b5) else x.2 k), ?_⟩
          rw [hv2']
          dsimp only
          simp only [q0, q2, q3, hh.2]
          refine ⟨by rw [hv4, w64_id (by omega) (by omega)]; omega, fun k hk => ?_, ?_⟩
          · have e := pt_eqv (P := x.2) (b := b3) (o := b4) (cap := b5) (by omega) hm hk (z := ((partN x.1 1 4).beq 0 && decide False)) (by simp)
            exact e
          and_intros
          all_goals try (first | rfl | omega | exact pt_row (by omega) hm | exact pt_beq _ | (simp; done) | (simp; omega))
          intro k hk
          have hk0 : k = 0 ∨ k = 1 ∨ k = 2 ∨ k = 3 := by omega
          rcases hk0 with rfl | rfl | rfl | rfl
          all_goals
            simp only [q0, q2, q3, hh.2]
            simp
            omega
      · intro hv3
        have hm : x.1 % 4 = 2 := by
          have h := Int.ofNat_tmod x.1 4
          have h2 : ((4 : Nat) : Int) = 4 := rfl
          rw [h2] at h
          omega
        have hv2' : v2.toNat = 2 := by omega
        have hh := partN_hit (by omega) hm
        have q0 : partN (x.1 + 1) 0 4 = partN x.1 0 4 := partN_miss (by omega) (by omega) (by omega)
        have q1 : partN (x.1 + 1) 1 4 = partN x.1 1 4 := partN_miss (by omega) (by omega) (by omega)
        have q3 : partN (x.1 + 1) 3 4 = partN x.1 3 4 := partN_miss (by omega) (by omega) (by omega)
        and_intros
        all_goals try (first | decide | omega | exact fun h => h)
        all_goals
          intro b3 b4 b5 hb hb'
          and_intros
          all_goals try (first | decide | omega)
          intro v4 hv4
          refine ⟨(x.1 + 1, fun k => if k = 2 then (b3, b4, b5) else x.2 k), ?_⟩
          rw [hv2']
          dsimp only
          simp only [q0, q1, q3, hh.2]
          refine ⟨by rw [hv4, w64_id (by omega) (by omega)]; omega, fun k hk => ?_, ?_⟩
          · have e := pt_eqv (P := x.2) (b := b3) (o := b4) (cap := b5) (by omega) hm hk (z := ((partN x.1 2 4).beq 0 && decide False)) (by simp)
            exact e
          and_intros
          all_goals try (first | rfl | omega | exact pt_row (by omega) hm | exact pt_beq _ | (simp; done) | (simp; omega))
          intro k hk
          have hk0 : k = 0 ∨ k = 1 ∨ k = 2 ∨ k = 3 := by omega
          rcases hk0 with rfl | rfl | rfl | rfl
          all_goals
            simp only [q0, q1, q3, hh.2]
            simp
            omega
      · intro hv3
        have hm : x.1 % 4 = 3 := by
          have h := Int.ofNat_tmod x.1 4
          have h2 : ((4 : Nat) : Int) = 4 := rfl
          rw [h2] at h
          omega
        have hv2' : v2.toNat = 3 := by omega
        have hh := partN_hit (by omega) hm
        have q0 : partN (x.1 + 1) 0 4 = partN x.1 0 4 := partN_miss (by omega) (by omega) (by omega)
        have q1 : partN (x.1 + 1) 1 4 = partN x.1 1 4 := partN_miss (by omega) (by omega) (by omega)
        have q2 : partN (x.1 + 1) 2 4 = partN x.1 2 4 := partN_miss (by omega) (by omega) (by omega)
        and_intros
        all_goals try (first | decide | omega | exact fun h => h)
        all_goals
          intro b3 b4 b5 hb hb'
          and_intros
          all_goals try (first | decide | omega)
          intro v4 hv4
          refine ⟨(x.1 + 1, fun k => if k = 3 then (b3, b4, b5) else x.2 k), ?_⟩
          rw [hv2']
          dsimp only
          simp only [q0, q1, q2, hh.2]
          refine ⟨by rw [hv4, w64_id (by omega) (by omega)]; omega, fun k hk => ?_, ?_⟩
          · have e := pt_eqv (P := x.2) (b := b3) (o := b4) (cap := b5) (by omega) hm hk (z := ((partN x.1 3 4).beq 0 && decide False)) (by simp)
            exact e
          and_intros
          all_goals try (first | rfl | omega | exact pt_row (by omega) hm | exact pt_beq _ | (simp; done) | (simp; omega))
          intro k hk
          have hk0 : k = 0 ∨ k = 1 ∨ k = 2 ∨ k = 3 := by omega
          rcases hk0 with rfl | rfl | rfl | rfl
          all_goals
            simp only [q0, q1, q2, hh.2]
            simp
            omega
    · have he : x.1 = s.length := by
        have := of_decide_eq_false ht
        omega
      have hb : ∀ k, k < 4 → Nat.beq (partN s.length k 4) 0 = false := fun k hk => by
        have := partN_pos (n := s.length) (j := k) (d := 4) (by omega) (by omega)
        cases h : partN s.length k 4 with
        | zero => omega
        | succ m => rfl
      rw [he] at hp ⊢
      refine ⟨((b1, 0), x.2), ⟨rfl, rfl, rfl, rfl⟩, ⟨⟨rfl, rfl, by decide, by decide⟩, fun k hk => fam_sveq (hb k hk)⟩, ?_, fun k hk => ⟨(hp k hk).1, (hp k hk).2.1⟩⟩
      · intro k hk
        have hk0 : k = 0 ∨ k = 1 ∨ k = 2 ∨ k = 3 := by omega
        rcases hk0 with rfl | rfl | rfl | rfl
        all_goals
          repeat (first | exact ⟨hb _ (by omega), rfl, rfl, fun _ _ => rfl⟩ | (left; exact ⟨hb _ (by omega), rfl, rfl, fun _ _ => rfl⟩) | right)
theorem parts_ok : EcOk Tryz.prog 79 parts := by
  refine ecC_run (fun _ => E0_ok) Tryz.func79 rfl (by kernel_rfl) []
    (fun x => if x.2.1 = 1 then partsA x.1 1 [0] else if x.2.1 = 2 then partsA x.1 2 [0, 1] else if x.2.1 = 3 then partsA x.1 3 [0, 1, 2] else partsA x.1 4 [0, 1, 2, 3])
    (fun _ => Nat.le_of_ble_eq_true rfl) ?_
  rintro ⟨s, d, ⟨⟩⟩ hp hw
  obtain ⟨h1, h2, h3, h4, -⟩ := hp
  dsimp only at h1 h2 h3 h4
  have hd : d = 1 ∨ d = 2 ∨ d = 3 ∨ d = 4 := by omega
  rcases hd with rfl | rfl | rfl | rfl
  · exact parts_walk1 s (by omega) h4
  · exact parts_walk2 s (by omega) h4
  · exact parts_walk3 s (by omega) h4
  · exact parts_walk4 s (by omega) h4
end Galois
namespace Galois
open Go Go.Proofs Eng
set_option linter.unusedVariables false
set_option linter.unusedSimpArgs false
set_option maxHeartbeats 8000000
set_option maxRecDepth 100000

/-- The parity bytes when j parts are done and p bytes of part j. -/
noncomputable def wpF (d : List UInt8) (n j p k : Nat) : Int := if k % n < j ∨ (k % n = j ∧ k / n < p) then wF d n k else 0
theorem wpF_put {d : List UInt8} {n j p k : Nat} (hj : j < n) : (if k = p * n + j then wF d n (p * n + j) else wpF d n j p k) = wpF d n j (p + 1) k := by
  have e1 : (p * n + j) % n = j := by rw [Nat.mul_comm, Nat.mul_add_mod, Nat.mod_eq_of_lt hj]
  have e2 : (p * n + j) / n = p := by rw [Nat.mul_comm, Nat.mul_add_div (by omega), Nat.div_eq_of_lt hj, Nat.add_zero]
  unfold wpF
  by_cases h : k = p * n + j
  · subst h
    rw [if_pos rfl, e1, e2, if_pos (Or.inr ⟨rfl, by omega⟩)]
  · rw [if_neg h]
    by_cases q : k % n = j ∧ k / n = p
    · exfalso
      apply h
      have := Nat.div_add_mod k n
      rw [q.1, q.2, Nat.mul_comm] at this
      exact this.symm
    · have : (k % n < j ∨ (k % n = j ∧ k / n < p)) ↔ (k % n < j ∨ (k % n = j ∧ k / n < p + 1)) := by
        constructor
        · rintro (a | ⟨a, b⟩)
          · exact Or.inl a
          · exact Or.inr ⟨a, by omega⟩
        · rintro (a | ⟨a, b⟩)
          · exact Or.inl a
          · refine Or.inr ⟨a, ?_⟩
            by_cases c : k / n = p
            · exact (q ⟨a, c⟩).elim
            · omega
      simp only [this]
theorem wpF_next {d : List UInt8} {n j k : Nat} (hk : k < 8 * n) : wpF d n j 8 k = wpF d n (j + 1) 0 k := by
  have h8 : k / n < 8 := (Nat.div_lt_iff_lt_mul (by omega)).2 hk
  unfold wpF
  clear hk
  generalize k / n = q at *
  generalize k % n = r at *
  have : (r < j ∨ (r = j ∧ q < 8)) ↔ (r < j + 1 ∨ (r = j + 1 ∧ q < 0)) := by
    constructor
    · rintro (a | ⟨a, b⟩)
      · exact Or.inl (by omega)
      · exact Or.inl (by omega)
    · rintro (a | ⟨a, b⟩)
      · by_cases c : r = j
        · exact Or.inr ⟨c, h8⟩
        · exact Or.inl (by omega)
      · omega
  simp only [this]
theorem wpF_end {d : List UInt8} {n k : Nat} (hn : 0 < n) : wpF d n n 0 k = wF d n k := by
  unfold wpF
  rw [if_pos (Or.inl (Nat.mod_lt _ hn))]
theorem wpF_zero {d : List UInt8} {n k : Nat} : wpF d n 0 0 k = 0 := by
  unfold wpF
  rw [if_neg]
  rintro (a | ⟨a, b⟩)
  · exact Nat.not_lt_zero _ a
  · exact Nat.not_lt_zero _ b
noncomputable def EBv : Env := EBE.addE 79 parts
theorem EBv_ok : EnvOk Tryz.prog EBv := EBE_ok.addE parts_ok
theorem wrapB_ok : PcOk Tryz.prog 54 wrap := by
  refine pcOf_runS (fun _ => EBv_ok) Tryz.func54 rfl (by kernel_rfl) (fun x hw => wrap_wf x)
    (fun x => [.loopD 5 (fun fr H => ⟨5, Nat, [38], fun j => [.int .i64 (j : Nat)], [0], fun j => [{ entG H 0 with get := fun k => .int .u8 (wpF x.1 x.2.1.toNat j 0 k) }], fun j => j ≤ x.2.1.toNat, fun j => x.2.1.toNat - j⟩),
      .loopD 9 (fun fr H => ⟨9, Nat, [49], fun p => [.int .i64 (p : Nat)], [0], fun p => [{ entG H 0 with get := fun k => .int .u8 (wpF x.1 x.2.1.toNat (intOf (slotV fr 7)).toNat p k) }], fun p => p ≤ 8, fun p => 8 - p⟩)])
    (fun _ => Nat.le_of_ble_eq_true rfl) (fun ⟨d, n, ()⟩ hp hw => ?_)
  refine vc_of (q :=
      ∀ (t1:Bool), (t1=if decide (n < (1:Int))=true then true else decide (n > (4:Int)))→∀ (v1:Int), v1=(↑(List.length d):Int)→∀ (t2:Bool), (t2=if t1=true then true else decide (v1 < n))→∀ (v2:Int), v2=(↑(List.length d):Int)→∀ (v3:Int), v3=IntKind.i64.wrap ((223:Int)*n)→∀ (t3:Bool), (t3=if t2=true then true else decide (v2 > v3))→(t3=true→[]=wrapL d n∧(2:Int)=wrapE d n)∧(t3=false→∀ (v4:Int),
      v4=IntKind.i64.wrap ((8:Int)*n)→0≤v4∧v4≤v4∧v4*(↑(1:Nat):Int)≤(140737488355328:Int)∧v4≤9223372036854775807∧∀ (b1:Nat) (x'1:List UInt8 × Int × Unit), x'1=(d, n, ())→(1:Int)≤(Prod.snd x'1).1∧(Prod.snd x'1).1≤(4:Int)∧(Prod.snd x'1).1≤(↑(List.length (Prod.fst x'1)):Int)∧List.length (Prod.fst x'1)≤100000∧∀ (y1:(Nat × Nat) × (Nat→Nat × Nat × Nat)), (∀ (k:Nat), k < Int.toNat ((Prod.snd x'1).1)→partN
      (List.length (Prod.fst x'1)) k (Int.toNat ((Prod.snd x'1).1))≤((y1.2 k).2.2)∧((y1.2 k).2.2)≤9223372036854775807)→∀ (v5:Int), v5=(↑(Int.toNat ((Prod.snd x'1).1)):Int)→(∃ (x1:Nat), (0:Int)=(↑x1:Int)∧((b1=b1∧0=0∧false=false∧Int.toNat v4≤Int.toNat v4∧Int.toNat v4≤Int.toNat v4∧Int.toNat v4≤Int.toNat v4)∧∀ (i1:Nat), i1 < Int.toNat v4→(0:Int)=wpF d (Int.toNat n) x1 0 i1)∧Nat.le x1 (Int.toNat n))∧∀
      (b2:Nat), b2≤Int.toNat n→(decide ((↑b2:Int) < v5)=true→(0:Int)≤(↑b2:Int)∧(↑b2:Int) < (↑(Int.toNat ((Prod.snd x'1).1)):Int)∧(y1.1.1=y1.1.1∧y1.1.2=y1.1.2)∧Int.toNat (↑b2:Int) < Int.toNat ((Prod.snd x'1).1)∧partN (List.length (Prod.fst x'1)) (Int.toNat (↑b2:Int)) (Int.toNat ((Prod.snd x'1).1))≤partN (List.length (Prod.fst x'1)) (Int.toNat (↑b2:Int)) (Int.toNat ((Prod.snd x'1).1))∧(∀ (k1:Nat), k1 <
      partN (List.length (Prod.fst x'1)) (Int.toNat (↑b2:Int)) (Int.toNat ((Prod.snd x'1).1))→true=true)∧((y1.2 (Int.toNat (↑b2:Int))).1, ((y1.2 (Int.toNat (↑b2:Int))).2).1)=((y1.2 (Int.toNat (↑b2:Int))).1, ((y1.2 (Int.toNat (↑b2:Int))).2).1)∧Int.toNat (↑b2:Int) < Int.toNat ((Prod.snd x'1).1)∧∀ (s1:List UInt8), s1=Byt.of (fun (k:Nat) ↦ (↑(UInt8.toNat (List.getD (Prod.fst x'1) (Int.toNat
      (↑b2:Int)+k*Int.toNat ((Prod.snd x'1).1)) 0)):Int)) (partN (List.length (Prod.fst x'1)) (Int.toNat (↑b2:Int)) (Int.toNat ((Prod.snd x'1).1)))→∀ (s2:List UInt8), s2=encL s1→∀ (v6:Int), v6=encE s1→(∃ (x2:Nat), (0:Int)=(↑x2:Int)∧((b1=b1∧0=0∧false=false∧Int.toNat v4≤Int.toNat v4∧Int.toNat v4≤Int.toNat v4∧Int.toNat v4≤Int.toNat v4)∧∀ (i2:Nat), i2 < Int.toNat v4→wpF d (Int.toNat n) b2 0 i2=wpF d
      (Int.toNat n) (Int.toNat (↑b2:Int)) x2 i2)∧Nat.le x2 8)∧∀ (b3:Nat), b3≤8→(decide ((↑b3:Int) < (8:Int))=true→∀ (v7:Int), v7=IntKind.i64.wrap ((↑b3:Int)*n)→∀ (v8:Int), v8=IntKind.i64.wrap (v7+(↑b2:Int))→∀ (v9:Int), v9=(↑(partN (List.length (Prod.fst x'1)) (Int.toNat (↑b2:Int)) (Int.toNat ((Prod.snd x'1).1))):Int)→∀ (v10:Int), v10=IntKind.i64.wrap (v9+(↑b3:Int))→0≤v10∧v10 < (↑(List.length
      s2):Int)∧0≤v8∧v8 < (↑(Int.toNat v4):Int)∧(b1=b1∧0=0)∧Int.toNat v8 < Int.toNat v4∧∀ (v11:Int), v11=IntKind.i64.wrap ((↑b3:Int)+(1:Int))→∃ (x3:Nat), v11=(↑x3:Int)∧((b1=b1∧0=0∧false=false∧Int.toNat v4≤Int.toNat v4∧Int.toNat v4≤Int.toNat v4∧Int.toNat v4≤Int.toNat v4)∧∀ (i3:Nat), i3 < Int.toNat v4→(if i3=Int.toNat v8 then (↑(UInt8.toNat (List.getD s2 (Int.toNat v10) 0)):Int) else wpF d (Int.toNat n)
      (Int.toNat (↑b2:Int)) b3 i3)=wpF d (Int.toNat n) (Int.toNat (↑b2:Int)) x3 i3)∧x3≤8∧8 - x3 < 8 - b3)∧(decide ((↑b3:Int) < (8:Int))=false→∀ (v8:Int), v8=IntKind.i64.wrap ((↑b2:Int)+(1:Int))→∃ (x3:Nat), v8=(↑x3:Int)∧((b1=b1∧0=0∧false=false∧Int.toNat v4≤Int.toNat v4∧Int.toNat v4≤Int.toNat v4∧Int.toNat v4≤Int.toNat v4)∧∀ (i3:Nat), i3 < Int.toNat v4→wpF d (Int.toNat n) (Int.toNat (↑b2:Int)) b3 i3=wpF d
      (Int.toNat n) x3 0 i3)∧x3≤Int.toNat n∧Int.toNat n - x3 < Int.toNat n - b2))∧(decide ((↑b2:Int) < v5)=false→Int.toNat v4≤Int.toNat v4∧(∀ (k2:Nat), k2 < Int.toNat v4→true=true)∧(b1=b1∧0=0)∧∀ (s2:List UInt8), s2=Byt.of (wpF d (Int.toNat n) b2 0) (Int.toNat v4)→List.length d+List.length s2≤9223372036854775807∧∀ (s3:List UInt8), s3=d++s2→s3=wrapL d n∧(0:Int)=wrapE d n))) (by kernel_rfl) ?_
  try simp only [eq_self, true_and, and_true, Nat.le_refl, implies_true, forall_const, Bool.false_eq_true, Bool.true_eq_false, reduceCtorEq, false_imp_iff, true_imp_iff, Int.toNat_zero, Int.toNat_natCast, Nat.zero_lt_one, Int.le_refl, allGet]
  intro t1 ht1 v1 h1 t2 ht2 v2 h2 v3 h3 t3 ht3
  have hb := wB_eq ht1 h1 ht2 h2 h3 ht3
  subst hb
  refine ⟨fun h => by unfold wrapL wrapE; rw [if_pos h, if_pos h]; exact ⟨rfl, rfl⟩, fun h => ?_⟩
  obtain ⟨g1, g2, g3, g4⟩ := wB_false h
  have hN : ((n.toNat : Nat) : Int) = n := Int.toNat_of_nonneg (by omega)
  generalize hNN : n.toNat = N at *
  intro v4 hv4
  have e4 : v4 = 8 * (N : Int) := by rw [hv4, w64_id (by omega) (by omega), hN]
  have t4 : v4.toNat = 8 * N := by omega
  refine ⟨by omega, by omega, by omega, fun x1 hx1 => ?_⟩
  subst hx1
  dsimp only
  rw [t4, hNN]
  refine ⟨g1, g2, g3, by omega, fun y1 hy v5 hv5 => ⟨⟨0, rfl, fun k hk => wpF_zero.symm, Nat.zero_le _⟩, fun j hj => ⟨fun hjn => ?_, fun hjn => ?_⟩⟩⟩
  · have hjn := of_decide_eq_true hjn
    have hjN : j < N := by omega
    obtain ⟨q1, q2⟩ := partN_ok (k := j) h (by omega)
    rw [hNN] at q1 q2
    refine ⟨by omega, by omega, by omega, by omega, fun s1 hs1 s2 hs2 v6 hv6 => ?_⟩
    have hs1 : s1 = partL d j N := hs1
    rw [← hs1] at q1 q2
    have hs2' := hs2
    rw [encL_of q1 q2] at hs2
    have hP : revL (parP s1) = parJ d N j := by rw [hs1]; rfl
    rw [hP] at hs2
    have lJ := parJ_len d N j
    have l1 : s1.length = partN d.length j N := by rw [hs1, partL_len]
    have l2 : s2.length = s1.length + 8 := by rw [hs2, List.length_append, lJ]
    refine ⟨⟨0, rfl, fun k hk => rfl, Nat.zero_le _⟩, fun p hp8 => ⟨fun hp => ?_, fun hp v8 hv8 => ?_⟩⟩
    · have hp := of_decide_eq_true hp
      have hpn : p * N ≤ 7 * N := Nat.mul_le_mul_right _ (by omega)
      intro v7 hv7 v8 hv8 v9 hv9 v10 hv10
      have hpI : (p : Int) * n = ((p * N : Nat) : Int) := by rw [← hN, Int.natCast_mul]
      have e7 : v7 = ((p * N : Nat) : Int) := by rw [hv7, hpI, w64_id (by omega) (by omega)]
      have e8 : v8 = ((p * N + j : Nat) : Int) := by rw [hv8, e7, w64_id (by omega) (by omega)]; omega
      have hv9 : v9 = (partN d.length j N : Nat) := hv9
      have e10 : v10 = ((s1.length + p : Nat) : Int) := by rw [hv10, hv9, w64_id (by omega) (by omega)]; omega
      have t8 : v8.toNat = p * N + j := by omega
      have t10 : v10.toNat = s1.length + p := by omega
      rw [t8, t10]
      refine ⟨by omega, by omega, by omega, by omega, by omega, fun v11 hv11 => ⟨p + 1, by rw [hv11, w64_id (by omega) (by omega)]; omega, fun k hk => ?_, by omega, by omega⟩⟩
      have hv : ((s2.getD (s1.length + p) 0).toNat : Int) = wF d N (p * N + j) := by
        have e1 : (p * N + j) % N = j := by rw [Nat.mul_comm, Nat.mul_add_mod, Nat.mod_eq_of_lt hjN]
        have e2 : (p * N + j) / N = p := by rw [Nat.mul_comm, Nat.mul_add_div (by omega), Nat.div_eq_of_lt hjN, Nat.add_zero]
        unfold wF
        rw [e1, e2, hs2]
        simp only [List.getD_eq_getElem?_getD]
        rw [List.getElem?_append_right (by omega), Nat.add_sub_cancel_left]
      rw [hv]
      exact wpF_put hjN
    · have hp := of_decide_eq_false hp
      have e8 : p = 8 := by omega
      subst e8
      refine ⟨j + 1, by rw [hv8, w64_id (by omega) (by omega)]; omega, fun k hk => wpF_next hk, by omega, by omega⟩
  · have hjn := of_decide_eq_false hjn
    have ej : j = N := by omega
    subst ej
    intro s2 hs2
    have l2 : s2.length = 8 * j := by rw [hs2]; simp [Byt.of]
    refine ⟨by omega, fun s3 hs3 => ?_⟩
    unfold wrapL wrapE
    rw [h, hs3, hs2, hNN]
    refine ⟨?_, rfl⟩
    show d ++ Byt.of _ _ = d ++ Byt.of _ _
    rw [show wpF d j j 0 = wF d j from funext fun k => wpF_end (by omega)]
end Galois
