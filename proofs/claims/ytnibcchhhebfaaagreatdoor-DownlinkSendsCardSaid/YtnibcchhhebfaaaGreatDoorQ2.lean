/-
  OWN WORK. The convolutional code: the trellis.
-/
import Derived.Test.YtnibcchhhebfaaaGreatDoorQ1
import Derived.Test.YtnibcchhhebfaaaGreatDoorEngQ
namespace Vt
open Go Go.Proofs Eng
set_option linter.unusedVariables false
set_option linter.unusedSimpArgs false
set_option maxRecDepth 100000
set_option maxHeartbeats 4000000
theorem arr_eqv {n wd : Nat} {f g : Nat → SV} (h : ∀ k, k < n → f k = g k) : SVeq (.arr n wd f) (.arr n wd g) := by
  have hfl : (List.range n).flatMap (fun i => (f i).flat) = (List.range n).flatMap (fun i => (g i).flat) := flatMap_congr_range n fun i hi => by rw [h i hi]
  exact ⟨by simp only [SV.den, hfl], by simp only [SV.flat, hfl], rfl, fun hw i hi => by rw [← h i hi]; exact hw i hi⟩
/-- A row added to another one: its first l bytes. -/
theorem arr_sv {n wd : Nat} {f g : Nat → SV} (h : ∀ k, k < n → SVeq (f k) (g k)) (hn : ∀ k, k < n → (g k).nt = true) : SVeq (.arr n wd f) (.arr n wd g) := by
  have hfl : (List.range n).flatMap (fun i => (f i).flat) = (List.range n).flatMap (fun i => (g i).flat) := flatMap_congr_range n fun i hi => (h i hi).flat
  exact ⟨by simp only [SV.den, hfl], by simp only [SV.flat, hfl], rfl, fun hw i hi => ⟨(h i hi).wf (hw i hi).1, by rw [← (h i hi).sz]; exact (hw i hi).2.1, hn i hi⟩⟩
def ptG : SV → Nat
  | .ptr g _ _ _ => g
  | _ => 0
/-- The steps that stand in the trellis where p says so; elsewhere zeros. -/
abbrev trG (p : Nat → Nat → Bool) : Nat → SV := fun s => .arr 2 3 fun b => .agg [.int .i64 (if p s b then (nxt s b : Nat) else 0), .int .i64 (if p s b then (fs s b : Nat) else 0), .int .i64 (if p s b then (sc s b : Nat) else 0)]
def trLoop (fr : Fr) (H : Hp) : LA := ⟨3, Nat, [7], fun i => [.int .i64 (i : Nat)], [ptG (slotV fr 1)], fun i => [{ entG H (ptG (slotV fr 1)) with get := fun _ => .arr 64 6 (trG fun s _ => decide (s < i)) }], fun i => i ≤ 64, fun i => 64 - i⟩
def trLoop2 (fr : Fr) (H : Hp) : LA := ⟨6, Nat, [10], fun j => [.int .i64 (j : Nat)], [ptG (slotV fr 1)], fun j => [{ entG H (ptG (slotV fr 1)) with get := fun _ => .arr 64 6 (trG fun s b => decide (s < (intOf (slotV fr 2)).toNat) || (decide (s = (intOf (slotV fr 2)).toNat) && decide (b < j))) }], fun j => j ≤ 2, fun j => 2 - j⟩
abbrev trelV : SV := .arr 64 6 (trG fun _ _ => true)
def trelC := pcOf .nil (fun _ => []) (fun _ => trelV)
def ETR : Env := E0.addP 115 stepC
theorem ETR_ok : EnvOk Tryz.prog ETR := E0_ok.addP step_ok
theorem trel_ok : PcOk Tryz.prog 82 trelC := by
  refine pcOf_run (fun _ => ETR_ok) Tryz.func82 rfl (by kernel_rfl) (fun _ => fun i hi => ⟨fun j hj => ⟨⟨trivial, rfl, trivial, rfl, trivial, rfl, trivial⟩, rfl, rfl⟩, rfl, rfl⟩)
    (fun x => [.loopD 3 trLoop, .loopD 6 trLoop2]) (fun _ => Nat.le_of_ble_eq_true rfl) (fun ⟨⟩ hp hw => ?_)
  refine vc_of (q :=
      ∀ (b1 b2:Nat), (∃ (x1:Nat), (0:Int)=(↑x1:Int)∧((b2=b2∧0=0∧false=false∧1≤1∧1≤1∧1≤1)∧SVeq (SV.arr 64 6 fun (x:Nat) ↦ SV.arr 2 3 fun (x:Nat) ↦ SV.agg [SV.int IntKind.i64 (0:Int), SV.int IntKind.i64 (0:Int), SV.int IntKind.i64 (0:Int)]) (SV.arr 64 6 fun (s:Nat) ↦ SV.arr 2 3 fun (b:Nat) ↦ SV.agg [SV.int IntKind.i64 (if decide (s < x1)=true then (↑(Vt.nxt s b):Int) else (0:Int)), SV.int IntKind.i64 (if
      decide (s < x1)=true then (↑(Vt.fs s b):Int) else (0:Int)), SV.int IntKind.i64 (if decide (s < x1)=true then (↑(Vt.sc s b):Int) else (0:Int))]))∧Nat.le x1 64)∧∀ (b3:Nat), b3≤64→(decide ((↑b3:Int) < (64:Int))=true→(∃ (x2:Nat), (0:Int)=(↑x2:Int)∧((b2=b2∧0=0∧false=false∧1≤1∧1≤1∧1≤1)∧SVeq (SV.arr 64 6 fun (s:Nat) ↦ SV.arr 2 3 fun (b:Nat) ↦ SV.agg [SV.int IntKind.i64 (if decide (s < b3)=true then
      (↑(Vt.nxt s b):Int) else (0:Int)), SV.int IntKind.i64 (if decide (s < b3)=true then (↑(Vt.fs s b):Int) else (0:Int)), SV.int IntKind.i64 (if decide (s < b3)=true then (↑(Vt.sc s b):Int) else (0:Int))]) (SV.arr 64 6 fun (s:Nat) ↦ SV.arr 2 3 fun (b:Nat) ↦ SV.agg [SV.int IntKind.i64 (if (decide (s < Int.toNat (↑b3:Int))||decide (s=Int.toNat (↑b3:Int))&&decide (b < x2))=true then (↑(Vt.nxt s b):Int)
      else (0:Int)), SV.int IntKind.i64 (if (decide (s < Int.toNat (↑b3:Int))||decide (s=Int.toNat (↑b3:Int))&&decide (b < x2))=true then (↑(Vt.fs s b):Int) else (0:Int)), SV.int IntKind.i64 (if (decide (s < Int.toNat (↑b3:Int))||decide (s=Int.toNat (↑b3:Int))&&decide (b < x2))=true then (↑(Vt.sc s b):Int) else (0:Int))]))∧Nat.le x2 2)∧∀ (b4:Nat), b4≤2→(decide ((↑b4:Int) <
      (2:Int))=true→((0:Int)≤(↑b3:Int)∧(↑b3:Int) < (64:Int))∧((0:Int)≤(↑b4:Int)∧(↑b4:Int) < (2:Int))∧∀ (v1:Int), v1=(↑(Vt.nxt (Int.toNat (↑b3:Int)) (Int.toNat (↑b4:Int))):Int)→∀ (v2:Int), v2=(↑(Vt.fs (Int.toNat (↑b3:Int)) (Int.toNat (↑b4:Int))):Int)→∀ (v3:Int), v3=(↑(Vt.sc (Int.toNat (↑b3:Int)) (Int.toNat (↑b4:Int))):Int)→(0:Int)≤(↑b3:Int)∧(↑b3:Int) < (↑(64:Nat):Int)∧(0:Int)≤(↑b4:Int)∧(↑b4:Int) <
      (↑(2:Nat):Int)∧(b2=b2∧0=0)∧Int.toNat (↑b3:Int) < 64∧Int.toNat (↑b4:Int) < 2∧∀ (v4:Int), v4=IntKind.i64.wrap ((↑b4:Int)+(1:Int))→∃ (x3:Nat), v4=(↑x3:Int)∧((b2=b2∧0=0∧false=false∧1≤1∧1≤1∧1≤1)∧SVeq (SV.arr 64 6 fun (k:Nat) ↦ SV.arr 2 3 fun (k_1:Nat) ↦ SV.agg [SV.int IntKind.i64 (if k=Int.toNat (↑b3:Int) then if k_1=Int.toNat (↑b4:Int) then v1 else if (decide (Int.toNat (↑b3:Int) < Int.toNat
      (↑b3:Int))||decide (Int.toNat (↑b3:Int)=Int.toNat (↑b3:Int))&&decide (k_1 < b4))=true then (↑(Vt.nxt (Int.toNat (↑b3:Int)) k_1):Int) else (0:Int) else if (decide (k < Int.toNat (↑b3:Int))||decide (k=Int.toNat (↑b3:Int))&&decide (k_1 < b4))=true then (↑(Vt.nxt k k_1):Int) else (0:Int)), SV.int IntKind.i64 (if k=Int.toNat (↑b3:Int) then if k_1=Int.toNat (↑b4:Int) then v2 else if (decide (Int.toNat
      (↑b3:Int) < Int.toNat (↑b3:Int))||decide (Int.toNat (↑b3:Int)=Int.toNat (↑b3:Int))&&decide (k_1 < b4))=true then (↑(Vt.fs (Int.toNat (↑b3:Int)) k_1):Int) else (0:Int) else if (decide (k < Int.toNat (↑b3:Int))||decide (k=Int.toNat (↑b3:Int))&&decide (k_1 < b4))=true then (↑(Vt.fs k k_1):Int) else (0:Int)), SV.int IntKind.i64 (if k=Int.toNat (↑b3:Int) then if k_1=Int.toNat (↑b4:Int) then v3 else if
      (decide (Int.toNat (↑b3:Int) < Int.toNat (↑b3:Int))||decide (Int.toNat (↑b3:Int)=Int.toNat (↑b3:Int))&&decide (k_1 < b4))=true then (↑(Vt.sc (Int.toNat (↑b3:Int)) k_1):Int) else (0:Int) else if (decide (k < Int.toNat (↑b3:Int))||decide (k=Int.toNat (↑b3:Int))&&decide (k_1 < b4))=true then (↑(Vt.sc k k_1):Int) else (0:Int))]) (SV.arr 64 6 fun (s:Nat) ↦ SV.arr 2 3 fun (b:Nat) ↦ SV.agg [SV.int
      IntKind.i64 (if (decide (s < Int.toNat (↑b3:Int))||decide (s=Int.toNat (↑b3:Int))&&decide (b < x3))=true then (↑(Vt.nxt s b):Int) else (0:Int)), SV.int IntKind.i64 (if (decide (s < Int.toNat (↑b3:Int))||decide (s=Int.toNat (↑b3:Int))&&decide (b < x3))=true then (↑(Vt.fs s b):Int) else (0:Int)), SV.int IntKind.i64 (if (decide (s < Int.toNat (↑b3:Int))||decide (s=Int.toNat (↑b3:Int))&&decide (b <
      x3))=true then (↑(Vt.sc s b):Int) else (0:Int))]))∧x3≤2∧2 - x3 < 2 - b4)∧(decide ((↑b4:Int) < (2:Int))=false→∀ (v2:Int), v2=IntKind.i64.wrap ((↑b3:Int)+(1:Int))→∃ (x3:Nat), v2=(↑x3:Int)∧((b2=b2∧0=0∧false=false∧1≤1∧1≤1∧1≤1)∧SVeq (SV.arr 64 6 fun (s:Nat) ↦ SV.arr 2 3 fun (b:Nat) ↦ SV.agg [SV.int IntKind.i64 (if (decide (s < Int.toNat (↑b3:Int))||decide (s=Int.toNat (↑b3:Int))&&decide (b < b4))=true
      then (↑(Vt.nxt s b):Int) else (0:Int)), SV.int IntKind.i64 (if (decide (s < Int.toNat (↑b3:Int))||decide (s=Int.toNat (↑b3:Int))&&decide (b < b4))=true then (↑(Vt.fs s b):Int) else (0:Int)), SV.int IntKind.i64 (if (decide (s < Int.toNat (↑b3:Int))||decide (s=Int.toNat (↑b3:Int))&&decide (b < b4))=true then (↑(Vt.sc s b):Int) else (0:Int))]) (SV.arr 64 6 fun (s:Nat) ↦ SV.arr 2 3 fun (b:Nat) ↦ SV.agg
      [SV.int IntKind.i64 (if decide (s < x3)=true then (↑(Vt.nxt s b):Int) else (0:Int)), SV.int IntKind.i64 (if decide (s < x3)=true then (↑(Vt.fs s b):Int) else (0:Int)), SV.int IntKind.i64 (if decide (s < x3)=true then (↑(Vt.sc s b):Int) else (0:Int))]))∧x3≤64∧64 - x3 < 64 - b3))∧(decide ((↑b3:Int) < (64:Int))=false→(b2=b2∧0=0)∧(b1=b1∧0=0)∧(b1=b1∧0=0)∧SVeq (SV.arr 64 6 fun (s:Nat) ↦ SV.arr 2 3 fun
      (b:Nat) ↦ SV.agg [SV.int IntKind.i64 (if decide (s < b3)=true then (↑(Vt.nxt s b):Int) else (0:Int)), SV.int IntKind.i64 (if decide (s < b3)=true then (↑(Vt.fs s b):Int) else (0:Int)), SV.int IntKind.i64 (if decide (s < b3)=true then (↑(Vt.sc s b):Int) else (0:Int))]) (SV.arr 64 6 fun (s:Nat) ↦ SV.arr 2 3 fun (b:Nat) ↦ SV.agg [SV.int IntKind.i64 (if true=true then (↑(Vt.nxt s b):Int) else (0:Int)),
      SV.int IntKind.i64 (if true=true then (↑(Vt.fs s b):Int) else (0:Int)), SV.int IntKind.i64 (if true=true then (↑(Vt.sc s b):Int) else (0:Int))]))) (by kernel_rfl) ?_
  refine fun b1 b2 => ⟨⟨0, rfl, ⟨⟨rfl, rfl, rfl, Nat.le_refl _, Nat.le_refl _, Nat.le_refl _⟩, arr_sv (fun s hs => arr_eqv fun b hb => by simp) (fun _ _ => rfl)⟩, Nat.zero_le _⟩, fun i hi => ⟨fun hlt => ?_, fun hge => ?_⟩⟩
  · have hlt := of_decide_eq_true hlt
    refine ⟨⟨0, rfl, ⟨⟨rfl, rfl, rfl, Nat.le_refl _, Nat.le_refl _, Nat.le_refl _⟩, arr_sv (fun s hs => arr_eqv fun b hb => by simp only [Int.toNat_natCast]; simp) (fun _ _ => rfl)⟩, Nat.zero_le _⟩, fun j hj => ⟨fun hlt2 => ?_, fun hge2 v2 e2 => ⟨i + 1, e2.trans (l_succ (by omega)), ⟨⟨rfl, rfl, rfl, Nat.le_refl _, Nat.le_refl _, Nat.le_refl _⟩, arr_sv (fun s hs => arr_eqv fun b hb => ?_) (fun _ _ => rfl)⟩, by omega, by omega⟩⟩⟩
    · have hlt2 := of_decide_eq_true hlt2
      refine ⟨⟨by omega, by omega⟩, ⟨by omega, by omega⟩, fun v1 e1 v2 e2 v3 e3 => ⟨by omega, by omega, by omega, by omega, ⟨rfl, rfl⟩, by omega, by omega, fun v4 e4 => ⟨j + 1, e4.trans (l_succ (by omega)), ⟨⟨rfl, rfl, rfl, Nat.le_refl _, Nat.le_refl _, Nat.le_refl _⟩, arr_sv (fun s hs => arr_eqv fun b hb => ?_) (fun _ _ => rfl)⟩, by omega, by omega⟩⟩⟩
      subst e1 e2 e3
      by_cases q1 : s = i
      · subst q1
        by_cases q2 : b = j
        · subst q2; simp
        · simp [q2, show b < j + 1 ↔ b < j by omega]
      · simp [q1]
    · have hge2 := of_decide_eq_false hge2
      have : j = 2 := by omega
      subst this
      simp [hb, show s < i + 1 ↔ s < i ∨ s = i by omega]
  · have hge := of_decide_eq_false hge
    have : i = 64 := by omega
    subst this
    exact ⟨⟨rfl, rfl⟩, ⟨rfl, rfl⟩, ⟨rfl, rfl⟩, arr_sv (fun s hs => arr_eqv fun b hb => by simp [hs]) (fun _ _ => rfl)⟩
end Vt
