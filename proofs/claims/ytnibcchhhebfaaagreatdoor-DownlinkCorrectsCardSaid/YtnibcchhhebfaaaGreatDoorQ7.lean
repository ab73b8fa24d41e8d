/-
  OWN WORK. The best way through the trellis: soft values, which survivor is better, decoding without noise.
-/
import Derived.Test.YtnibcchhhebfaaaGreatDoorQ2
import Derived.Test.YtnibcchhhebfaaaGreatDoorSri
import Derived.Test.YtnibcchhhebfaaaGreatDoorEngT
import Derived.Deep.Draws
import Derived.RegionTactic
namespace Vt
open Go Go.Proofs Eng
set_option linter.unusedVariables false
set_option linter.unusedSimpArgs false
set_option maxRecDepth 100000
set_option maxHeartbeats 4000000
abbrev edG (p : Nat → Nat → Bool) : Nat → SV := fun t => .arr 2 3 fun k => .agg [.int .i64 (if p t k then (frm t k : Nat) else 0), .int .i64 (if p t k then (fs (frm t k) (t / 32) : Nat) else 0), .int .i64 (if p t k then (sc (frm t k) (t / 32) : Nat) else 0)]
def dn (s b t k : Nat) : Bool := decide (frm t k < s) || (decide (frm t k = s) && decide (t / 32 < b))
def cn (s b t : Nat) : Nat := (if dn s b t 0 then 1 else 0) + (if dn s b t 1 then 1 else 0)
theorem dn_zero (t k : Nat) : dn 0 0 t k = false := by unfold dn; simp
theorem dn_next {s t k : Nat} (ht : t < 64) : dn s 2 t k = dn (s + 1) 0 t k := by
  unfold dn
  rw [Bool.eq_iff_iff]
  simp only [Bool.or_eq_true, Bool.and_eq_true, decide_eq_true_eq]
  omega
theorem dn_all {t k : Nat} (hk : k < 2) : dn 64 0 t k = true := by
  have := frm_lt (t := t) hk
  unfold dn
  rw [decide_eq_true this]; rfl
theorem dn_step {s b t k : Nat} (hs : s < 64) (hb : b < 2) (ht : t < 64) (hk : k < 2) : dn s (b + 1) t k = (dn s b t k || (decide (t = nxt s b) && decide (k = s % 2))) := by
  unfold dn
  rw [Bool.eq_iff_iff]
  simp only [Bool.or_eq_true, Bool.and_eq_true, decide_eq_true_eq]
  unfold frm nxt reg
  omega
theorem cn_zero (t : Nat) : cn 0 0 t = 0 := by simp [cn, dn_zero]
theorem cn_next {s t : Nat} (ht : t < 64) : cn s 2 t = cn (s + 1) 0 t := by unfold cn; rw [dn_next ht, dn_next ht]
theorem cn_at {s b : Nat} (hs : s < 64) (hb : b < 2) : cn s b (nxt s b) = s % 2 := by
  have h0 : dn s b (nxt s b) 0 = decide (s % 2 = 1) := by
    unfold dn
    rw [Bool.eq_iff_iff]
    simp only [Bool.or_eq_true, Bool.and_eq_true, decide_eq_true_eq]
    unfold frm nxt reg
    omega
  have h1 : dn s b (nxt s b) 1 = false := by
    unfold dn
    rw [Bool.eq_false_iff]
    simp only [ne_eq, Bool.or_eq_true, Bool.and_eq_true, decide_eq_true_eq]
    unfold frm nxt reg
    omega
  unfold cn
  rw [h0, h1]
  by_cases q : s % 2 = 1
  · simp [q]
  · simp [q]; omega
theorem cn_step {s b t : Nat} (hs : s < 64) (hb : b < 2) (ht : t < 64) : cn s (b + 1) t = if t = nxt s b then cn s b t + 1 else cn s b t := by
  unfold cn
  rw [dn_step hs hb ht (by decide), dn_step hs hb ht (by decide)]
  by_cases q : t = nxt s b
  · rw [if_pos q]
    have h := cn_at hs hb
    rw [← q] at h
    unfold cn at h
    rcases (by omega : s % 2 = 0 ∨ s % 2 = 1) with e | e
    · rw [e] at h
      have h0 : dn s b t 0 = false := by
        cases hh : dn s b t 0 with
        | false => rfl
        | true => rw [hh] at h; simp at h
      simp [q, e, q ▸ h0]
      omega
    · rw [e] at h
      have h1 : dn s b t 1 = false := by
        subst q
        unfold dn
        rw [Bool.eq_false_iff]
        simp only [ne_eq, Bool.or_eq_true, Bool.and_eq_true, decide_eq_true_eq]
        unfold frm nxt reg
        omega
      simp [q, e, q ▸ h1]
  · simp [q]
abbrev edEnts (fr : Fr) (H : Hp) (s b : Nat) : Hp := [{ entG H (ptG (slotV fr 1)) with get := fun _ => .arr 64 6 (edG (dn s b)) }, { entG H (ptG (slotV fr 2)) with get := fun _ => .arr 64 1 fun t => .int .i64 (cn s b t : Nat) }]
def edLoop (fr : Fr) (H : Hp) : LA := ⟨4, Nat, [8], fun s => [.int .i64 (s : Nat)], [ptG (slotV fr 1), ptG (slotV fr 2)], fun s => edEnts fr H s 0, fun s => s ≤ 64, fun s => 64 - s⟩
def edLoop2 (fr : Fr) (H : Hp) : LA := ⟨7, Nat, [11], fun b => [.int .i64 (b : Nat)], [ptG (slotV fr 1), ptG (slotV fr 2)], fun b => edEnts fr H (intOf (slotV fr 3)).toNat b, fun b => b ≤ 2, fun b => 2 - b⟩
abbrev edgV : SV := .arr 64 6 (edG fun _ _ => true)
def edgC := pcOf .nil (fun _ => []) (fun _ => edgV)
theorem edg_ok : PcOk Tryz.prog 85 edgC := by
  refine pcOf_run (fun _ => ETR_ok) Tryz.func85 rfl (by kernel_rfl) (fun _ => fun i hi => ⟨fun j hj => ⟨⟨trivial, rfl, trivial, rfl, trivial, rfl, trivial⟩, rfl, rfl⟩, rfl, rfl⟩)
    (fun x => [.loopD 4 edLoop, .loopD 7 edLoop2, .draw 10 (.take 0 (.take 1 (.take 2 (.take 3 (.take 4 (.take 5 (.take 6 (.take 7 (.take 8 (.take 9 (.br 10 .fin .stop))))))))))) [1]]) (fun _ => Nat.le_of_ble_eq_true rfl) (fun ⟨⟩ hp hw => ?_)
  refine vc_of (q :=
      ∀ (b1 b2 b3:Nat), (∃ (x1:Nat), (0:Int)=(↑x1:Int)∧((b2=b2∧0=0∧false=false∧1≤1∧1≤1∧1≤1)∧SVeq (SV.arr 64 6 fun (x:Nat) ↦ SV.arr 2 3 fun (x:Nat) ↦ SV.agg [SV.int IntKind.i64 (0:Int), SV.int IntKind.i64 (0:Int), SV.int IntKind.i64 (0:Int)]) (SV.arr 64 6 fun (t:Nat) ↦ SV.arr 2 3 fun (k:Nat) ↦ SV.agg [SV.int IntKind.i64 (if Vt.dn x1 0 t k=true then (↑(Vt.frm t k):Int) else (0:Int)), SV.int IntKind.i64 (if
      Vt.dn x1 0 t k=true then (↑(Vt.fs (Vt.frm t k) (t / 32)):Int) else (0:Int)), SV.int IntKind.i64 (if Vt.dn x1 0 t k=true then (↑(Vt.sc (Vt.frm t k) (t / 32)):Int) else (0:Int))]))∧((b3=b3∧0=0∧false=false∧1≤1∧1≤1∧1≤1)∧SVeq (SV.arr 64 1 fun (x:Nat) ↦ SV.int IntKind.i64 (0:Int)) (SV.arr 64 1 fun (t:Nat) ↦ SV.int IntKind.i64 (↑(Vt.cn x1 0 t):Int)))∧Nat.le x1 64)∧∀ (b4:Nat), b4≤64→(decide ((↑b4:Int) <
      (64:Int))=true→(∃ (x2:Nat), (0:Int)=(↑x2:Int)∧((b2=b2∧0=0∧false=false∧1≤1∧1≤1∧1≤1)∧SVeq (SV.arr 64 6 fun (t:Nat) ↦ SV.arr 2 3 fun (k:Nat) ↦ SV.agg [SV.int IntKind.i64 (if Vt.dn b4 0 t k=true then (↑(Vt.frm t k):Int) else (0:Int)), SV.int IntKind.i64 (if Vt.dn b4 0 t k=true then (↑(Vt.fs (Vt.frm t k) (t / 32)):Int) else (0:Int)), SV.int IntKind.i64 (if Vt.dn b4 0 t k=true then (↑(Vt.sc (Vt.frm t k)
      (t / 32)):Int) else (0:Int))]) (SV.arr 64 6 fun (t:Nat) ↦ SV.arr 2 3 fun (k:Nat) ↦ SV.agg [SV.int IntKind.i64 (if Vt.dn (Int.toNat (↑b4:Int)) x2 t k=true then (↑(Vt.frm t k):Int) else (0:Int)), SV.int IntKind.i64 (if Vt.dn (Int.toNat (↑b4:Int)) x2 t k=true then (↑(Vt.fs (Vt.frm t k) (t / 32)):Int) else (0:Int)), SV.int IntKind.i64 (if Vt.dn (Int.toNat (↑b4:Int)) x2 t k=true then (↑(Vt.sc (Vt.frm t
      k) (t / 32)):Int) else (0:Int))]))∧((b3=b3∧0=0∧false=false∧1≤1∧1≤1∧1≤1)∧SVeq (SV.arr 64 1 fun (t:Nat) ↦ SV.int IntKind.i64 (↑(Vt.cn b4 0 t):Int)) (SV.arr 64 1 fun (t:Nat) ↦ SV.int IntKind.i64 (↑(Vt.cn (Int.toNat (↑b4:Int)) x2 t):Int)))∧Nat.le x2 2)∧∀ (b5:Nat), b5≤2→(decide ((↑b5:Int) < (2:Int))=true→((0:Int)≤(↑b4:Int)∧(↑b4:Int) < (64:Int))∧((0:Int)≤(↑b5:Int)∧(↑b5:Int) < (2:Int))∧∀ (v1:Int),
      v1=(↑(Vt.nxt (Int.toNat (↑b4:Int)) (Int.toNat (↑b5:Int))):Int)→∀ (v2:Int), v2=(↑(Vt.fs (Int.toNat (↑b4:Int)) (Int.toNat (↑b5:Int))):Int)→∀ (v3:Int), v3=(↑(Vt.sc (Int.toNat (↑b4:Int)) (Int.toNat (↑b5:Int))):Int)→0≤v1∧v1 < (↑(64:Nat):Int)∧(b3=b3∧0=0)∧Int.toNat v1 < 64∧0≤v1∧v1 < (↑(64:Nat):Int)∧(0:Int)≤(↑(Vt.cn (Int.toNat (↑b4:Int)) b5 (Int.toNat v1)):Int)∧(↑(Vt.cn (Int.toNat (↑b4:Int)) b5 (Int.toNat
      v1)):Int) < (↑(2:Nat):Int)∧((b2=b2∧0=0)∧Int.toNat v1 < 64∧Int.toNat (↑(Vt.cn (Int.toNat (↑b4:Int)) b5 (Int.toNat v1)):Int) < 2∧0≤v1∧v1 < (↑(64:Nat):Int)∧(b3=b3∧0=0)∧Int.toNat v1 < 64∧∀ (v4:Int), v4=IntKind.i64.wrap ((↑(Vt.cn (Int.toNat (↑b4:Int)) b5 (Int.toNat v1)):Int)+(1:Int))→0≤v1∧v1 < (↑(64:Nat):Int)∧(b3=b3∧0=0)∧Int.toNat v1 < 64∧∀ (v5:Int), v5=IntKind.i64.wrap ((↑b5:Int)+(1:Int))→∃ (x3:Nat),
      v5=(↑x3:Int)∧((b2=b2∧0=0∧false=false∧1≤1∧1≤1∧1≤1)∧SVeq (SV.arr 64 6 fun (k:Nat) ↦ SV.arr 2 3 fun (k_1:Nat) ↦ SV.agg [SV.int IntKind.i64 (if k=Int.toNat v1 then if k_1=Int.toNat (↑(Vt.cn (Int.toNat (↑b4:Int)) b5 (Int.toNat v1)):Int) then (↑b4:Int) else if Vt.dn (Int.toNat (↑b4:Int)) b5 (Int.toNat v1) k_1=true then (↑(Vt.frm (Int.toNat v1) k_1):Int) else (0:Int) else if Vt.dn (Int.toNat (↑b4:Int)) b5
      k k_1=true then (↑(Vt.frm k k_1):Int) else (0:Int)), SV.int IntKind.i64 (if k=Int.toNat v1 then if k_1=Int.toNat (↑(Vt.cn (Int.toNat (↑b4:Int)) b5 (Int.toNat v1)):Int) then v2 else if Vt.dn (Int.toNat (↑b4:Int)) b5 (Int.toNat v1) k_1=true then (↑(Vt.fs (Vt.frm (Int.toNat v1) k_1) (Int.toNat v1 / 32)):Int) else (0:Int) else if Vt.dn (Int.toNat (↑b4:Int)) b5 k k_1=true then (↑(Vt.fs (Vt.frm k k_1) (k
      / 32)):Int) else (0:Int)), SV.int IntKind.i64 (if k=Int.toNat v1 then if k_1=Int.toNat (↑(Vt.cn (Int.toNat (↑b4:Int)) b5 (Int.toNat v1)):Int) then v3 else if Vt.dn (Int.toNat (↑b4:Int)) b5 (Int.toNat v1) k_1=true then (↑(Vt.sc (Vt.frm (Int.toNat v1) k_1) (Int.toNat v1 / 32)):Int) else (0:Int) else if Vt.dn (Int.toNat (↑b4:Int)) b5 k k_1=true then (↑(Vt.sc (Vt.frm k k_1) (k / 32)):Int) else
      (0:Int))]) (SV.arr 64 6 fun (t:Nat) ↦ SV.arr 2 3 fun (k:Nat) ↦ SV.agg [SV.int IntKind.i64 (if Vt.dn (Int.toNat (↑b4:Int)) x3 t k=true then (↑(Vt.frm t k):Int) else (0:Int)), SV.int IntKind.i64 (if Vt.dn (Int.toNat (↑b4:Int)) x3 t k=true then (↑(Vt.fs (Vt.frm t k) (t / 32)):Int) else (0:Int)), SV.int IntKind.i64 (if Vt.dn (Int.toNat (↑b4:Int)) x3 t k=true then (↑(Vt.sc (Vt.frm t k) (t / 32)):Int)
      else (0:Int))]))∧((b3=b3∧0=0∧false=false∧1≤1∧1≤1∧1≤1)∧SVeq (SV.arr 64 1 fun (k:Nat) ↦ SV.int IntKind.i64 (if k=Int.toNat v1 then v4 else (↑(Vt.cn (Int.toNat (↑b4:Int)) b5 k):Int))) (SV.arr 64 1 fun (t:Nat) ↦ SV.int IntKind.i64 (↑(Vt.cn (Int.toNat (↑b4:Int)) x3 t):Int)))∧x3≤2∧2 - x3 < 2 - b5)∧True)∧(decide ((↑b5:Int) < (2:Int))=false→∀ (v2:Int), v2=IntKind.i64.wrap ((↑b4:Int)+(1:Int))→∃ (x3:Nat),
      v2=(↑x3:Int)∧((b2=b2∧0=0∧false=false∧1≤1∧1≤1∧1≤1)∧SVeq (SV.arr 64 6 fun (t:Nat) ↦ SV.arr 2 3 fun (k:Nat) ↦ SV.agg [SV.int IntKind.i64 (if Vt.dn (Int.toNat (↑b4:Int)) b5 t k=true then (↑(Vt.frm t k):Int) else (0:Int)), SV.int IntKind.i64 (if Vt.dn (Int.toNat (↑b4:Int)) b5 t k=true then (↑(Vt.fs (Vt.frm t k) (t / 32)):Int) else (0:Int)), SV.int IntKind.i64 (if Vt.dn (Int.toNat (↑b4:Int)) b5 t k=true
      then (↑(Vt.sc (Vt.frm t k) (t / 32)):Int) else (0:Int))]) (SV.arr 64 6 fun (t:Nat) ↦ SV.arr 2 3 fun (k:Nat) ↦ SV.agg [SV.int IntKind.i64 (if Vt.dn x3 0 t k=true then (↑(Vt.frm t k):Int) else (0:Int)), SV.int IntKind.i64 (if Vt.dn x3 0 t k=true then (↑(Vt.fs (Vt.frm t k) (t / 32)):Int) else (0:Int)), SV.int IntKind.i64 (if Vt.dn x3 0 t k=true then (↑(Vt.sc (Vt.frm t k) (t / 32)):Int) else
      (0:Int))]))∧((b3=b3∧0=0∧false=false∧1≤1∧1≤1∧1≤1)∧SVeq (SV.arr 64 1 fun (t:Nat) ↦ SV.int IntKind.i64 (↑(Vt.cn (Int.toNat (↑b4:Int)) b5 t):Int)) (SV.arr 64 1 fun (t:Nat) ↦ SV.int IntKind.i64 (↑(Vt.cn x3 0 t):Int)))∧x3≤64∧64 - x3 < 64 - b4))∧(decide ((↑b4:Int) < (64:Int))=false→(b2=b2∧0=0)∧(b1=b1∧0=0)∧(b1=b1∧0=0)∧SVeq (SV.arr 64 6 fun (t:Nat) ↦ SV.arr 2 3 fun (k:Nat) ↦ SV.agg [SV.int IntKind.i64 (if
      Vt.dn b4 0 t k=true then (↑(Vt.frm t k):Int) else (0:Int)), SV.int IntKind.i64 (if Vt.dn b4 0 t k=true then (↑(Vt.fs (Vt.frm t k) (t / 32)):Int) else (0:Int)), SV.int IntKind.i64 (if Vt.dn b4 0 t k=true then (↑(Vt.sc (Vt.frm t k) (t / 32)):Int) else (0:Int))]) (SV.arr 64 6 fun (t:Nat) ↦ SV.arr 2 3 fun (k:Nat) ↦ SV.agg [SV.int IntKind.i64 (if true=true then (↑(Vt.frm t k):Int) else (0:Int)), SV.int
      IntKind.i64 (if true=true then (↑(Vt.fs (Vt.frm t k) (t / 32)):Int) else (0:Int)), SV.int IntKind.i64 (if true=true then (↑(Vt.sc (Vt.frm t k) (t / 32)):Int) else (0:Int))]))) (by kernel_rfl) ?_
  have T2 : ∀ (X : Nat → Nat → SV) (Y : Nat → Nat → SV), (∀ t, t < 64 → ∀ k, k < 2 → X t k = Y t k) → SVeq (.arr 64 6 fun t => .arr 2 3 (X t)) (.arr 64 6 fun t => .arr 2 3 (Y t)) := fun X Y h => arr_sv (fun t ht => arr_eqv fun k hk => h t ht k hk) (fun _ _ => rfl)
  refine fun b1 b2 b3 => ⟨⟨0, rfl, ⟨⟨rfl, rfl, rfl, Nat.le_refl _, Nat.le_refl _, Nat.le_refl _⟩, T2 _ _ fun t ht k hk => by rw [dn_zero]; rfl⟩, ⟨⟨rfl, rfl, rfl, Nat.le_refl _, Nat.le_refl _, Nat.le_refl _⟩, arr_eqv fun t ht => by rw [cn_zero]; rfl⟩, Nat.zero_le _⟩, fun s hs => ⟨fun hlt => ?_, fun hge => ?_⟩⟩
  · have hlt := of_decide_eq_true hlt
    refine ⟨⟨0, rfl, ⟨⟨rfl, rfl, rfl, Nat.le_refl _, Nat.le_refl _, Nat.le_refl _⟩, SVeq.of_eq rfl⟩, ⟨⟨rfl, rfl, rfl, Nat.le_refl _, Nat.le_refl _, Nat.le_refl _⟩, SVeq.of_eq rfl⟩, Nat.zero_le _⟩, fun b hb => ⟨fun hlt2 => ?_, fun hge2 v2 e2 => ⟨s + 1, e2.trans (l_succ (by omega)), ⟨⟨rfl, rfl, rfl, Nat.le_refl _, Nat.le_refl _, Nat.le_refl _⟩, T2 _ _ fun t ht k hk => ?_⟩, ⟨⟨rfl, rfl, rfl, Nat.le_refl _, Nat.le_refl _, Nat.le_refl _⟩, arr_eqv fun t ht => ?_⟩, by omega, by omega⟩⟩⟩
    · have hlt2 := of_decide_eq_true hlt2
      have hs : s < 64 := by omega
      have hb : b < 2 := by omega
      have hn := nxt_lt hs hb
      have hc := cn_at hs hb
      refine ⟨⟨by omega, by omega⟩, ⟨by omega, by omega⟩, fun v1 e1 v2 e2 v3 e3 => ?_⟩
      rw [Int.toNat_natCast, Int.toNat_natCast] at e1 e2 e3
      subst e1 e2 e3
      rw [Int.toNat_natCast, Int.toNat_natCast, hc]
      refine ⟨by omega, by omega, ⟨rfl, rfl⟩, by omega, by omega, by omega, by omega, by omega, ⟨⟨rfl, rfl⟩, by omega, by omega, by omega, by omega, ⟨rfl, rfl⟩, by omega, fun v4 e4 => ⟨by omega, by omega, ⟨rfl, rfl⟩, by omega, fun v5 e5 => ⟨b + 1, e5.trans (l_succ (by omega)), ⟨⟨rfl, rfl, rfl, Nat.le_refl _, Nat.le_refl _, Nat.le_refl _⟩, T2 _ _ fun t ht k hk => ?_⟩, ⟨⟨rfl, rfl, rfl, Nat.le_refl _, Nat.le_refl _, Nat.le_refl _⟩, arr_eqv fun t ht => ?_⟩, by omega, by omega⟩⟩⟩, trivial⟩
      · rw [Int.toNat_natCast]
        rw [dn_step hs hb ht hk]
        by_cases q1 : t = nxt s b
        · subst q1
          by_cases q2 : k = s % 2
          · subst q2
            simp [(frm_nxt hs hb).2, (frm_nxt hs hb).1]
          · simp [q2]
        · simp [q1]
      · rw [cn_step hs hb ht, e4]
        by_cases q1 : t = nxt s b
        · subst q1
          rw [if_pos rfl, if_pos rfl, hc]
          rw [w64_id (by omega) (by omega)]
          rfl
        · rw [if_neg q1, if_neg q1]
    · have hge2 := of_decide_eq_false hge2
      have : b = 2 := by omega
      subst this
      rw [Int.toNat_natCast, dn_next ht]
    · have hge2 := of_decide_eq_false hge2
      have : b = 2 := by omega
      subst this
      rw [Int.toNat_natCast, cn_next ht]
  · have hge := of_decide_eq_false hge
    have : s = 64 := by omega
    subst this
    exact ⟨⟨rfl, rfl⟩, ⟨rfl, rfl⟩, ⟨rfl, rfl⟩, T2 _ _ fun t ht k hk => by rw [dn_all hk]⟩
end Vt
namespace Vt
open Go Go.Proofs Eng Go.Shelf Go.RowKit Go.Lib Go.Sort
set_option linter.unusedVariables false
set_option linter.unusedSimpArgs false
set_option maxHeartbeats 4000000
set_option maxRecDepth 100000
theorem rk_cmp (W : World) (b5 o5 b4 o4 wb wo fb fo : Nat) (a b x y : Nat) (ha : a < 64) (hb : b < 64) (hx : x < 64) (hy : y < 64) (r s : Int) (hr : 0 ≤ r ∧ r < 64) (hs : 0 ≤ s ∧ s < 64)
    (h5 : W.cell? ⟨b5, o5, none⟩ = some (.pointer (some ⟨wb, wo, none⟩))) (h4 : W.cell? ⟨b4, o4, none⟩ = some (.pointer (some ⟨fb, fo, none⟩)))
    (hFa : W.cell? ⟨fb, fo + a, none⟩ = some (.int .i64 (x : Nat))) (hFb : W.cell? ⟨fb, fo + b, none⟩ = some (.int .i64 (y : Nat)))
    (hWa : W.cell? ⟨wb, wo + x * 2 + 1, none⟩ = some (.int .i64 r)) (hWb : W.cell? ⟨wb, wo + y * 2 + 1, none⟩ = some (.int .i64 s)) :
    Calls Tryz.prog 119 #[.int .i64 (a : Nat), .int .i64 (b : Nat), .pointer (some ⟨b5, o5, none⟩), .pointer (some ⟨b4, o4, none⟩)] W fun e w' => e = .returned (.int .i64 (if r - s = 0 then (a : Int) / 32 - (b : Int) / 32 else r - s)) ∧ ∃ q, w' = W.drewN q := by
  by_cases hd : r - s = 0
  · rw [if_pos hd]
    go_enter Tryz.func119, Tryz.ntmps119
    go_wp2
    go_region
    simp only [Exit.then]
    go_at_K
    go_wp2
    go_ret
    exact ⟨rfl, 1, rfl⟩
  · rw [if_neg hd]
    go_enter Tryz.func119, Tryz.ntmps119
    go_wp2
    go_region
    simp only [Exit.then]
    go_at_K
    go_wp2
    go_ret
    exact ⟨rfl, 1, rfl⟩
abbrev eSv : Elt (Int × Int × Unit) := .agg (.cons (.int .i64) (.cons (.int .i64) .nil))
abbrev eI : Elt Int := .int .i64
def inR (f : Nat → Int) : Prop := ∀ k, k < 64 → 0 ≤ f k ∧ f k < 64
abbrev aRk : ArgL ((Nat × Nat × (Nat × Nat × (Nat → Int × Int × Unit))) × (Nat × Nat × (Nat × Nat × (Nat → Int))) × Unit) := .cons (.ptr 1 (.prow 64 eSv)) (.cons (.ptr 1 (.ptr 64 (.arr 64 eI))) .nil)
abbrev aSrt : ArgL ((Nat × Nat × (Nat → Int)) × ((Nat × Nat × (Nat × Nat × (Nat → Int × Int × Unit))) × (Nat × Nat × (Nat × Nat × (Nat → Int))) × Unit) × Unit) := .cons (.oarr 140 64 eI) (.cons (.fnc 119 aRk) .nil)
def srtC := ecU aSrt (fun x => [inR x.1.2.2, inR (fun k => (x.2.1.1.2.2.2.2 k).2.1), inR x.2.1.2.1.2.2.2.2]) (fun _ (g : Nat → Int) => inR g) (fun x g => ((x.1.1, x.1.2.1, g), x.2)) (fun _ _ => .tup [])
def encF (x : Fin 64) : Value := .int .i64 (x.val : Nat)
def fin (z : Int) : Fin 64 := ⟨z.toNat % 64, Nat.mod_lt _ (by decide)⟩
def cmpF (u : Nat → Int) (fr : Nat → Int) (x y : Fin 64) : Int := if u (fr x.val).toNat - u (fr y.val).toNat = 0 then (x.val : Int) / 32 - (y.val : Int) / 32 else u (fr x.val).toNat - u (fr y.val).toNat
theorem swoF (u fr : Nat → Int) : SWO (ltOf (cmpF u fr)) where
  irrefl x := by unfold ltOf cmpF; rw [if_pos (by omega)]; exact decide_eq_false (by omega)
  trans x y z h1 h2 := by
    unfold ltOf cmpF at *
    have h1 := of_decide_eq_true h1
    have h2 := of_decide_eq_true h2
    refine decide_eq_true ?_
    split at h1 <;> split at h2 <;> split <;> omega
  ntrans x y z h1 h2 := by
    unfold ltOf cmpF at *
    have h1 := of_decide_eq_false h1
    have h2 := of_decide_eq_false h2
    refine decide_eq_false ?_
    split at h1 <;> split at h2 <;> split <;> omega
abbrev entO (b off : Nat) (f : Nat → Int) : Ent := ⟨0, b, off, 64, 1, fun _ => .arr 64 1 fun k => .int .i64 (f k), true, true, 1, 140, false, none⟩
theorem flat_ints (f : Nat → Int) (k : Nat) (hk : k < 64) : (SV.arr 64 1 fun k => .int .i64 (f k)).flat[k]? = some (.int .i64 (f k)) := by
  have := get_flatMap_range (fun i => (SV.int .i64 (f i)).flat) 1 64 (fun i _ => rfl) k 0 hk (by decide)
  rw [Nat.mul_one, Nat.add_zero] at this
  exact this
theorem ordS_sat {C : Ctx} {w : World} {b off : Nat} {f g : Nat → Int} (hK : Kept C w) (hE : EntOk C w (entO b off f)) (d : Array (Fin 64)) (hl : d.size = 64) (hd : ∀ k, k < 64 → ((d[k]!).val : Int) = g k) (n' : Nat) (os : Array Obj) :
    Sat C [entO b off g] (sortWorld encF w b off n' d os) := by
  obtain ⟨o1, o2, cs, fz, o3, o4, o5⟩ := hE.ow rfl rfl rfl
  dsimp only at o1 o2 o3 o4
  have hlt : b < w.heap.size := (Array.getElem?_eq_some_iff.1 o3).1
  have hh : ∀ k, k < w.heap.size → (sortWorld encF w b off n' d os).heap[k]? = if k = b then some (.cells (Sort.putCells encF off d cs) 140 fz) else w.heap[k]? := fun k hk => by
    unfold sortWorld
    rw [Sort.heap_grow_old _ _ (by simpa using hk)]
    unfold Sort.putRow Sort.mapBlock
    dsimp only
    rw [Array.getElem?_modify]
    by_cases q : k = b
    · subst q
      rw [if_pos rfl, if_pos rfl, Sort.heap_ahead, o3]
      rfl
    · rw [if_neg q, if_neg (fun q' => q q'.symm), Sort.heap_ahead]
  have hb := hh b hlt
  rw [if_pos rfl] at hb
  have hsz : (Sort.putCells encF off d cs).size = cs.size := by simp [Sort.putCells]
  refine ⟨⟨hK.os, hK.tape, hK.output, ?_, fun k hk hM => ?_⟩, fun e he => ?_, List.pairwise_singleton _ _⟩
  · unfold sortWorld
    rw [Sort.size_grow, Sort.size_putRow]; exact Nat.le_trans hK.size (Nat.le_add_right _ _)
  · rw [hh k (Nat.lt_of_lt_of_le hk hK.size), if_neg]
    · exact hK.block k hk hM
    · rintro rfl
      rcases o1 with q | q
      · omega
      · exact hM q
  · rw [List.mem_singleton] at he
    subst he
    refine ⟨(fun _ => Nat.le_refl _), (fun q => by cases q), (fun q => by cases q), fun _ _ _ => ⟨o1, o2, _, fz, hb, by rw [hsz]; exact o4, by rw [hsz]; exact o5⟩, (fun f q => by cases q), (fun f q => by cases q), fun i hi => ⟨.inl (fun _ _ => ⟨trivial, rfl, rfl⟩), rfl, rfl, fun k hk => ?_⟩⟩
    dsimp only at hi ⊢
    have hi0 : i = 0 := by omega
    subst hi0
    have hk : k < 64 := hk
    have hr := (hE.row 0 Nat.zero_lt_one).2.2.2 k hk
    dsimp only at hr
    rw [flat_ints _ _ hk] at hr ⊢
    simp only [World.cell?, o3, Option.isSome_none, Bool.false_eq_true, if_false] at hr
    simp only [World.cell?, hb, Option.isSome_none, Bool.false_eq_true, if_false]
    simp only [Sort.putCells, Array.getElem?_mapIdx, hr, hl, Option.map_some]
    rw [if_pos (by omega), show off + 0 * 64 + k - off = k by omega]
    unfold encF
    rw [hd k hk]
theorem srt_ok : EcOk Tryz.prog 118 srtC := by
  refine ecC_hand (goFn_of Tryz.func118 rfl rfl) (fun ⟨⟨b, off, f⟩, ⟨⟨b5, o5, wb, wo, u⟩, ⟨b4, o4, fb, fo, fr⟩, ()⟩, ()⟩ hp hw C w hS => ?_) (fun x y e he => by
    rw [show _ = List.filter _ _ from owned_eq _] at he
    simpa using (List.mem_filter.1 he).2)
  obtain ⟨p1, p2, p3, _⟩ := hp
  dsimp only at p1 p2 p3
  have hS : Sat C [entO b off f, ⟨1, b5, o5, 1, 1, fun _ => .ptr 2 wb wo [], false, true, 0, 0, false, none⟩, ⟨2, wb, wo, 2, 64, fun k => .agg [.int .i64 (u k).1, .int .i64 (u k).2.1], false, false, 0, 0, false, none⟩, ⟨3, b4, o4, 1, 1, fun _ => .ptr 4 fb fo [.elt 0 64], false, true, 0, 0, false, none⟩, ⟨4, fb, fo, 64, 1, fun _ => .arr 64 1 fun k => .int .i64 (fr k), false, true, 0, 0, false, none⟩] w := hS
  have hE := hS.ents _ (List.mem_cons_self ..)
  have hx5 := hS.ents _ (List.mem_cons_of_mem _ (List.mem_cons_self ..))
  have hxw := hS.ents _ (List.mem_cons_of_mem _ (List.mem_cons_of_mem _ (List.mem_cons_self ..)))
  have hx4 := hS.ents _ (List.mem_cons_of_mem _ (List.mem_cons_of_mem _ (List.mem_cons_of_mem _ (List.mem_cons_self ..))))
  have hxf := hS.ents _ (List.mem_cons_of_mem _ (List.mem_cons_of_mem _ (List.mem_cons_of_mem _ (List.mem_cons_of_mem _ (List.mem_cons_self ..)))))
  obtain ⟨q1, q2, cs, fz, q3, q4, q5⟩ := hE.ow rfl rfl rfl
  dsimp only at q1 q2 q3 q4
  have hlt : b < w.heap.size := (Array.getElem?_eq_some_iff.1 q3).1
  have ne : ∀ k, (k < C.w0.heap.size ∧ ¬ C.M k) → k ≠ b ∧ k < w.heap.size := by
    rintro k ⟨k1, k2⟩
    refine ⟨?_, Nat.lt_of_lt_of_le k1 hS.kept.size⟩
    rintro rfl
    rcases q1 with q | q
    · omega
    · exact k2 q
  have n5 := ne b5 (hx5.ro rfl rfl rfl)
  have nw := ne wb (hxw.ro rfl rfl rfl)
  have n4 := ne b4 (hx4.ro rfl rfl rfl)
  have nf := ne fb (hxf.ro rfl rfl rfl)
  have c5 : w.cell? ⟨b5, o5, none⟩ = some (.pointer (some ⟨wb, wo, none⟩)) := by
    have := (hx5.row 0 Nat.zero_lt_one).2.2.2 0 Nat.zero_lt_one
    exact this
  have c4 : w.cell? ⟨b4, o4, none⟩ = some (.pointer (some ⟨fb, fo, none⟩)) := by
    have := (hx4.row 0 Nat.zero_lt_one).2.2.2 0 Nat.zero_lt_one
    exact this
  have cw : ∀ k, k < 64 → w.cell? ⟨wb, wo + k * 2 + 1, none⟩ = some (.int .i64 (u k).2.1) := fun k hk => by
    have := (hxw.row k hk).2.2.2 1 (by decide : 1 < 2)
    exact this
  have cf : ∀ k, k < 64 → w.cell? ⟨fb, fo + k, none⟩ = some (.int .i64 (fr k)) := fun k hk => by
    have := (hxf.row 0 Nat.zero_lt_one).2.2.2 k hk
    dsimp only at this
    rw [flat_ints _ _ hk, show fo + 0 * 64 + k = fo + k by omega] at this
    exact this
  obtain ⟨d, hd⟩ : ∃ d : Array (Fin 64), ((List.range 64).map fun k => fin (f k)).toArray = d := ⟨_, rfl⟩
  have hds : d.size = 64 := by rw [← hd]; simp
  have hdg : ∀ i, i < 64 → d[i]! = fin (f i) := fun i hi => by rw [← hd, getElem!_pos _ _ (by simpa using hi)]; simp
  have hfv : ∀ i, i < 64 → (((fin (f i)).val : Nat) : Int) = f i := fun i hi => by have := p1 i hi; unfold fin; dsimp only; omega
  have hH : Holds encF w b off d := fun j hj => by
    have hj : j < 64 := by omega
    have hr := (hE.row 0 Nat.zero_lt_one).2.2.2 j hj
    dsimp only at hr
    rw [flat_ints _ _ hj, show off + 0 * 64 + j = off + j by omega] at hr
    refine ⟨?_, ?_⟩
    · rw [hr, hdg j hj]
      unfold encF
      rw [hfv j hj]
    · simp only [World.frozen?, q3]
      have := q5 (off + j) (by omega)
      simpa using this
  have eg : ∀ args w, (callFunc 119 args).run Tryz.prog w = .ok (.enter 119 args) w := enters_of Tryz.func119 (by kernel_rfl) rfl
  have hcmp : CmpLays1 Tryz.prog 119 #[.pointer (some ⟨b5, o5, none⟩), .pointer (some ⟨b4, o4, none⟩)] encF (cmpF (fun k => (u k).2.1) fr) b off d.size w := fun m os dk hs x y => by
    have cW : ∀ a : Addr, a.block ≠ b → a.block < w.heap.size → (sortWorld encF w b off m dk os).cell? a = w.cell? a := fun a h1 h2 => by
      unfold sortWorld
      rw [cell?_grow _ _ _ (by simpa using h2), cell?_putRow_other _ _ _ _ _ _ (.inl h1)]
      rfl
    have hx := p3 x.val x.isLt
    have hy := p3 y.val y.isLt
    have ex : (((fr x.val).toNat : Nat) : Int) = fr x.val := by omega
    have ey : (((fr y.val).toNat : Nat) : Int) = fr y.val := by omega
    refine (rk_cmp (sortWorld encF w b off m dk os) b5 o5 b4 o4 wb wo fb fo x.val y.val (fr x.val).toNat (fr y.val).toNat x.isLt y.isLt (by omega) (by omega) (u (fr x.val).toNat).2.1 (u (fr y.val).toNat).2.1 (p2 _ (by omega)) (p2 _ (by omega))
      ((cW _ n5.1 n5.2).trans c5) ((cW _ n4.1 n4.2).trans c4) ((cW _ nf.1 nf.2).trans (by rw [ex]; exact cf _ x.isLt)) ((cW _ nf.1 nf.2).trans (by rw [ey]; exact cf _ y.isLt)) ((cW _ nw.1 nw.2).trans (cw _ (by omega))) ((cW _ nw.1 nw.2).trans (cw _ (by omega)))).mono ?_
    rintro e w' ⟨rfl, q, rfl⟩
    exact ⟨rfl, q, #[], (grow_empty _).symm⟩
  have hc := Any.slices_SortFunc Sri.lays encF (fun _ => rfl) (cmpF (fun k => (u k).2.1) fr) (swoF _ _) 119 _ b off 64 d w eg hcmp hH hlt (by omega)
  have e2 : Sri.ren.f 6 = 118 := rfl
  have e1 : (SV.denL (aSrt.svs 0 ((b, off, f), ((b5, o5, wb, wo, u), (b4, o4, fb, fo, fr), ()), ()))).toArray = #[.slice (some ⟨b, off, none⟩) d.size 64, .func (.func 119) #[] #[.pointer (some ⟨b5, o5, none⟩), .pointer (some ⟨b4, o4, none⟩)]] := by
    rw [hds]
    rfl
  rw [e2] at hc
  rw [e1]
  refine hc.mono ?_
  rintro e w' ⟨rfl, d', n', os, ⟨r1, r2, r3⟩, r4, rfl⟩
  have hs' : d'.size = 64 := r1.trans hds
  exact ⟨fun k => ((d'[k]!).val : Int), fun k _ => ⟨Int.natCast_nonneg _, Int.ofNat_lt.2 (d'[k]!).isLt⟩, trivial, rfl, ordS_sat hS.kept hE d' hs' (fun _ _ => rfl) n' os⟩
/-! ### ranked -/
abbrev aRkd : ArgL ((Nat × Nat × (Nat → Int × Int × Unit)) × (Nat × Nat × (Nat → Int)) × (Nat × Nat × (Nat → Int × Int × Unit)) × Unit) := .cons (.oprow 137 64 eSv) (.cons (.ptr 64 (.arr 64 eI)) (.cons (.prow 64 eSv) .nil))
def rkdC := ecU aRkd (fun x => [inR (fun k => (x.1.2.2 k).2.1), inR x.2.1.2.2, inR (fun k => (x.2.2.1.2.2 k).2.1)]) (fun _ (g : Nat → Int) => inR g) (fun x g => ((x.1.1, x.1.2.1, fun k => ((x.1.2.2 k).1, g k, ())), x.2)) (fun _ _ => .tup [])
def ERK : Env := E0.addE 118 srtC
theorem ERK_ok : EnvOk Tryz.prog ERK := E0_ok.addE srt_ok
def rkLoop (fr : Fr) (H : Hp) : LA := ⟨3, Nat, [10], fun i => [.int .i64 (i : Nat)], [ptG (slotV fr 6)], fun i => [{ entG H (ptG (slotV fr 6)) with get := fun _ => .arr 64 1 fun k => .int .i64 (if k < i then (k : Int) else 0) }], fun i => i ≤ 64, fun i => 64 - i⟩
def rkLoop2 (f : Nat → Int × Int × Unit) (fr : Fr) (H : Hp) : LA := ⟨9, Nat × (Nat → Int), [21], fun s => [.int .i64 (s.1 : Nat)], [ptG (slotV fr 0)], fun s => [{ entG H (ptG (slotV fr 0)) with get := fun k => .agg [.int .i64 (f k).1, .int .i64 (s.2 k)] }], fun s => s.1 ≤ 64 ∧ inR s.2, fun s => 64 - s.1⟩
theorem rkd_ok : EcOk Tryz.prog 87 rkdC := by
  refine ecC_run (fun _ => ERK_ok) Tryz.func87 rfl (by kernel_rfl) []
    (fun x => [.loopD 3 rkLoop, .loopD 9 (rkLoop2 x.1.2.2)]) (fun _ => Nat.le_of_ble_eq_true rfl) (fun ⟨⟨nb, no, nf⟩, ⟨fb, fo, fr⟩, ⟨wb, wo, u⟩, ()⟩ hp hw => ?_)
  obtain ⟨p1, p2, p3, _⟩ := hp
  dsimp only at p1 p2 p3
  refine vc_of (q :=
      ∀ (b1 b2 b3:Nat), (∃ (x1:Nat), (0:Int)=(↑x1:Int)∧((b3=b3∧0=0∧false=false∧1≤1∧1≤1∧1≤1)∧SVeq (SV.arr 64 1 fun (x:Nat) ↦ SV.int IntKind.i64 (0:Int)) (SV.arr 64 1 fun (k:Nat) ↦ SV.int IntKind.i64 (if k < x1 then (↑k:Int) else (0:Int))))∧Nat.le x1 64)∧∀ (b4:Nat), b4≤64→(decide ((↑b4:Int) < (64:Int))=true→(0:Int)≤(↑b4:Int)∧(↑b4:Int) < (↑(64:Nat):Int)∧(b3=b3∧0=0)∧Int.toNat (↑b4:Int) < 64∧∀ (v1:Int),
      v1=IntKind.i64.wrap ((↑b4:Int)+(1:Int))→∃ (x2:Nat), v1=(↑x2:Int)∧((b3=b3∧0=0∧false=false∧1≤1∧1≤1∧1≤1)∧SVeq (SV.arr 64 1 fun (k:Nat) ↦ SV.int IntKind.i64 (if k=Int.toNat (↑b4:Int) then (↑b4:Int) else if k < b4 then (↑k:Int) else (0:Int))) (SV.arr 64 1 fun (k:Nat) ↦ SV.int IntKind.i64 (if k < x2 then (↑k:Int) else (0:Int))))∧x2≤64∧64 - x2 < 64 - b4)∧(decide ((↑b4:Int) <
      (64:Int))=false→(0:Int)≤(↑(64:Nat):Int)∧(↑(64:Nat):Int)≤(↑(64:Nat):Int)∧(b3=b3∧0=0)∧(Int.toNat (↑(64:Nat):Int)=64∧64=64∧false=false∧∀ (k1:Nat), k1 < 64→true=true)∧(b2=b2∧0=0)∧(wb=wb∧wo=wo)∧(∀ (k2:Nat), k2 < 64→true=true)∧(b1=b1∧0=0)∧(fb=fb∧fo=fo)∧(∀ (k3:Nat), k3 < 64→true=true)∧∀ (x'1:(Nat × Nat × (Nat→Int)) × ((Nat × Nat × Nat × Nat × (Nat→Int × Int × Unit)) × (Nat × Nat × Nat × Nat × (Nat→Int)) ×
      Unit) × Unit), x'1=((b3, 0, fun (k:Nat) ↦ if k < b4 then (↑k:Int) else (0:Int)), ((b2, 0, wb, wo, u), (b1, 0, fb, fo, fr), ()), ())→Vt.inR (((Prod.fst x'1).2.2))∧(Vt.inR fun (k:Nat) ↦ ((((((((Prod.snd x'1).1).1).2).2).2).2 k).2).1)∧Vt.inR ((((((((Prod.snd x'1).1).2.1)).2).2).2).2)∧∀ (y1:Nat→Int), Vt.inR y1→((Prod.fst x'1).1=b3∧((Prod.fst x'1).2.1)=0)∧(∃ (x2:Nat × (Nat→Int)),
      (0:Int)=(↑x2.1:Int)∧((nb=nb∧no=no∧false=false∧64≤64∧64≤64∧64≤64)∧∀ (i1:Nat), i1 < 64→(nf i1).1=(nf i1).1∧((nf i1).2.1)=x2.2 i1)∧x2.1≤64∧Vt.inR x2.2)∧∀ (x3:Nat × (Nat→Int)), x3.1≤64∧Vt.inR x3.2→(decide ((↑x3.1:Int) < (64:Int))=true→(0:Int)≤(↑x3.1:Int)∧(↑x3.1:Int) < (↑(64:Nat):Int)∧(0:Int)≤y1 (Int.toNat (↑x3.1:Int))∧y1 (Int.toNat (↑x3.1:Int)) < (↑(64:Nat):Int)∧(nb=nb∧no=no)∧Int.toNat (y1 (Int.toNat
      (↑x3.1:Int))) < 64∧∀ (v2:Int), v2=IntKind.i64.wrap ((↑x3.1:Int)+(1:Int))→∃ (x4:Nat × (Nat→Int)), v2=(↑x4.1:Int)∧((nb=nb∧no=no∧false=false∧64≤64∧64≤64∧64≤64)∧∀ (i2:Nat), i2 < 64→(if i2=Int.toNat (y1 (Int.toNat (↑x3.1:Int))) then (nf (Int.toNat (y1 (Int.toNat (↑x3.1:Int))))).1 else (nf i2).1)=(nf i2).1∧(if i2=Int.toNat (y1 (Int.toNat (↑x3.1:Int))) then (↑x3.1:Int) else x3.2 i2)=x4.2
      i2)∧(x4.1≤64∧Vt.inR x4.2)∧64 - x4.1 < 64 - x3.1)∧(decide ((↑x3.1:Int) < (64:Int))=false→∃ (x4:Nat→Int), True∧((nb=nb∧no=no∧false=false∧64≤64∧64≤64∧64≤64)∧∀ (i2:Nat), i2 < 64→(nf i2).1=(nf i2).1∧x3.2 i2=x4 i2)∧∀ (k4:Nat), k4 < 64→(0:Int)≤x4 k4∧x4 k4 < (64:Int)))) (by kernel_rfl) ?_
  have R6 : ∀ b : Nat, b = b ∧ (0 : Nat) = 0 ∧ false = false ∧ 1 ≤ 1 ∧ 1 ≤ 1 ∧ 1 ≤ 1 := fun b => ⟨rfl, rfl, rfl, Nat.le_refl _, Nat.le_refl _, Nat.le_refl _⟩
  have N6 : nb = nb ∧ no = no ∧ false = false ∧ 64 ≤ 64 ∧ 64 ≤ 64 ∧ 64 ≤ 64 := ⟨rfl, rfl, rfl, Nat.le_refl _, Nat.le_refl _, Nat.le_refl _⟩
  refine fun b1 b2 b3 => ⟨⟨0, rfl, ⟨R6 b3, arr_eqv fun k hk => ?_⟩, Nat.zero_le _⟩, fun i hi => ⟨fun hlt => ?_, fun hge => ?_⟩⟩
  · rw [if_neg (Nat.not_lt_zero _)]
  · have hlt := of_decide_eq_true hlt
    refine ⟨by omega, by omega, ⟨rfl, rfl⟩, by omega, fun v1 e1 => ⟨i + 1, e1.trans (l_succ (by omega)), ⟨R6 b3, arr_eqv fun k hk => ?_⟩, by omega, by omega⟩⟩
    rw [Int.toNat_natCast]
    by_cases q : k = i
    · subst q; rw [if_pos rfl, if_pos (by omega)]
    · rw [if_neg q]
      by_cases q2 : k < i
      · rw [if_pos q2, if_pos (by omega)]
      · rw [if_neg q2, if_neg (by omega)]
  · have hge := of_decide_eq_false hge
    obtain rfl : i = 64 := by omega
    refine ⟨by omega, by omega, ⟨rfl, rfl⟩, ⟨rfl, rfl, rfl, fun _ _ => rfl⟩, ⟨rfl, rfl⟩, ⟨rfl, rfl⟩, (fun _ _ => rfl), ⟨rfl, rfl⟩, ⟨rfl, rfl⟩, (fun _ _ => rfl), fun x' hx => ?_⟩
    subst hx
    refine ⟨fun k hk => ?_, p3, p2, fun g hg => ⟨⟨rfl, rfl⟩, ⟨(0, fun k => (nf k).2.1), rfl, ⟨N6, fun i _ => ⟨rfl, rfl⟩⟩, Nat.zero_le _, p1⟩, fun s hs => ⟨fun hlt => ?_, fun hge => ⟨s.2, trivial, ⟨N6, fun i _ => ⟨rfl, rfl⟩⟩, hs.2⟩⟩⟩⟩
    · dsimp only
      rw [if_pos hk]
      omega
    · have hlt := of_decide_eq_true hlt
      obtain ⟨s1, s2⟩ := s
      dsimp only at hlt hs ⊢
      rw [Int.toNat_natCast]
      have hb := hg s1 (by omega)
      refine ⟨by omega, by omega, hb.1, hb.2, ⟨rfl, rfl⟩, by omega, fun v2 e2 => ⟨(s1 + 1, fun k => if k = (g s1).toNat then (s1 : Int) else s2 k), e2.trans (l_succ (by omega)), ⟨N6, fun k hk => ⟨?_, rfl⟩⟩, ⟨by show s1 + 1 ≤ 64; omega, fun k hk => ?_⟩, by show 64 - (s1 + 1) < 64 - s1; omega⟩⟩
      · by_cases q : k = (g s1).toNat
        · rw [if_pos q, q]
        · rw [if_neg q]
      · dsimp only
        by_cases q : k = (g s1).toNat
        · rw [if_pos q]; omega
        · rw [if_neg q]; exact hs.2 k hk
end Vt
namespace Vt
open Go Go.Proofs Eng
set_option linter.unusedVariables false
set_option linter.unusedSimpArgs false
set_option maxHeartbeats 8000000
set_option maxRecDepth 100000
def isV (x : Int) : Bool := decide (-8 ≤ x) && decide (x ≤ 7)
def softB (f : Nat → Int) : Nat → Bool
  | 0 => true
  | n + 1 => softB f n && isV (f n)
theorem softB_false {f : Nat → Int} {k : Nat} (h : isV (f k) = false) : ∀ {n : Nat}, k < n → softB f n = false
  | n + 1, hk => by
    simp only [softB]
    by_cases e : k = n
    · subst e; rw [h, Bool.and_false]
    · rw [softB_false h (by omega), Bool.false_and]
theorem softB_true {f : Nat → Int} : ∀ {n : Nat}, (∀ k, k < n → isV (f k) = true) → softB f n = true
  | 0, _ => rfl
  | n + 1, h => by rw [softB, softB_true fun k hk => h k (by omega), h n (by omega)]; rfl
abbrev aCon : ArgL (RowD Int × Unit × Unit) := .cons (.row (.int .i64)) (.cons (.fnc 117 .nil) .nil)
def conC := pcOf aCon (fun x => []) (fun x => .bool (!softB x.1.f x.1.n))
def EF (x : RowD Int × Unit × Unit) : Env := (E0.inl 117 Tryz.f117 fun _ _ => []).inl 99 Tryz.f99 fun _ _ => [.lp 2 Nat [8] (fun i => [.int .i64 (i : Nat)]) (fun i => i ≤ x.1.n ∧ softB x.1.f i = true) fun i => x.1.n - i]
theorem EF_ok (x : RowD Int × Unit × Unit) : EnvOk Tryz.prog (EF x) := (E0_ok.inl _ Tryz.func117 rfl (by kernel_rfl)).inl _ Tryz.func99 rfl (by kernel_rfl)
theorem con_ok : PcOk Tryz.prog 65 conC := by
  refine pcOf_run EF_ok Tryz.func65 rfl (by kernel_rfl) (fun x => trivial)
    (fun x => []) (fun _ => Nat.le_of_ble_eq_true rfl) (fun ⟨⟨b, off, n, c, z, f⟩, (), ()⟩ hp hw => ?_)
  have hn : n ≤ c ∧ c ≤ 9223372036854775807 := (hw _ (List.mem_cons_self ..)).2
  refine vc_of (q :=
      ∀ (v1:Int), v1=(↑n:Int)→(∃ (x1:Nat), (0:Int)=(↑x1:Int)∧x1≤n∧Vt.softB f x1=true)∧∀ (b1:Nat), b1≤n∧Vt.softB f b1=true→(decide ((↑b1:Int) < v1)=true→(0:Int)≤(↑b1:Int)∧(↑b1:Int) < (↑n:Int)∧(b=b∧off=off)∧Int.toNat (↑b1:Int) < n∧∀ (t1:Bool), (t1=if decide (f (Int.toNat (↑b1:Int)) < (-8:Int))=true then true else decide (f (Int.toNat (↑b1:Int)) > (7:Int)))→∀ (t2:Bool), t2=t1→(t2=true→∀ (v2:Int),
      v2=(↑b1:Int)→decide (v2≥(0:Int))=!Vt.softB f n)∧(t2=false→∀ (v3:Int), v3=IntKind.i64.wrap ((↑b1:Int)+(1:Int))→∃ (x2:Nat), v3=(↑x2:Int)∧(x2≤n∧Vt.softB f x2=true)∧n - x2 < n - b1))∧(decide ((↑b1:Int) < v1)=false→∀ (v2:Int), v2=(-1:Int)→decide (v2≥(0:Int))=!Vt.softB f n)) (by kernel_rfl) ?_
  try simp only [eq_self, true_and, and_true, Nat.le_refl, implies_true, forall_const, Bool.false_eq_true, Bool.true_eq_false, reduceCtorEq, false_imp_iff, true_imp_iff, Int.toNat_zero, Int.toNat_natCast, Nat.zero_lt_one, Int.le_refl, allGet]
  intro v1 h1
  subst h1
  refine ⟨⟨0, rfl, Nat.zero_le _, rfl⟩, ?_⟩
  rintro i ⟨hi, hs⟩
  refine ⟨fun hlt => ?_, fun hge v2 h2 => ?_⟩
  · have hlt := of_decide_eq_true hlt
    refine ⟨by omega, by omega, by omega, fun t1 h1 t2 h2 => ?_⟩
    have ht : t2 = !isV (f i) := by
      rw [h2, h1, isV]
      by_cases q : f i < -8
      · rw [if_pos (decide_eq_true q), decide_eq_false (show ¬ (-8 ≤ f i) by omega)]; rfl
      · rw [if_neg (by simpa using q), decide_eq_true (show -8 ≤ f i by omega), Bool.true_and]
        by_cases q2 : f i > 7
        · rw [decide_eq_true q2, decide_eq_false (show ¬ f i ≤ 7 by omega)]; rfl
        · rw [decide_eq_false q2, decide_eq_true (show f i ≤ 7 by omega)]; rfl
    refine ⟨fun h v2 h2' => ?_, fun h v3 h3 => ⟨i + 1, h3.trans (l_succ (by omega)), ⟨by omega, ?_⟩, by omega⟩⟩
    · have hv : isV (f i) = false := by rw [ht] at h; simpa using h
      rw [softB_false hv (by omega), decide_eq_true (by omega)]; rfl
    · have hv : isV (f i) = true := by rw [ht] at h; simpa using h
      rw [softB, hs, hv]; rfl
  · have hge := of_decide_eq_false hge
    obtain rfl : i = n := by omega
    rw [hs, h2]; rfl
abbrev aRow : ArgL (RowD Int × Unit) := .cons (.row (.int .i64)) .nil
def softC := pcOf aRow (fun _ => []) (fun x => .bool (softB x.1.f x.1.n))
def ESO : Env := E0.addP 65 conC
theorem ESO_ok : EnvOk Tryz.prog ESO := E0_ok.addP con_ok
theorem soft_ok : PcOk Tryz.prog 84 softC := by
  refine pcOf_run (fun _ => ESO_ok) Tryz.func84 rfl (by kernel_rfl) (fun x => trivial)
    (fun x => []) (fun _ => Nat.le_of_ble_eq_true rfl) (fun ⟨⟨b, off, n, c, z, f⟩, ()⟩ hp hw => ?_)
  refine vc_of (q :=
      n≤n∧(∀ (k1:Nat), k1 < n→true=true)∧(b=b∧off=off)∧∀ (t1:Bool), t1=!Vt.softB f n→(!t1)=Vt.softB f n) (by kernel_rfl) ?_
  exact ⟨Nat.le_refl _, fun _ _ => rfl, ⟨rfl, rfl⟩, fun t h => by rw [h, Bool.not_not]⟩
abbrev aBef : ArgL ((Int × Int × Unit) × (Int × Int × Unit) × Unit) := .cons (.elt eSv) (.cons (.elt eSv) .nil)
def bef (x y : Int × Int) : Bool := decide (x.1 < y.1) || (decide (x.1 = y.1) && decide (y.2 < x.2))
def befC := pcOf aBef (fun _ => []) (fun x => .bool (bef (x.1.1, x.1.2.1) (x.2.1.1, x.2.1.2.1)))
theorem bef_ok : PcOk Tryz.prog 86 befC := by
  refine pcOf_run (fun _ => E0_ok) Tryz.func86 rfl (by kernel_rfl) (fun x => trivial)
    (fun x => []) (fun _ => Nat.le_of_ble_eq_true rfl) (fun ⟨⟨s, r, ()⟩, ⟨s', r', ()⟩, ()⟩ hp hw => ?_)
  refine vc_of (q :=
      ∀ (b1 b2:Nat), (b1=b1∧0=0)∧(b2=b2∧0=0)∧(decide (s < s')=false→b1=b1∧0=0)∧(decide (s < s')=false→b2=b2∧0=0)∧((s==s')=true∧decide (s < s')=false→b1=b1∧0=0)∧((s==s')=true∧decide (s < s')=false→b2=b2∧0=0)∧∀ (t1:Bool), (t1=if (s==s')=true then decide (r > r') else false)→∀ (t2:Bool), (t2=if decide (s < s')=true then true else t1)→t2=Vt.bef (s, r) (s', r')) (by kernel_rfl) ?_
  refine fun b1 b2 => ⟨⟨rfl, rfl⟩, ⟨rfl, rfl⟩, fun _ => ⟨rfl, rfl⟩, fun _ => ⟨rfl, rfl⟩, fun _ => ⟨rfl, rfl⟩, fun _ => ⟨rfl, rfl⟩, fun t1 h1 t2 h2 => ?_⟩
  rw [h2, h1]
  unfold bef
  by_cases q : s < s' <;> by_cases q2 : s = s' <;> simp [q, q2]
end Vt
