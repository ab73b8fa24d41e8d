/-
  OWN WORK. The best way through the trellis: what leads to each state.
-/
import Derived.Test.YtnibcchhhebfaaaGreatDoorQ2
namespace Vt
open Go Go.Proofs Eng
set_option linter.unusedVariables false
set_option linter.unusedSimpArgs false
set_option maxRecDepth 100000
set_option maxHeartbeats 4000000
abbrev edG (p : Nat → Nat → Bool) : Nat → SV := fun t => .arr 2 3 fun k => .agg [.int .i64 (if p t k then (frm t k : Nat) else 0), .int .i64 (if p t k then (fs (frm t k) (t / 32) : Nat) else 0), .int .i64 (if p t k then (sc (frm t k) (t / 32) : Nat) else 0)]
def dn (s b t k : Nat) : Bool := decide (frm t k < s) || (decide (frm t k = s) && decide (t / 32 < b))
def cn (s b t : Nat) : Nat := (if dn s b t 0 then 1 else 0) + (if dn s b t 1 then 1 else 0)
theorem dn_zero (t k : Nat) : dn 0 0 t k = false := by unfold dn; simp
theorem dn_next {s t k : Nat} (ht : t < 64) : dn s 2 t k = dn (s + 1) 0 t k := by
  unfold dn
  rw [Bool.eq_iff_iff]
  simp only [Bool.or_eq_true, Bool.and_eq_true, decide_eq_true_eq]
  omega
theorem dn_all {t k : Nat} (hk : k < 2) : dn 64 0 t k = true := by
  have := frm_lt (t := t) hk
  unfold dn
  rw [decide_eq_true this]; rfl
theorem dn_step {s b t k : Nat} (hs : s < 64) (hb : b < 2) (ht : t < 64) (hk : k < 2) : dn s (b + 1) t k = (dn s b t k || (decide (t = nxt s b) && decide (k = s % 2))) := by
  unfold dn
  rw [Bool.eq_iff_iff]
  simp only [Bool.or_eq_true, Bool.and_eq_true, decide_eq_true_eq]
  unfold frm nxt reg
  omega
theorem cn_zero (t : Nat) : cn 0 0 t = 0 := by simp [cn, dn_zero]
theorem cn_next {s t : Nat} (ht : t < 64) : cn s 2 t = cn (s + 1) 0 t := by unfold cn; rw [dn_next ht, dn_next ht]
theorem cn_at {s b : Nat} (hs : s < 64) (hb : b < 2) : cn s b (nxt s b) = s % 2 := by
  have h0 : dn s b (nxt s b) 0 = decide (s % 2 = 1) := by
    unfold dn
    rw [Bool.eq_iff_iff]
    simp only [Bool.or_eq_true, Bool.and_eq_true, decide_eq_true_eq]
    unfold frm nxt reg
    omega
  have h1 : dn s b (nxt s b) 1 = false := by
    unfold dn
    rw [Bool.eq_false_iff]
    simp only [ne_eq, Bool.or_eq_true, Bool.and_eq_true, decide_eq_true_eq]
    unfold frm nxt reg
    omega
  unfold cn
  rw [h0, h1]
  by_cases q : s % 2 = 1
  · simp [q]
  · simp [q]; omega
theorem cn_step {s b t : Nat} (hs : s < 64) (hb : b < 2) (ht : t < 64) : cn s (b + 1) t = if t = nxt s b then cn s b t + 1 else cn s b t := by
  unfold cn
  rw [dn_step hs hb ht (by decide), dn_step hs hb ht (by decide)]
  by_cases q : t = nxt s b
  · rw [if_pos q]
    have h := cn_at hs hb
    rw [← q] at h
    unfold cn at h
    rcases (by omega : s % 2 = 0 ∨ s % 2 = 1) with e | e
    · rw [e] at h
      have h0 : dn s b t 0 = false := by
        cases hh : dn s b t 0 with
        | false => rfl
        | true => rw [hh] at h; simp at h
      simp [q, e, q ▸ h0]
      omega
    · rw [e] at h
      have h1 : dn s b t 1 = false := by
        subst q
        unfold dn
        rw [Bool.eq_false_iff]
        simp only [ne_eq, Bool.or_eq_true, Bool.and_eq_true, decide_eq_true_eq]
        unfold frm nxt reg
        omega
      simp [q, e, q ▸ h1]
  · simp [q]
abbrev edEnts (fr : Fr) (H : Hp) (s b : Nat) : Hp := [{ entG H (ptG (slotV fr 1)) with get := fun _ => .arr 64 6 (edG (dn s b)) }, { entG H (ptG (slotV fr 2)) with get := fun _ => .arr 64 1 fun t => .int .i64 (cn s b t : Nat) }]
def edLoop (fr : Fr) (H : Hp) : LA := ⟨4, Nat, [8], fun s => [.int .i64 (s : Nat)], [ptG (slotV fr 1), ptG (slotV fr 2)], fun s => edEnts fr H s 0, fun s => s ≤ 64, fun s => 64 - s⟩
def edLoop2 (fr : Fr) (H : Hp) : LA := ⟨7, Nat, [11], fun b => [.int .i64 (b : Nat)], [ptG (slotV fr 1), ptG (slotV fr 2)], fun b => edEnts fr H (intOf (slotV fr 3)).toNat b, fun b => b ≤ 2, fun b => 2 - b⟩
abbrev edgV : SV := .arr 64 6 (edG fun _ _ => true)
def edgC := pcOf .nil (fun _ => []) (fun _ => edgV)
theorem edg_ok : PcOk Tryz.prog 85 edgC := by
  refine pcOf_run (fun _ => ETR_ok) Tryz.func85 rfl (by kernel_rfl) (fun _ => fun i hi => ⟨fun j hj => ⟨⟨trivial, rfl, trivial, rfl, trivial, rfl, trivial⟩, rfl, rfl⟩, rfl, rfl⟩)
    (fun x => [.loopD 4 edLoop, .loopD 7 edLoop2, .draw 10 (.take 0 (.take 1 (.take 2 (.take 3 (.take 4 (.take 5 (.take 6 (.take 7 (.take 8 (.take 9 (.br 10 .fin .stop))))))))))) [1]]) (fun _ => Nat.le_of_ble_eq_true rfl) (fun ⟨⟩ hp hw => ?_)
  refine vc_of (q :=
      ∀ (b1 b2 b3:Nat), (∃ (x1:Nat), (0:Int)=(↑x1:Int)∧((b2=b2∧0=0∧false=false∧1≤1∧1≤1∧1≤1)∧SVeq (SV.arr 64 6 fun (x:Nat) ↦ SV.arr 2 3 fun (x:Nat) ↦ SV.agg [SV.int IntKind.i64 (0:Int), SV.int IntKind.i64 (0:Int), SV.int IntKind.i64 (0:Int)]) (SV.arr 64 6 fun (t:Nat) ↦ SV.arr 2 3 fun (k:Nat) ↦ SV.agg [SV.int IntKind.i64 (if Vt.dn x1 0 t k=true then (↑(Vt.frm t k):Int) else (0:Int)), SV.int IntKind.i64 (if
      Vt.dn x1 0 t k=true then (↑(Vt.fs (Vt.frm t k) (t / 32)):Int) else (0:Int)), SV.int IntKind.i64 (if Vt.dn x1 0 t k=true then (↑(Vt.sc (Vt.frm t k) (t / 32)):Int) else (0:Int))]))∧((b3=b3∧0=0∧false=false∧1≤1∧1≤1∧1≤1)∧SVeq (SV.arr 64 1 fun (x:Nat) ↦ SV.int IntKind.i64 (0:Int)) (SV.arr 64 1 fun (t:Nat) ↦ SV.int IntKind.i64 (↑(Vt.cn x1 0 t):Int)))∧Nat.le x1 64)∧∀ (b4:Nat), b4≤64→(decide ((↑b4:Int) <
      (64:Int))=true→(∃ (x2:Nat), (0:Int)=(↑x2:Int)∧((b2=b2∧0=0∧false=false∧1≤1∧1≤1∧1≤1)∧SVeq (SV.arr 64 6 fun (t:Nat) ↦ SV.arr 2 3 fun (k:Nat) ↦ SV.agg [SV.int IntKind.i64 (if Vt.dn b4 0 t k=true then (↑(Vt.frm t k):Int) else (0:Int)), SV.int IntKind.i64 (if Vt.dn b4 0 t k=true then (↑(Vt.fs (Vt.frm t k) (t / 32)):Int) else (0:Int)), SV.int IntKind.i64 (if Vt.dn b4 0 t k=true then (↑(Vt.sc (Vt.frm t k)
      (t / 32)):Int) else (0:Int))]) (SV.arr 64 6 fun (t:Nat) ↦ SV.arr 2 3 fun (k:Nat) ↦ SV.agg [SV.int IntKind.i64 (if Vt.dn (Int.toNat (↑b4:Int)) x2 t k=true then (↑(Vt.frm t k):Int) else (0:Int)), SV.int IntKind.i64 (if Vt.dn (Int.toNat (↑b4:Int)) x2 t k=true then (↑(Vt.fs (Vt.frm t k) (t / 32)):Int) else (0:Int)), SV.int IntKind.i64 (if Vt.dn (Int.toNat (↑b4:Int)) x2 t k=true then (↑(Vt.sc (Vt.frm t
      k) (t / 32)):Int) else (0:Int))]))∧((b3=b3∧0=0∧false=false∧1≤1∧1≤1∧1≤1)∧SVeq (SV.arr 64 1 fun (t:Nat) ↦ SV.int IntKind.i64 (↑(Vt.cn b4 0 t):Int)) (SV.arr 64 1 fun (t:Nat) ↦ SV.int IntKind.i64 (↑(Vt.cn (Int.toNat (↑b4:Int)) x2 t):Int)))∧Nat.le x2 2)∧∀ (b5:Nat), b5≤2→(decide ((↑b5:Int) < (2:Int))=true→((0:Int)≤(↑b4:Int)∧(↑b4:Int) < (64:Int))∧((0:Int)≤(↑b5:Int)∧(↑b5:Int) < (2:Int))∧∀ (v1:Int),
      v1=(↑(Vt.nxt (Int.toNat (↑b4:Int)) (Int.toNat (↑b5:Int))):Int)→∀ (v2:Int), v2=(↑(Vt.fs (Int.toNat (↑b4:Int)) (Int.toNat (↑b5:Int))):Int)→∀ (v3:Int), v3=(↑(Vt.sc (Int.toNat (↑b4:Int)) (Int.toNat (↑b5:Int))):Int)→0≤v1∧v1 < (↑(64:Nat):Int)∧(b3=b3∧0=0)∧Int.toNat v1 < 64∧0≤v1∧v1 < (↑(64:Nat):Int)∧(0:Int)≤(↑(Vt.cn (Int.toNat (↑b4:Int)) b5 (Int.toNat v1)):Int)∧(↑(Vt.cn (Int.toNat (↑b4:Int)) b5 (Int.toNat
      v1)):Int) < (↑(2:Nat):Int)∧((b2=b2∧0=0)∧Int.toNat v1 < 64∧Int.toNat (↑(Vt.cn (Int.toNat (↑b4:Int)) b5 (Int.toNat v1)):Int) < 2∧0≤v1∧v1 < (↑(64:Nat):Int)∧(b3=b3∧0=0)∧Int.toNat v1 < 64∧∀ (v4:Int), v4=IntKind.i64.wrap ((↑(Vt.cn (Int.toNat (↑b4:Int)) b5 (Int.toNat v1)):Int)+(1:Int))→0≤v1∧v1 < (↑(64:Nat):Int)∧(b3=b3∧0=0)∧Int.toNat v1 < 64∧∀ (v5:Int), v5=IntKind.i64.wrap ((↑b5:Int)+(1:Int))→∃ (x3:Nat),
      v5=(↑x3:Int)∧((b2=b2∧0=0∧false=false∧1≤1∧1≤1∧1≤1)∧SVeq (SV.arr 64 6 fun (k:Nat) ↦ SV.arr 2 3 fun (k_1:Nat) ↦ SV.agg [SV.int IntKind.i64 (if k=Int.toNat v1 then if k_1=Int.toNat (↑(Vt.cn (Int.toNat (↑b4:Int)) b5 (Int.toNat v1)):Int) then (↑b4:Int) else if Vt.dn (Int.toNat (↑b4:Int)) b5 (Int.toNat v1) k_1=true then (↑(Vt.frm (Int.toNat v1) k_1):Int) else (0:Int) else if Vt.dn (Int.toNat (↑b4:Int)) b5
      k k_1=true then (↑(Vt.frm k k_1):Int) else (0:Int)), SV.int IntKind.i64 (if k=Int.toNat v1 then if k_1=Int.toNat (↑(Vt.cn (Int.toNat (↑b4:Int)) b5 (Int.toNat v1)):Int) then v2 else if Vt.dn (Int.toNat (↑b4:Int)) b5 (Int.toNat v1) k_1=true then (↑(Vt.fs (Vt.frm (Int.toNat v1) k_1) (Int.toNat v1 / 32)):Int) else (0:Int) else if Vt.dn (Int.toNat (↑b4:Int)) b5 k k_1=true then (↑(Vt.fs (Vt.frm k k_1) (k
      / 32)):Int) else (0:Int)), SV.int IntKind.i64 (if k=Int.toNat v1 then if k_1=Int.toNat (↑(Vt.cn (Int.toNat (↑b4:Int)) b5 (Int.toNat v1)):Int) then v3 else if Vt.dn (Int.toNat (↑b4:Int)) b5 (Int.toNat v1) k_1=true then (↑(Vt.sc (Vt.frm (Int.toNat v1) k_1) (Int.toNat v1 / 32)):Int) else (0:Int) else if Vt.dn (Int.toNat (↑b4:Int)) b5 k k_1=true then (↑(Vt.sc (Vt.frm k k_1) (k / 32)):Int) else
      (0:Int))]) (SV.arr 64 6 fun (t:Nat) ↦ SV.arr 2 3 fun (k:Nat) ↦ SV.agg [SV.int IntKind.i64 (if Vt.dn (Int.toNat (↑b4:Int)) x3 t k=true then (↑(Vt.frm t k):Int) else (0:Int)), SV.int IntKind.i64 (if Vt.dn (Int.toNat (↑b4:Int)) x3 t k=true then (↑(Vt.fs (Vt.frm t k) (t / 32)):Int) else (0:Int)), SV.int IntKind.i64 (if Vt.dn (Int.toNat (↑b4:Int)) x3 t k=true then (↑(Vt.sc (Vt.frm t k) (t / 32)):Int)
      else (0:Int))]))∧((b3=b3∧0=0∧false=false∧1≤1∧1≤1∧1≤1)∧SVeq (SV.arr 64 1 fun (k:Nat) ↦ SV.int IntKind.i64 (if k=Int.toNat v1 then v4 else (↑(Vt.cn (Int.toNat (↑b4:Int)) b5 k):Int))) (SV.arr 64 1 fun (t:Nat) ↦ SV.int IntKind.i64 (↑(Vt.cn (Int.toNat (↑b4:Int)) x3 t):Int)))∧x3≤2∧2 - x3 < 2 - b5)∧True)∧(decide ((↑b5:Int) < (2:Int))=false→∀ (v2:Int), v2=IntKind.i64.wrap ((↑b4:Int)+(1:Int))→∃ (x3:Nat),
      v2=(↑x3:Int)∧((b2=b2∧0=0∧false=false∧1≤1∧1≤1∧1≤1)∧SVeq (SV.arr 64 6 fun (t:Nat) ↦ SV.arr 2 3 fun (k:Nat) ↦ SV.agg [SV.int IntKind.i64 (if Vt.dn (Int.toNat (↑b4:Int)) b5 t k=true then (↑(Vt.frm t k):Int) else (0:Int)), SV.int IntKind.i64 (if Vt.dn (Int.toNat (↑b4:Int)) b5 t k=true then (↑(Vt.fs (Vt.frm t k) (t / 32)):Int) else (0:Int)), SV.int IntKind.i64 (if Vt.dn (Int.toNat (↑b4:Int)) b5 t k=true
      then (↑(Vt.sc (Vt.frm t k) (t / 32)):Int) else (0:Int))]) (SV.arr 64 6 fun (t:Nat) ↦ SV.arr 2 3 fun (k:Nat) ↦ SV.agg [SV.int IntKind.i64 (if Vt.dn x3 0 t k=true then (↑(Vt.frm t k):Int) else (0:Int)), SV.int IntKind.i64 (if Vt.dn x3 0 t k=true then (↑(Vt.fs (Vt.frm t k) (t / 32)):Int) else (0:Int)), SV.int IntKind.i64 (if Vt.dn x3 0 t k=true then (↑(Vt.sc (Vt.frm t k) (t / 32)):Int) else
      (0:Int))]))∧((b3=b3∧0=0∧false=false∧1≤1∧1≤1∧1≤1)∧SVeq (SV.arr 64 1 fun (t:Nat) ↦ SV.int IntKind.i64 (↑(Vt.cn (Int.toNat (↑b4:Int)) b5 t):Int)) (SV.arr 64 1 fun (t:Nat) ↦ SV.int IntKind.i64 (↑(Vt.cn x3 0 t):Int)))∧x3≤64∧64 - x3 < 64 - b4))∧(decide ((↑b4:Int) < (64:Int))=false→(b2=b2∧0=0)∧(b1=b1∧0=0)∧(b1=b1∧0=0)∧SVeq (SV.arr 64 6 fun (t:Nat) ↦ SV.arr 2 3 fun (k:Nat) ↦ SV.agg [SV.int IntKind.i64 (if
      Vt.dn b4 0 t k=true then (↑(Vt.frm t k):Int) else (0:Int)), SV.int IntKind.i64 (if Vt.dn b4 0 t k=true then (↑(Vt.fs (Vt.frm t k) (t / 32)):Int) else (0:Int)), SV.int IntKind.i64 (if Vt.dn b4 0 t k=true then (↑(Vt.sc (Vt.frm t k) (t / 32)):Int) else (0:Int))]) (SV.arr 64 6 fun (t:Nat) ↦ SV.arr 2 3 fun (k:Nat) ↦ SV.agg [SV.int IntKind.i64 (if true=true then (↑(Vt.frm t k):Int) else (0:Int)), SV.int
      IntKind.i64 (if true=true then (↑(Vt.fs (Vt.frm t k) (t / 32)):Int) else (0:Int)), SV.int IntKind.i64 (if true=true then (↑(Vt.sc (Vt.frm t k) (t / 32)):Int) else (0:Int))]))) (by kernel_rfl) ?_
  have T2 : ∀ (X : Nat → Nat → SV) (Y : Nat → Nat → SV), (∀ t, t < 64 → ∀ k, k < 2 → X t k = Y t k) → SVeq (.arr 64 6 fun t => .arr 2 3 (X t)) (.arr 64 6 fun t => .arr 2 3 (Y t)) := fun X Y h => arr_sv (fun t ht => arr_eqv fun k hk => h t ht k hk) (fun _ _ => rfl)
  refine fun b1 b2 b3 => ⟨⟨0, rfl, ⟨⟨rfl, rfl, rfl, Nat.le_refl _, Nat.le_refl _, Nat.le_refl _⟩, T2 _ _ fun t ht k hk => by rw [dn_zero]; rfl⟩, ⟨⟨rfl, rfl, rfl, Nat.le_refl _, Nat.le_refl _, Nat.le_refl _⟩, arr_eqv fun t ht => by rw [cn_zero]; rfl⟩, Nat.zero_le _⟩, fun s hs => ⟨fun hlt => ?_, fun hge => ?_⟩⟩
  · have hlt := of_decide_eq_true hlt
    refine ⟨⟨0, rfl, ⟨⟨rfl, rfl, rfl, Nat.le_refl _, Nat.le_refl _, Nat.le_refl _⟩, SVeq.of_eq rfl⟩, ⟨⟨rfl, rfl, rfl, Nat.le_refl _, Nat.le_refl _, Nat.le_refl _⟩, SVeq.of_eq rfl⟩, Nat.zero_le _⟩, fun b hb => ⟨fun hlt2 => ?_, fun hge2 v2 e2 => ⟨s + 1, e2.trans (l_succ (by omega)), ⟨⟨rfl, rfl, rfl, Nat.le_refl _, Nat.le_refl _, Nat.le_refl _⟩, T2 _ _ fun t ht k hk => ?_⟩, ⟨⟨rfl, rfl, rfl, Nat.le_refl _, Nat.le_refl _, Nat.le_refl _⟩, arr_eqv fun t ht => ?_⟩, by omega, by omega⟩⟩⟩
    · have hlt2 := of_decide_eq_true hlt2
      have hs : s < 64 := by omega
      have hb : b < 2 := by omega
      have hn := nxt_lt hs hb
      have hc := cn_at hs hb
      refine ⟨⟨by omega, by omega⟩, ⟨by omega, by omega⟩, fun v1 e1 v2 e2 v3 e3 => ?_⟩
      rw [Int.toNat_natCast, Int.toNat_natCast] at e1 e2 e3
      subst e1 e2 e3
      rw [Int.toNat_natCast, Int.toNat_natCast, hc]
      refine ⟨by omega, by omega, ⟨rfl, rfl⟩, by omega, by omega, by omega, by omega, by omega, ⟨⟨rfl, rfl⟩, by omega, by omega, by omega, by omega, ⟨rfl, rfl⟩, by omega, fun v4 e4 => ⟨by omega, by omega, ⟨rfl, rfl⟩, by omega, fun v5 e5 => ⟨b + 1, e5.trans (l_succ (by omega)), ⟨⟨rfl, rfl, rfl, Nat.le_refl _, Nat.le_refl _, Nat.le_refl _⟩, T2 _ _ fun t ht k hk => ?_⟩, ⟨⟨rfl, rfl, rfl, Nat.le_refl _, Nat.le_refl _, Nat.le_refl _⟩, arr_eqv fun t ht => ?_⟩, by omega, by omega⟩⟩⟩, trivial⟩
      · rw [Int.toNat_natCast]
        rw [dn_step hs hb ht hk]
        by_cases q1 : t = nxt s b
        · subst q1
          by_cases q2 : k = s % 2
          · subst q2
            simp [(frm_nxt hs hb).2, (frm_nxt hs hb).1]
          · simp [q2]
        · simp [q1]
      · rw [cn_step hs hb ht, e4]
        by_cases q1 : t = nxt s b
        · subst q1
          rw [if_pos rfl, if_pos rfl, hc]
          rw [w64_id (by omega) (by omega)]
          rfl
        · rw [if_neg q1, if_neg q1]
    · have hge2 := of_decide_eq_false hge2
      have : b = 2 := by omega
      subst this
      rw [Int.toNat_natCast, dn_next ht]
    · have hge2 := of_decide_eq_false hge2
      have : b = 2 := by omega
      subst this
      rw [Int.toNat_natCast, cn_next ht]
  · have hge := of_decide_eq_false hge
    have : s = 64 := by omega
    subst this
    exact ⟨⟨rfl, rfl⟩, ⟨rfl, rfl⟩, ⟨rfl, rfl⟩, T2 _ _ fun t ht k hk => by rw [dn_all hk]⟩
end Vt
