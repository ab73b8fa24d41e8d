/-
  OWN WORK. The convolutional code: the bits of a message, one after the other.
-/
import Derived.RangeFuncBox
import Derived.RangeFuncLeaves
import Derived.Shelf.Abstract
import Derived.WalkKit
import Derived.OwnWalkIn
import Derived.TacticsInMore
import Derived.LoopNIn
import Derived.LoopIn
import Derived.Test.YtnibcchhhebfaaaGreatDoorEngR
import Derived.Test.YtnibcchhhebfaaaGreatDoorQ2
namespace Vt
open Go Go.Proofs Eng Go.RowKit Go.Shelf
set_option linter.unusedVariables false
set_option linter.unusedSimpArgs false
set_option maxRecDepth 100000
set_option maxHeartbeats 4000000
attribute [local go_sem] Oper.semAt_some
def bitF (l : List UInt8) (i : Nat) : Fin 2 := ⟨bitsOf l i, bitsOf_lt l i⟩
def bitsL (l : List UInt8) (k : Nat) : List (Fin 2) := (List.range k).map (bitF l)
theorem bitsL_succ (l : List UInt8) (k : Nat) : bitsL l (k + 1) = bitsL l k ++ [bitF l k] := by simp [bitsL, List.range_succ]
theorem bitsL_len (l : List UInt8) (k : Nat) : (bitsL l k).length = k := by simp [bitsL]
abbrev KpB (B : Nat) (W W' : World) : Prop := W.heap.size ≤ W'.heap.size ∧ (B < W.heap.size → W'.heap[B]? = W.heap[B]?)
theorem and1_all : allB (fun v => decide (bits BinOp.and IntKind.i64 ((v : Nat) : Int) 1 = ((v % 2 : Nat) : Int))) 256 = true := by decide +kernel
theorem bit_and (l : List UInt8) (k : Nat) (h : k / 8 < (ByteArray.mk l.toArray).size) (hk : k < 8 * l.length) : bits BinOp.and IntKind.i64 (wrap64 ((((ByteArray.mk l.toArray)[k / 8]'h).toNat : Int) / 2 ^ (7 - k % 8))) 1 = ((bitsOf l k : Nat) : Int) := by
  have hx : ((ByteArray.mk l.toArray)[k / 8]'h) = l.getD (k / 8) 0 := by
    have h2 : k / 8 < l.length := by omega
    rw [List.getD_eq_getElem?_getD, List.getElem?_eq_getElem h2]
    rfl
  rw [hx]
  generalize hy : l.getD (k / 8) 0 = y
  have hlt := UInt8.toNat_lt y
  have e1 : ((y.toNat : Int) / 2 ^ (7 - k % 8)) = ((y.toNat / 2 ^ (7 - k % 8) : Nat) : Int) := by simp
  have h3 : y.toNat / 2 ^ (7 - k % 8) ≤ y.toNat := Nat.div_le_self _ _
  have e2 : wrap64 ((y.toNat / 2 ^ (7 - k % 8) : Nat) : Int) = ((y.toNat / 2 ^ (7 - k % 8) : Nat) : Int) := by
    generalize y.toNat / 2 ^ (7 - k % 8) = z at h3
    unfold wrap64
    omega
  rw [e1, e2]
  have := of_decide_eq_true (allB_true and1_all (y.toNat / 2 ^ (7 - k % 8)) (by omega))
  rw [this]
  unfold bitsOf
  rw [if_pos hk, hy]
theorem bits_in (lp B : Nat) (l : List UInt8) (hl : l.length ≤ 1100) (J Jx : List (Fin 2) → World → Prop)
    (hY : ∀ pre (x : Fin 2) W, J pre W → pre.length < 8 * l.length + 6 → YieldAt Fence.wide 1 Tryz.prog lp #[.int .i64 (x.val : Nat)] W fun e W' =>
      (e = .returned (.bool true) ∧ J (pre ++ [x]) W' ∧ KpB B W W') ∨ (e = .returned (.bool false) ∧ Jx (pre ++ [x]) W'))
    (W : World) (hB : W.cell? ⟨B, 0, none⟩ = some (.string ⟨l.toArray⟩)) (h0 : J [] W) :
    CallsIn Fence.wide 2 Tryz.prog 116 #[.func (.yield lp) #[] #[], .pointer (some ⟨B, 0, none⟩)] W fun e W' => (∃ v, e = .returned v) ∧
      ((∃ ys, ys = bitsL l (8 * l.length + 6) ∧ J ys W') ∨ (∃ pre, True ∧ Jx pre W')) := by
  refine callsIn_of_wp Tryz.func116 rfl trivial ?_ rfl
  simp only [Tryz.ntmps116, List.size_toArray, List.length_cons, List.length_nil, Nat.reduceAdd, Nat.reduceSub, Array.replicate_succ, Array.replicate_zero, List.push_toArray, List.append_toArray, List.nil_append, List.cons_append]
  gi_wp2
  gi_loopw [9] (fun i wr => ∃ k : Nat, k ≤ 8 * l.length + 6 ∧ i = .int .i64 k ∧ J (bitsL l k) wr ∧ KpB B W wr)
    (fun i _ => 8 * l.length + 6 - (intOf i).toNat)
  case atStart => exact ⟨0, Nat.zero_le _, rfl, h0, Nat.le_refl _, fun _ => rfl⟩
  case round =>
    obtain ⟨k, hk, rfl, hJs, hnx⟩ := hrel
    have hbl : B < W.heap.size := by
      unfold World.cell? at hB
      split at hB
      · rename_i hb; exact (Array.getElem?_eq_some_iff.1 hb).1
      · cases hB
    have hbx : wr.cell? ⟨B, 0, none⟩ = some (.string ⟨l.toArray⟩) := (World.cell?_of_block (hnx.2 hbl)).trans hB
    by_cases hlt : k < 8 * l.length + 6
    · obtain ⟨fn, tmps, assign, body, hy, hR⟩ := hY _ (bitF l k) wr hJs (by rw [bitsL_len]; exact hlt)
      by_cases hk8 : k < 8 * l.length
      · have hy : (Instr.yield lp #[.int .i64 (bitsOf l k : Nat)]).run Tryz.prog wr = _ := hy
        gi_wp2
        rw [bit_and l k _ hk8, hy, Oper.uponIn_round]
        refine ⟨fun _ => (by decide), hR.mono ?_⟩
        rintro e W3 (⟨rfl, hJ3, hk3⟩ | ⟨rfl, hJx3⟩)
        · gi_wp2
          go_roundw
          case rel => exact ⟨k + 1, by omega, by simp, by rw [bitsL_succ]; exact hJ3, Nat.le_trans hnx.1 hk3.1, fun q => (hk3.2 (Nat.lt_of_lt_of_le q hnx.1)).trans (hnx.2 q)⟩
          case measure => simp [RowKit.intOf]; omega
        · gi_wp2
          refine bodyPost_ret (results_none rfl _ _ _) rfl ?_
          exact ⟨⟨_, rfl⟩, .inr ⟨_, trivial, hJx3⟩⟩
      · have hz : bitsOf l k = 0 := bitsOf_tail l k (by omega)
        have hy : (Instr.yield lp #[.int .i64 (bitsOf l k : Nat)]).run Tryz.prog wr = _ := hy
        rw [hz] at hy
        have hy : (Instr.yield lp #[.int .i64 0]).run Tryz.prog wr = _ := hy
        gi_wp2
        refine hR.mono ?_
        rintro e W3 (⟨rfl, hJ3, hk3⟩ | ⟨rfl, hJx3⟩)
        · gi_wp2
          go_roundw
          case rel => exact ⟨k + 1, by omega, by simp, by rw [bitsL_succ]; exact hJ3, Nat.le_trans hnx.1 hk3.1, fun q => (hk3.2 (Nat.lt_of_lt_of_le q hnx.1)).trans (hnx.2 q)⟩
          case measure => simp [RowKit.intOf]; omega
        · gi_wp2
          refine bodyPost_ret (results_none rfl _ _ _) rfl ?_
          exact ⟨⟨_, rfl⟩, .inr ⟨_, trivial, hJx3⟩⟩
    · obtain rfl : k = 8 * l.length + 6 := by omega
      gi_wp2
      go_end0
      exact ⟨⟨_, rfl⟩, .inl ⟨_, rfl, hJs⟩⟩
end Vt
