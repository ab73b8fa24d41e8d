/-
  OWN WORK. Block: awake.
-/
import Derived.Test.YtoefjmachoakpaaGreatDoorBG
namespace Galois
open Go Go.Proofs Eng
set_option linter.unusedVariables false
set_option linter.unusedSimpArgs false
set_option maxHeartbeats 8000000
set_option maxRecDepth 100000

theorem one_L : encL [1] = [1, 255, 11, 81, 54, 239, 173, 200, 24] := by
  unfold encL parP parR
  rw [gpoly_eq]
  kernel_rfl
/-- Four wrong bytes. -/
abbrev wd : List UInt8 := [1, 255, 11, 81, 0, 0, 0, 0, 24]
theorem wd_dec : decR wd (ownL (fun _ => 0) 0) = some [1, 255, 11, 81, 54, 239, 173, 200, 24] := by
  unfold decR
  simp only [decK, decTry, mdOk, mdC, encL, parP, parR, gpoly_eq]
  refine of_decide_eq_true ?_
  kernel_rfl
theorem wd_L : decL wd (fun _ => 0) 0 = [1] := by
  unfold decL
  rw [if_neg (by decide), wd_dec]
  rfl
theorem wd_N : decN wd (fun _ => 0) 0 = 4 := by
  unfold decN
  rw [if_neg (by decide), wd_dec]
  kernel_rfl
theorem wd_E : decE wd (fun _ => 0) 0 = 0 := by
  unfold decE
  rw [if_neg (by decide), wd_dec]
theorem wr_L : wrapL [0, 0] 2 = List.replicate 18 0 := by
  unfold wrapL
  rw [if_neg (by decide)]
  have h : ∀ k, k < 16 → wF [0, 0] 2 k = 0 := fun k hk => by
    unfold wF parJ parP parR
    rw [gpoly_eq]
    have h2 : k % 2 = 0 ∨ k % 2 = 1 := by omega
    have h8 : k / 2 < 8 := by omega
    generalize k / 2 = q at *
    generalize k % 2 = r at *
    have hall : allN (fun q => decide ((((revL (Byt.of (fun k => (((resL ([0, 0, 0, 0, 0, 0, 0, 0] ++ revL (partL [0, 0] 0 2)) [24, 200, 173, 239, 54, 81, 11, 255, 1]).getD k 0).toNat : Int)) 8)).getD q 0).toNat : Int) = 0) && decide ((((revL (Byt.of (fun k => (((resL ([0, 0, 0, 0, 0, 0, 0, 0] ++ revL (partL [0, 0] 1 2)) [24, 200, 173, 239, 54, 81, 11, 255, 1]).getD k 0).toNat : Int)) 8)).getD q 0).toNat : Int) = 0)) 8 = true := by kernel_rfl
    have h3 := allN_true hall q h8
    rw [Bool.and_eq_true] at h3
    rcases h2 with rfl | rfl
    · exact of_decide_eq_true h3.1
    · exact of_decide_eq_true h3.2
  show [0, 0] ++ Byt.of (wF [0, 0] 2) 16 = _
  rw [bof_congr (g := fun _ => 0) h]
  kernel_rfl
abbrev z9 : List UInt8 := [0, 0, 0, 0, 0, 0, 0, 0, 0]
abbrev z18 : List UInt8 := List.replicate 18 0
theorem z_dec : decR z9 (ownL (fun _ => 0) 0) = some z9 := by
  unfold decR
  simp only [decK, decTry, mdOk, mdC, encL, parP, parR, gpoly_eq]
  refine of_decide_eq_true ?_
  kernel_rfl
theorem z_W : ∀ j, j < 2 → uW z18 2 j = z9 := fun j hj => by
  have h : j = 0 ∨ j = 1 := by omega
  rcases h with rfl | rfl
  · exact of_decide_eq_true (by kernel_rfl)
  · exact of_decide_eq_true (by kernel_rfl)
theorem z_L : decL z9 (fun _ => 0) 0 = [0] := by
  unfold decL
  rw [if_neg (by decide), z_dec]
  rfl
theorem z_E : decE z9 (fun _ => 0) 0 = 0 := by
  unfold decE
  rw [if_neg (by decide), z_dec]
theorem z_N : decN z9 (fun _ => 0) 0 = 0 := by
  unfold decN
  rw [if_neg (by decide), z_dec]
  kernel_rfl
theorem z_C : ∀ j, j < 2 → uwC z18 2 j = 0 := fun j hj => by
  unfold uwC
  rw [z_W j hj, if_pos z_E]
  exact z_N
theorem z_bad : uwBad z18 2 = false := by
  unfold uwBad
  rw [inB_congr z_C]
  kernel_rfl
theorem z_uL : uwL z18 2 = [0, 0] := by
  unfold uwL
  rw [if_neg (by decide)]
  show (if uwBad z18 2 = true then [] else _) = _
  rw [z_bad, if_neg (by decide)]
  have h : ∀ k, k < 2 → uwX z18 2 k = 0 := fun k hk => by
    unfold uwX uwD
    rw [z_W _ (Nat.mod_lt _ (by omega)), show er0 = fun _ => 0 from rfl, z_L, show k / 2 = 0 by omega]
    rfl
  show Byt.of (uwX z18 2) 2 = _
  rw [bof_congr h]
  kernel_rfl
theorem z_uE : uwE z18 2 = 0 := by
  unfold uwE
  rw [if_neg (by decide)]
  show (if uwBad z18 2 = true then _ else _) = _
  rw [z_bad, if_neg (by decide)]
theorem z_uN : uwN z18 2 = 2 := by kernel_rfl
noncomputable def awake := pcOf .nil (fun _ => []) (fun _ => .bool true)
noncomputable def EBz : Env := (EBy.addP 16 wrap).addE 12 unwrap
theorem EBz_ok : EnvOk Tryz.prog EBz := (EBy_ok.addP wrapB_ok).addE unwrap_ok
theorem awake_ok : PcOk Tryz.prog 5 awake := by
  refine pcOf_run (fun _ => EBz_ok) Tryz.func5 rfl (by kernel_rfl) (fun x => trivial) (fun x => []) (fun _ => Nat.le_of_ble_eq_true rfl) (fun _ hp hw => ?_)
  refine vc_of (q :=
      ∀ (s1 : List UInt8), s1 = encL [(1 : UInt8)] → ∀ (v1 : Int), v1 = encE [(1 : UInt8)] → true = true ∧ 0 ≤ 1000000 ∧ ∀ (s2 : List UInt8), s2 = decL [(1 : UInt8), (255 : UInt8), (11 : UInt8), (81 : UInt8), 0, 0, 0, 0, (24 : UInt8)] (fun (x : Nat) ↦ (0 : Int)) 0 → ∀ (v2 : Int), v2 = decN [(1 : UInt8), (255 : UInt8), (11 : UInt8), (81 : UInt8), 0, 0, 0, 0, (24 : UInt8)] (fun (x : Nat) ↦ (0 : Int)) 0 → ∀
      (v3 : Int), v3 = decE [(1 : UInt8), (255 : UInt8), (11 : UInt8), (81 : UInt8), 0, 0, 0, 0, (24 : UInt8)] (fun (x : Nat) ↦ (0 : Int)) 0 → ∀ (s3 : List UInt8), s3 = wrapL [0, 0] (2 : Int) → ∀ (v4 : Int), v4 = wrapE [0, 0] (2 : Int) → true = true ∧ ∀ (x'1 : List UInt8 × Int × Unit × Unit), x'1 = (s3, (2 : Int), (), ()) → ∀ (y1 : Nat × Nat × Nat), uwN (Prod.fst x'1) ((Prod.snd x'1).1) ≤ y1.2.2 ∧ y1.2.2
      ≤ 9223372036854775807 ∧ (uwN (Prod.fst x'1) ((Prod.snd x'1).1) = 0 → y1.2.2 = 0) → ∀ (s4 : List UInt8), s4 = uwL (Prod.fst x'1) ((Prod.snd x'1).1) → ∀ (v5 : Int), v5 = uwE (Prod.fst x'1) ((Prod.snd x'1).1) → ∀ (t1 : Bool), (t1 = if (s1 == [(1 : UInt8), (255 : UInt8), (11 : UInt8), (81 : UInt8), (54 : UInt8), (239 : UInt8), (173 : UInt8), (200 : UInt8), (24 : UInt8)]) = true then v1 == (0 : Int)
      else false) → ∀ (t2 : Bool), (t2 = if t1 = true then s2 == [(1 : UInt8)] else false) → ∀ (t3 : Bool), (t3 = if t2 = true then v2 == (4 : Int) else false) → ∀ (t4 : Bool), (t4 = if t3 = true then v3 == (0 : Int) else false) → ∀ (v6 : Int), v6 = (↑(List.length s3) : Int) → ∀ (t5 : Bool), (t5 = if t4 = true then v6 == (18 : Int) else false) → ∀ (t6 : Bool), (t6 = if t5 = true then v4 == (0 : Int) else
      false) → ∀ (t7 : Bool), (t7 = if t6 = true then s4 == [0, 0] else false) → ∀ (v7 : Int), v7 = (↑(uwN (Prod.fst x'1) ((Prod.snd x'1).1)) : Int) → ∀ (t8 : Bool), (t8 = if t7 = true then v7 == (2 : Int) else false) → ∀ (t9 : Bool), (t9 = if t8 = true then v5 == (0 : Int) else false) → t9 = true) (by kernel_rfl) ?_
  try simp only [eq_self, true_and, and_true, Nat.le_refl, implies_true, forall_const, Bool.false_eq_true, Bool.true_eq_false, reduceCtorEq, false_imp_iff, true_imp_iff, Int.toNat_zero, Int.toNat_natCast, Nat.zero_lt_one, Int.le_refl, allGet]
  intro s1 hs1 v1 hv1
  refine ⟨by omega, fun s2 hs2 v2 hv2 v3 hv3 s3 hs3 v4 hv4 x1 hx1 y1 hy1 s4 hs4 v5 hv5 t1 ht1 t2 ht2 t3 ht3 t4 ht4 v6 hv6 t5 ht5 t6 ht6 t7 ht7 v7 hv7 t8 ht8 t9 ht9 => ?_⟩
  have e3 : s3 = z18 := hs3.trans wr_L
  subst hx1
  dsimp only at hs4 hv5 hv7
  rw [e3] at hs4 hv5 hv7 hv6
  rw [z_uL] at hs4
  rw [z_uE] at hv5
  rw [z_uN] at hv7
  have e1 : s1 = _ := hs1.trans one_L
  have e1' : v1 = 0 := hv1
  have e2 : s2 = [1] := hs2.trans wd_L
  have e2' : v2 = 4 := hv2.trans wd_N
  have e3' : v3 = 0 := hv3.trans wd_E
  have e4 : v4 = 0 := hv4
  have e6 : v6 = 18 := hv6
  have e7 : v7 = 2 := hv7
  subst e1 e1' e2 e2' e3' e4 e6 e7 hs4 hv5
  have f1 : t1 = true := ht1
  subst f1
  have f2 : t2 = true := ht2
  subst f2
  have f3 : t3 = true := ht3
  subst f3
  have f4 : t4 = true := ht4
  subst f4
  have f5 : t5 = true := ht5
  subst f5
  have f6 : t6 = true := ht6
  subst f6
  have f7 : t7 = true := ht7
  subst f7
  have f8 : t8 = true := ht8
  subst f8
  exact ht9
end Galois
