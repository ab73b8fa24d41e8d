/-
  OWN WORK. Block: the specification's Unwrap.
-/
import Derived.Test.YtoefjmachoakpaaGreatDoorCG
import Derived.Test.YtoefjmachoakpaaGreatDoorCJ
namespace Galois
open Go Go.Proofs Eng
set_option linter.unusedVariables false
set_option linter.unusedSimpArgs false
set_option maxHeartbeats 8000000
set_option maxRecDepth 100000

noncomputable def ERU : Env := (ERA.addP 32 part).addP 8 decode
theorem ERU_ok : EnvOk Tryz.prog ERU := (ERA_ok.addP part_ok).addP decodeR_ok
noncomputable def unwrapRA (b : List UInt8) (er : Nat → Int) (m : Nat) (n : Int) : List An :=
  [.loop ⟨4, Nat, [9], fun i => [.int .i64 (i : Nat)], [], fun _ => [], fun i => i ≤ m ∧ noneTo (outP er b.length) i = true, fun i => m - i⟩,
   .loopD 13 (fun fr H => ⟨13, Nat × Nat × Nat × Nat, [14, 12, 13], fun y => [.int .i64 (y.1 : Nat), .slice 300 y.2.1 y.2.2.1 [] 1 0 y.1 y.2.2.2 (Nat.beq y.1 0), .bool (inB (uxC b er m n.toNat) y.1 (-1))], [tagS (slotV fr 11)], fun y => [{ entG H (tagS (slotV fr 11)) with get := fun k => .int .u8 (uxF b er m n.toNat y.1 0 k) }, ⟨300, y.2.1, y.2.2.1, 1, y.1, fun k => .int .i64 (uxC b er m n.toNat k), true, false, y.2.2.2, 3, Nat.beq y.1 0, none⟩], fun y => y.1 ≤ n.toNat ∧ y.1 ≤ y.2.2.2 ∧ y.2.2.2 ≤ 9223372036854775807 ∧ (y.1 = 0 → y.2.2.2 = 0), fun y => n.toNat - y.1⟩),
   .loopD 18 (fun fr H => ⟨18, Nat × Nat × Nat × Nat, [17, 16], fun y => [.int .i64 (y.1 : Nat), .slice 301 y.2.1 y.2.2.1 [] 1 0 (uE b er y.1 n.toNat (intOf (slotV fr 14)).toNat).length y.2.2.2 (Nat.beq (uE b er y.1 n.toNat (intOf (slotV fr 14)).toNat).length 0)], [], fun y => [⟨301, y.2.1, y.2.2.1, 1, (uE b er y.1 n.toNat (intOf (slotV fr 14)).toNat).length, fun k => .int .i64 (gL (uE b er y.1 n.toNat (intOf (slotV fr 14)).toNat) k), true, false, y.2.2.2, 3, Nat.beq (uE b er y.1 n.toNat (intOf (slotV fr 14)).toNat).length 0, none⟩], fun y => y.1 ≤ m ∧ (uE b er y.1 n.toNat (intOf (slotV fr 14)).toNat).length ≤ y.2.2.2 ∧ y.2.2.2 ≤ 9223372036854775807 ∧ ((uE b er y.1 n.toNat (intOf (slotV fr 14)).toNat).length = 0 → y.2.2.2 = 0), fun y => m - y.1⟩),
   .loopD 30 (fun fr H => ⟨30, Nat, [22], fun p => [.int .i64 (p : Nat)], [tagS (slotV fr 11)], fun p => [{ entG H (tagS (slotV fr 11)) with get := fun k => .int .u8 (uxF b er m n.toNat (intOf (slotV fr 14)).toNat p k) }], fun p => p ≤ (uxD b er m n.toNat (intOf (slotV fr 14)).toNat).length, fun p => (uxD b er m n.toNat (intOf (slotV fr 14)).toNat).length - p⟩)]
theorem inB_succ (f : Nat → Int) (n : Nat) (v : Int) : inB f (n + 1) v = (inB f n v || v == f n) := by
  unfold inB
  show (!(noneTo (fun k => v == f k) n && !(v == f n))) = _
  cases noneTo (fun k => v == f k) n <;> cases (v == f n) <;> rfl
theorem decN_nn (b : List UInt8) (er : Nat → Int) (n : Nat) : 0 ≤ decN b er n := by
  unfold decN
  split
  · exact Int.le_refl _
  · split
    · exact Int.natCast_nonneg _
    · exact Int.le_refl _
theorem unwrapR_ok : EcOk Tryz.prog 13 unwrap := by
  refine ecC_run (fun _ => ERU_ok) Tryz.func13 rfl (by kernel_rfl) [] (fun x => unwrapRA x.1 x.2.2.1.f x.2.2.1.n x.2.1) (fun _ => Nat.le_of_ble_eq_true rfl) (fun ⟨b, n, ⟨eb, eo, m, c, z, er⟩, ()⟩ hp hw => ?_)
  have p1 : m ≤ 1000000 := hp.1
  have hmc : m ≤ c ∧ c ≤ 9223372036854775807 := (hw _ (List.mem_cons_of_mem _ (List.mem_cons_of_mem _ (List.mem_cons_self ..)))).2
  refine vc_of (q :=
      ∀ (t1 : Bool), (t1 = if decide (n < (1 : Int)) = true then true else decide (n > (4 : Int))) → ∀ (v1 : Int), v1 = (↑(List.length b) : Int) → ∀ (v2 : Int), v2 = IntKind.i64.wrap ((9 : Int) * n) → ∀ (t2 : Bool), (t2 = if t1 = true then true else decide (v1 < v2)) → ∀ (v3 : Int), v3 = (↑(List.length b) : Int) → ∀ (v4 : Int), v4 = IntKind.i64.wrap ((231 : Int) * n) → ∀ (t3 : Bool), (t3 = if t2 = true
      then true else decide (v3 > v4)) → (t3 = true → ∃ (x1 : Nat × Nat × Nat), ([] = uxL b er m n ∧ SVeq (SV.slice 999999 0 0 [] 0 0 0 0 true) (SV.slice 1 x1.1 x1.2.1 [] 1 0 (uxN b er m n) x1.2.2 (Nat.beq (uxN b er m n) 0)) ∧ (2 : Int) = uxE b er m n) ∧ (Nat.beq (uxN b er m n) 0 = true ∧ uxN b er m n = 0 ∧ x1.2.2 = 0) ∧ uxN b er m n ≤ x1.2.2 ∧ x1.2.2 ≤ 9223372036854775807 ∧ (uxN b er m n = 0 → x1.2.2 =
      0)) ∧ (t3 = false → (∃ (x2 : Nat), (0 : Int) = (↑x2 : Int) ∧ x2 ≤ m ∧ noneTo (outP er (List.length b)) x2 = true) ∧ ∀ (b1 : Nat), b1 ≤ m ∧ noneTo (outP er (List.length b)) b1 = true → ∀ (v5 : Int), v5 = (↑m : Int) → (decide ((↑b1 : Int) < v5) = true → (0 : Int) ≤ (↑b1 : Int) ∧ (↑b1 : Int) < (↑m : Int) ∧ (eb = eb ∧ eo = eo) ∧ Int.toNat (↑b1 : Int) < m ∧ (decide (er (Int.toNat (↑b1 : Int)) < (0 :
      Int)) = false → (0 : Int) ≤ (↑b1 : Int)) ∧ (decide (er (Int.toNat (↑b1 : Int)) < (0 : Int)) = false → (↑b1 : Int) < (↑m : Int)) ∧ (decide (er (Int.toNat (↑b1 : Int)) < (0 : Int)) = false → eb = eb ∧ eo = eo) ∧ (decide (er (Int.toNat (↑b1 : Int)) < (0 : Int)) = false → Int.toNat (↑b1 : Int) < m) ∧ ∀ (v6 : Int), v6 = (↑(List.length b) : Int) → ∀ (t4 : Bool), (t4 = if decide (er (Int.toNat (↑b1 :
      Int)) < (0 : Int)) = true then true else decide (er (Int.toNat (↑b1 : Int)) ≥ v6)) → (t4 = true → ∃ (x3 : Nat × Nat × Nat), ([] = uxL b er m n ∧ SVeq (SV.slice 999999 0 0 [] 0 0 0 0 true) (SV.slice 1 x3.1 x3.2.1 [] 1 0 (uxN b er m n) x3.2.2 (Nat.beq (uxN b er m n) 0)) ∧ (2 : Int) = uxE b er m n) ∧ (Nat.beq (uxN b er m n) 0 = true ∧ uxN b er m n = 0 ∧ x3.2.2 = 0) ∧ uxN b er m n ≤ x3.2.2 ∧ x3.2.2 ≤
      9223372036854775807 ∧ (uxN b er m n = 0 → x3.2.2 = 0)) ∧ (t4 = false → ∀ (v7 : Int), v7 = IntKind.i64.wrap ((↑b1 : Int) + (1 : Int)) → ∃ (x4 : Nat), v7 = (↑x4 : Int) ∧ (x4 ≤ m ∧ noneTo (outP er (List.length b)) x4 = true) ∧ m - x4 < m - b1)) ∧ (decide ((↑b1 : Int) < v5) = false → ∀ (v7 : Int), v7 = (↑(List.length b) : Int) → ∀ (v8 : Int), v8 = IntKind.i64.wrap ((8 : Int) * n) → ∀ (v9 : Int), v9 =
      IntKind.i64.wrap (v7 - v8) → 0 ≤ v9 ∧ v9 ≤ v9 ∧ v9 * (↑(1 : Nat) : Int) ≤ (140737488355328 : Int) ∧ v9 ≤ 9223372036854775807 ∧ ∀ (b2 : Nat), (∃ (x3 : Nat × Nat × Nat × Nat), (0 : Int) = (↑x3.1 : Int) ∧ SVeq (SV.slice 999999 0 0 [] 0 0 0 0 true) (SV.slice 300 x3.2.1 x3.2.2.1 [] 1 0 x3.1 x3.2.2.2 (Nat.beq x3.1 0)) ∧ false = inB (uxC b er m (Int.toNat n)) x3.1 (-1 : Int) ∧ ((b2 = b2 ∧ 0 = 0 ∧ false =
      false ∧ Int.toNat v9 ≤ Int.toNat v9 ∧ Int.toNat v9 ≤ Int.toNat v9 ∧ Int.toNat v9 ≤ Int.toNat v9) ∧ ∀ (i1 : Nat), i1 < Int.toNat v9 → (0 : Int) = uxF b er m (Int.toNat n) x3.1 0 i1) ∧ (Nat.beq x3.1 0 = true ∧ x3.1 = 0 ∧ x3.2.2.2 = 0) ∧ x3.1 ≤ Int.toNat n ∧ x3.1 ≤ x3.2.2.2 ∧ x3.2.2.2 ≤ 9223372036854775807 ∧ (x3.1 = 0 → x3.2.2.2 = 0)) ∧ ∀ (x4 : Nat × Nat × Nat × Nat), x4.1 ≤ Int.toNat n ∧ x4.1 ≤
      x4.2.2.2 ∧ x4.2.2.2 ≤ 9223372036854775807 ∧ (x4.1 = 0 → x4.2.2.2 = 0) → (decide ((↑x4.1 : Int) < n) = true → 0 ≤ v9 ∧ v9 ≤ (↑(List.length b) : Int) ∧ (0 : Int) ≤ (0 : Int) ∧ 0 ≤ v9 ∧ List.length (List.drop (Int.toNat (0 : Int)) (List.take (Int.toNat v9) b)) ≤ 1000000 ∧ ((0 : Int) ≤ (↑x4.1 : Int) ∧ (↑x4.1 : Int) ≤ (1000000 : Int)) ∧ ((1 : Int) ≤ n ∧ n ≤ (1000000 : Int)) ∧ ∀ (s1 : List UInt8), s1 =
      partL (List.drop (Int.toNat (0 : Int)) (List.take (Int.toNat v9) b)) (Int.toNat (↑x4.1 : Int)) (Int.toNat n) → (∃ (x5 : Nat × Nat × Nat × Nat), (0 : Int) = (↑x5.1 : Int) ∧ SVeq (SV.slice 999999 0 0 [] 0 0 0 0 true) (SV.slice 301 x5.2.1 x5.2.2.1 [] 1 0 (List.length (uE b er x5.1 (Int.toNat n) (Int.toNat (↑x4.1 : Int)))) x5.2.2.2 (Nat.beq (List.length (uE b er x5.1 (Int.toNat n) (Int.toNat (↑x4.1 :
      Int)))) 0)) ∧ (Nat.beq (List.length (uE b er x5.1 (Int.toNat n) (Int.toNat (↑x4.1 : Int)))) 0 = true ∧ List.length (uE b er x5.1 (Int.toNat n) (Int.toNat (↑x4.1 : Int))) = 0 ∧ x5.2.2.2 = 0) ∧ x5.1 ≤ m ∧ List.length (uE b er x5.1 (Int.toNat n) (Int.toNat (↑x4.1 : Int))) ≤ x5.2.2.2 ∧ x5.2.2.2 ≤ 9223372036854775807 ∧ (List.length (uE b er x5.1 (Int.toNat n) (Int.toNat (↑x4.1 : Int))) = 0 → x5.2.2.2 =
      0)) ∧ ∀ (x6 : Nat × Nat × Nat × Nat), x6.1 ≤ m ∧ List.length (uE b er x6.1 (Int.toNat n) (Int.toNat (↑x4.1 : Int))) ≤ x6.2.2.2 ∧ x6.2.2.2 ≤ 9223372036854775807 ∧ (List.length (uE b er x6.1 (Int.toNat n) (Int.toNat (↑x4.1 : Int))) = 0 → x6.2.2.2 = 0) → ∀ (v10 : Int), v10 = (↑m : Int) → (decide ((↑x6.1 : Int) < v10) = true → (0 : Int) ≤ (↑x6.1 : Int) ∧ (↑x6.1 : Int) < (↑m : Int) ∧ (eb = eb ∧ eo = eo)
      ∧ Int.toNat (↑x6.1 : Int) < m ∧ (decide (er (Int.toNat (↑x6.1 : Int)) < v9) = true → n ≠ (0 : Int)) ∧ ∀ (v11 : Int), v11 = Int.tmod (er (Int.toNat (↑x6.1 : Int))) n → ∀ (t4 : Bool), (t4 = if decide (er (Int.toNat (↑x6.1 : Int)) < v9) = true then v11 == (↑x4.1 : Int) else false) → (t4 = true → n ≠ (0 : Int) ∧ ∀ (v12 : Int), v12 = IntKind.i64.wrap (Int.tdiv (er (Int.toNat (↑x6.1 : Int))) n) → ∀ (b3 :
      Nat), (x6.2.1 = x6.2.1 ∧ x6.2.2.1 = x6.2.2.1) ∧ (Nat.beq (List.length (uE b er x6.1 (Int.toNat n) (Int.toNat (↑x4.1 : Int)))) 0 = true → Nat.beq (List.length (uE b er x6.1 (Int.toNat n) (Int.toNat (↑x4.1 : Int)))) 0 = true) ∧ 0 = 0 ∧ List.length (uE b er x6.1 (Int.toNat n) (Int.toNat (↑x4.1 : Int))) ≤ List.length (uE b er x6.1 (Int.toNat n) (Int.toNat (↑x4.1 : Int))) ∧ x6.2.2.2 ≤ x6.2.2.2 ∧
      (List.length (uE b er x6.1 (Int.toNat n) (Int.toNat (↑x4.1 : Int))) + 1) * 8 ≤ 140737488355328 ∧ List.length (uE b er x6.1 (Int.toNat n) (Int.toNat (↑x4.1 : Int))) + 1 ≤ 9223372036854775807 ∧ 1 ≤ 1 ∧ (b3 = b3 ∧ 0 = 0) ∧ ∀ (b4 b5 b6 : Nat), List.length (uE b er x6.1 (Int.toNat n) (Int.toNat (↑x4.1 : Int))) + 1 ≤ b6 → b6 ≤ 9223372036854775807 → (Nat.beq (List.length (uE b er x6.1 (Int.toNat n)
      (Int.toNat (↑x4.1 : Int)))) 0 = true → 1 = 0 → b6 = 0) → ∀ (v13 : Int), v13 = IntKind.i64.wrap (er (Int.toNat (↑x6.1 : Int)) - v9) → (decide (er (Int.toNat (↑x6.1 : Int)) ≥ v9) = true → n ≠ (0 : Int)) ∧ ∀ (v14 : Int), v14 = Int.tmod v13 n → ∀ (t5 : Bool), (t5 = if decide (er (Int.toNat (↑x6.1 : Int)) ≥ v9) = true then v14 == (↑x4.1 : Int) else false) → (t5 = true → ∀ (v15 : Int), v15 =
      (↑(List.length s1) : Int) → ∀ (v16 : Int), v16 = IntKind.i64.wrap (er (Int.toNat (↑x6.1 : Int)) - v9) → n ≠ (0 : Int) ∧ ∀ (v17 : Int), v17 = IntKind.i64.wrap (Int.tdiv v16 n) → ∀ (v18 : Int), v18 = IntKind.i64.wrap (v15 + v17) → ∀ (b7 : Nat), (b4 = b4 ∧ b5 = b5) ∧ ((Nat.beq (List.length (uE b er x6.1 (Int.toNat n) (Int.toNat (↑x4.1 : Int)))) 0 && decide (1 = 0)) = true → (Nat.beq (List.length (uE b
      er x6.1 (Int.toNat n) (Int.toNat (↑x4.1 : Int)))) 0 && decide (1 = 0)) = true) ∧ 0 = 0 ∧ List.length (uE b er x6.1 (Int.toNat n) (Int.toNat (↑x4.1 : Int))) + 1 ≤ List.length (uE b er x6.1 (Int.toNat n) (Int.toNat (↑x4.1 : Int))) + 1 ∧ b6 ≤ b6 ∧ (List.length (uE b er x6.1 (Int.toNat n) (Int.toNat (↑x4.1 : Int))) + 1 + 1) * 8 ≤ 140737488355328 ∧ List.length (uE b er x6.1 (Int.toNat n) (Int.toNat
      (↑x4.1 : Int))) + 1 + 1 ≤ 9223372036854775807 ∧ 1 ≤ 1 ∧ (b7 = b7 ∧ 0 = 0) ∧ ∀ (b8 b9 b10 : Nat), List.length (uE b er x6.1 (Int.toNat n) (Int.toNat (↑x4.1 : Int))) + 1 + 1 ≤ b10 → b10 ≤ 9223372036854775807 → ((Nat.beq (List.length (uE b er x6.1 (Int.toNat n) (Int.toNat (↑x4.1 : Int)))) 0 && decide (1 = 0)) = true → 1 = 0 → b10 = 0) → ∀ (v19 : Int), v19 = IntKind.i64.wrap ((↑x6.1 : Int) + (1 : Int))
      → ∃ (x7 : Nat × Nat × Nat × Nat), v19 = (↑x7.1 : Int) ∧ (b8 = x7.2.1 ∧ b9 = x7.2.2.1 ∧ 0 = 0 ∧ List.length (uE b er x6.1 (Int.toNat n) (Int.toNat (↑x4.1 : Int))) + 1 + 1 = List.length (uE b er x7.1 (Int.toNat n) (Int.toNat (↑x4.1 : Int))) ∧ b10 = x7.2.2.2 ∧ (Nat.beq (List.length (uE b er x6.1 (Int.toNat n) (Int.toNat (↑x4.1 : Int)))) 0 && decide (1 = 0) && decide (1 = 0)) = Nat.beq (List.length (uE
      b er x7.1 (Int.toNat n) (Int.toNat (↑x4.1 : Int)))) 0) ∧ ((b8 = x7.2.1 ∧ b9 = x7.2.2.1 ∧ (Nat.beq (List.length (uE b er x6.1 (Int.toNat n) (Int.toNat (↑x4.1 : Int)))) 0 && decide (1 = 0) && decide (1 = 0)) = Nat.beq (List.length (uE b er x7.1 (Int.toNat n) (Int.toNat (↑x4.1 : Int)))) 0 ∧ List.length (uE b er x7.1 (Int.toNat n) (Int.toNat (↑x4.1 : Int))) ≤ List.length (uE b er x6.1 (Int.toNat n)
      (Int.toNat (↑x4.1 : Int))) + 1 + 1 ∧ List.length (uE b er x7.1 (Int.toNat n) (Int.toNat (↑x4.1 : Int))) ≤ x7.2.2.2 ∧ x7.2.2.2 ≤ b10) ∧ ∀ (i2 : Nat), i2 < List.length (uE b er x7.1 (Int.toNat n) (Int.toNat (↑x4.1 : Int))) → (if i2 < List.length (uE b er x6.1 (Int.toNat n) (Int.toNat (↑x4.1 : Int))) + 1 then if i2 < List.length (uE b er x6.1 (Int.toNat n) (Int.toNat (↑x4.1 : Int))) then gL (uE b er
      x6.1 (Int.toNat n) (Int.toNat (↑x4.1 : Int))) i2 else v12 else v18) = gL (uE b er x7.1 (Int.toNat n) (Int.toNat (↑x4.1 : Int))) i2) ∧ (x7.1 ≤ m ∧ List.length (uE b er x7.1 (Int.toNat n) (Int.toNat (↑x4.1 : Int))) ≤ x7.2.2.2 ∧ x7.2.2.2 ≤ 9223372036854775807 ∧ (List.length (uE b er x7.1 (Int.toNat n) (Int.toNat (↑x4.1 : Int))) = 0 → x7.2.2.2 = 0)) ∧ m - x7.1 < m - x6.1) ∧ (t5 = false → ∀ (v16 : Int),
      v16 = IntKind.i64.wrap ((↑x6.1 : Int) + (1 : Int)) → ∃ (x7 : Nat × Nat × Nat × Nat), v16 = (↑x7.1 : Int) ∧ (b4 = x7.2.1 ∧ b5 = x7.2.2.1 ∧ 0 = 0 ∧ List.length (uE b er x6.1 (Int.toNat n) (Int.toNat (↑x4.1 : Int))) + 1 = List.length (uE b er x7.1 (Int.toNat n) (Int.toNat (↑x4.1 : Int))) ∧ b6 = x7.2.2.2 ∧ (Nat.beq (List.length (uE b er x6.1 (Int.toNat n) (Int.toNat (↑x4.1 : Int)))) 0 && decide (1 =
      0)) = Nat.beq (List.length (uE b er x7.1 (Int.toNat n) (Int.toNat (↑x4.1 : Int)))) 0) ∧ ((b4 = x7.2.1 ∧ b5 = x7.2.2.1 ∧ (Nat.beq (List.length (uE b er x6.1 (Int.toNat n) (Int.toNat (↑x4.1 : Int)))) 0 && decide (1 = 0)) = Nat.beq (List.length (uE b er x7.1 (Int.toNat n) (Int.toNat (↑x4.1 : Int)))) 0 ∧ List.length (uE b er x7.1 (Int.toNat n) (Int.toNat (↑x4.1 : Int))) ≤ List.length (uE b er x6.1
      (Int.toNat n) (Int.toNat (↑x4.1 : Int))) + 1 ∧ List.length (uE b er x7.1 (Int.toNat n) (Int.toNat (↑x4.1 : Int))) ≤ x7.2.2.2 ∧ x7.2.2.2 ≤ b6) ∧ ∀ (i2 : Nat), i2 < List.length (uE b er x7.1 (Int.toNat n) (Int.toNat (↑x4.1 : Int))) → (if i2 < List.length (uE b er x6.1 (Int.toNat n) (Int.toNat (↑x4.1 : Int))) then gL (uE b er x6.1 (Int.toNat n) (Int.toNat (↑x4.1 : Int))) i2 else v12) = gL (uE b er
      x7.1 (Int.toNat n) (Int.toNat (↑x4.1 : Int))) i2) ∧ (x7.1 ≤ m ∧ List.length (uE b er x7.1 (Int.toNat n) (Int.toNat (↑x4.1 : Int))) ≤ x7.2.2.2 ∧ x7.2.2.2 ≤ 9223372036854775807 ∧ (List.length (uE b er x7.1 (Int.toNat n) (Int.toNat (↑x4.1 : Int))) = 0 → x7.2.2.2 = 0)) ∧ m - x7.1 < m - x6.1)) ∧ (t4 = false → ∀ (v13 : Int), v13 = IntKind.i64.wrap (er (Int.toNat (↑x6.1 : Int)) - v9) → (decide (er
      (Int.toNat (↑x6.1 : Int)) ≥ v9) = true → n ≠ (0 : Int)) ∧ ∀ (v14 : Int), v14 = Int.tmod v13 n → ∀ (t5 : Bool), (t5 = if decide (er (Int.toNat (↑x6.1 : Int)) ≥ v9) = true then v14 == (↑x4.1 : Int) else false) → (t5 = true → ∀ (v15 : Int), v15 = (↑(List.length s1) : Int) → ∀ (v16 : Int), v16 = IntKind.i64.wrap (er (Int.toNat (↑x6.1 : Int)) - v9) → n ≠ (0 : Int) ∧ ∀ (v17 : Int), v17 = IntKind.i64.wrap
      (Int.tdiv v16 n) → ∀ (v18 : Int), v18 = IntKind.i64.wrap (v15 + v17) → ∀ (b3 : Nat), (x6.2.1 = x6.2.1 ∧ x6.2.2.1 = x6.2.2.1) ∧ (Nat.beq (List.length (uE b er x6.1 (Int.toNat n) (Int.toNat (↑x4.1 : Int)))) 0 = true → Nat.beq (List.length (uE b er x6.1 (Int.toNat n) (Int.toNat (↑x4.1 : Int)))) 0 = true) ∧ 0 = 0 ∧ List.length (uE b er x6.1 (Int.toNat n) (Int.toNat (↑x4.1 : Int))) ≤ List.length (uE b
      er x6.1 (Int.toNat n) (Int.toNat (↑x4.1 : Int))) ∧ x6.2.2.2 ≤ x6.2.2.2 ∧ (List.length (uE b er x6.1 (Int.toNat n) (Int.toNat (↑x4.1 : Int))) + 1) * 8 ≤ 140737488355328 ∧ List.length (uE b er x6.1 (Int.toNat n) (Int.toNat (↑x4.1 : Int))) + 1 ≤ 9223372036854775807 ∧ 1 ≤ 1 ∧ (b3 = b3 ∧ 0 = 0) ∧ ∀ (b4 b5 b6 : Nat), List.length (uE b er x6.1 (Int.toNat n) (Int.toNat (↑x4.1 : Int))) + 1 ≤ b6 → b6 ≤
      9223372036854775807 → (Nat.beq (List.length (uE b er x6.1 (Int.toNat n) (Int.toNat (↑x4.1 : Int)))) 0 = true → 1 = 0 → b6 = 0) → ∀ (v19 : Int), v19 = IntKind.i64.wrap ((↑x6.1 : Int) + (1 : Int)) → ∃ (x7 : Nat × Nat × Nat × Nat), v19 = (↑x7.1 : Int) ∧ (b4 = x7.2.1 ∧ b5 = x7.2.2.1 ∧ 0 = 0 ∧ List.length (uE b er x6.1 (Int.toNat n) (Int.toNat (↑x4.1 : Int))) + 1 = List.length (uE b er x7.1 (Int.toNat
      n) (Int.toNat (↑x4.1 : Int))) ∧ b6 = x7.2.2.2 ∧ (Nat.beq (List.length (uE b er x6.1 (Int.toNat n) (Int.toNat (↑x4.1 : Int)))) 0 && decide (1 = 0)) = Nat.beq (List.length (uE b er x7.1 (Int.toNat n) (Int.toNat (↑x4.1 : Int)))) 0) ∧ ((b4 = x7.2.1 ∧ b5 = x7.2.2.1 ∧ (Nat.beq (List.length (uE b er x6.1 (Int.toNat n) (Int.toNat (↑x4.1 : Int)))) 0 && decide (1 = 0)) = Nat.beq (List.length (uE b er x7.1
      (Int.toNat n) (Int.toNat (↑x4.1 : Int)))) 0 ∧ List.length (uE b er x7.1 (Int.toNat n) (Int.toNat (↑x4.1 : Int))) ≤ List.length (uE b er x6.1 (Int.toNat n) (Int.toNat (↑x4.1 : Int))) + 1 ∧ List.length (uE b er x7.1 (Int.toNat n) (Int.toNat (↑x4.1 : Int))) ≤ x7.2.2.2 ∧ x7.2.2.2 ≤ b6) ∧ ∀ (i2 : Nat), i2 < List.length (uE b er x7.1 (Int.toNat n) (Int.toNat (↑x4.1 : Int))) → (if i2 < List.length (uE b
      er x6.1 (Int.toNat n) (Int.toNat (↑x4.1 : Int))) then gL (uE b er x6.1 (Int.toNat n) (Int.toNat (↑x4.1 : Int))) i2 else v18) = gL (uE b er x7.1 (Int.toNat n) (Int.toNat (↑x4.1 : Int))) i2) ∧ (x7.1 ≤ m ∧ List.length (uE b er x7.1 (Int.toNat n) (Int.toNat (↑x4.1 : Int))) ≤ x7.2.2.2 ∧ x7.2.2.2 ≤ 9223372036854775807 ∧ (List.length (uE b er x7.1 (Int.toNat n) (Int.toNat (↑x4.1 : Int))) = 0 → x7.2.2.2 =
      0)) ∧ m - x7.1 < m - x6.1) ∧ (t5 = false → ∀ (v16 : Int), v16 = IntKind.i64.wrap ((↑x6.1 : Int) + (1 : Int)) → ∃ (x7 : Nat × Nat × Nat × Nat), v16 = (↑x7.1 : Int) ∧ (x6.2.1 = x7.2.1 ∧ x6.2.2.1 = x7.2.2.1 ∧ 0 = 0 ∧ List.length (uE b er x6.1 (Int.toNat n) (Int.toNat (↑x4.1 : Int))) = List.length (uE b er x7.1 (Int.toNat n) (Int.toNat (↑x4.1 : Int))) ∧ x6.2.2.2 = x7.2.2.2 ∧ Nat.beq (List.length (uE b
      er x6.1 (Int.toNat n) (Int.toNat (↑x4.1 : Int)))) 0 = Nat.beq (List.length (uE b er x7.1 (Int.toNat n) (Int.toNat (↑x4.1 : Int)))) 0) ∧ ((x6.2.1 = x7.2.1 ∧ x6.2.2.1 = x7.2.2.1 ∧ Nat.beq (List.length (uE b er x6.1 (Int.toNat n) (Int.toNat (↑x4.1 : Int)))) 0 = Nat.beq (List.length (uE b er x7.1 (Int.toNat n) (Int.toNat (↑x4.1 : Int)))) 0 ∧ List.length (uE b er x7.1 (Int.toNat n) (Int.toNat (↑x4.1 :
      Int))) ≤ List.length (uE b er x6.1 (Int.toNat n) (Int.toNat (↑x4.1 : Int))) ∧ List.length (uE b er x7.1 (Int.toNat n) (Int.toNat (↑x4.1 : Int))) ≤ x7.2.2.2 ∧ x7.2.2.2 ≤ x6.2.2.2) ∧ ∀ (i2 : Nat), i2 < List.length (uE b er x7.1 (Int.toNat n) (Int.toNat (↑x4.1 : Int))) → gL (uE b er x6.1 (Int.toNat n) (Int.toNat (↑x4.1 : Int))) i2 = gL (uE b er x7.1 (Int.toNat n) (Int.toNat (↑x4.1 : Int))) i2) ∧ (x7.1
      ≤ m ∧ List.length (uE b er x7.1 (Int.toNat n) (Int.toNat (↑x4.1 : Int))) ≤ x7.2.2.2 ∧ x7.2.2.2 ≤ 9223372036854775807 ∧ (List.length (uE b er x7.1 (Int.toNat n) (Int.toNat (↑x4.1 : Int))) = 0 → x7.2.2.2 = 0)) ∧ m - x7.1 < m - x6.1))) ∧ (decide ((↑x6.1 : Int) < v10) = false → (0 : Int) ≤ (↑(List.length b) : Int) ∧ (↑(List.length b) : Int) ≤ (↑(List.length b) : Int) ∧ 0 ≤ v9 ∧ v9 ≤ (↑(List.length b) :
      Int) ∧ List.length (List.drop (Int.toNat v9) (List.take (Int.toNat (↑(List.length b) : Int)) b)) ≤ 1000000 ∧ ((0 : Int) ≤ (↑x4.1 : Int) ∧ (↑x4.1 : Int) ≤ (1000000 : Int)) ∧ ((1 : Int) ≤ n ∧ n ≤ (1000000 : Int)) ∧ ∀ (s2 : List UInt8), s2 = partL (List.drop (Int.toNat v9) (List.take (Int.toNat (↑(List.length b) : Int)) b)) (Int.toNat (↑x4.1 : Int)) (Int.toNat n) → List.length s1 + List.length s2 ≤
      9223372036854775807 ∧ ∀ (s3 : List UInt8), s3 = s1 ++ s2 → List.length (uE b er x6.1 (Int.toNat n) (Int.toNat (↑x4.1 : Int))) ≤ List.length (uE b er x6.1 (Int.toNat n) (Int.toNat (↑x4.1 : Int))) ∧ (∀ (k1 : Nat), k1 < List.length (uE b er x6.1 (Int.toNat n) (Int.toNat (↑x4.1 : Int))) → true = true) ∧ (x6.2.1 = x6.2.1 ∧ x6.2.2.1 = x6.2.2.1) ∧ List.length (uE b er x6.1 (Int.toNat n) (Int.toNat (↑x4.1
      : Int))) ≤ 1000000 ∧ ∀ (s4 : List UInt8), s4 = decL s3 (gL (uE b er x6.1 (Int.toNat n) (Int.toNat (↑x4.1 : Int)))) (List.length (uE b er x6.1 (Int.toNat n) (Int.toNat (↑x4.1 : Int)))) → ∀ (v12 : Int), v12 = decN s3 (gL (uE b er x6.1 (Int.toNat n) (Int.toNat (↑x4.1 : Int)))) (List.length (uE b er x6.1 (Int.toNat n) (Int.toNat (↑x4.1 : Int)))) → ∀ (v13 : Int), v13 = decE s3 (gL (uE b er x6.1
      (Int.toNat n) (Int.toNat (↑x4.1 : Int)))) (List.length (uE b er x6.1 (Int.toNat n) (Int.toNat (↑x4.1 : Int)))) → ((v13 != (0 : Int)) = true → ∀ (b3 : Nat), (x4.2.1 = x4.2.1 ∧ x4.2.2.1 = x4.2.2.1) ∧ (Nat.beq x4.1 0 = true → Nat.beq x4.1 0 = true) ∧ 0 = 0 ∧ x4.1 ≤ x4.1 ∧ x4.2.2.2 ≤ x4.2.2.2 ∧ (x4.1 + 1) * 8 ≤ 140737488355328 ∧ x4.1 + 1 ≤ 9223372036854775807 ∧ 1 ≤ 1 ∧ (b3 = b3 ∧ 0 = 0) ∧ ∀ (b4 b5 b6 :
      Nat), x4.1 + 1 ≤ b6 → b6 ≤ 9223372036854775807 → (Nat.beq x4.1 0 = true → 1 = 0 → b6 = 0) → (∃ (x7 : Nat), (0 : Int) = (↑x7 : Int) ∧ ((b2 = b2 ∧ 0 = 0 ∧ false = false ∧ Int.toNat v9 ≤ Int.toNat v9 ∧ Int.toNat v9 ≤ Int.toNat v9 ∧ Int.toNat v9 ≤ Int.toNat v9) ∧ ∀ (i2 : Nat), i2 < Int.toNat v9 → uxF b er m (Int.toNat n) x4.1 0 i2 = uxF b er m (Int.toNat n) (Int.toNat (↑x4.1 : Int)) x7 i2) ∧ Nat.le x7
      (List.length (uxD b er m (Int.toNat n) (Int.toNat (↑x4.1 : Int))))) ∧ ∀ (b7 : Nat), b7 ≤ List.length (uxD b er m (Int.toNat n) (Int.toNat (↑x4.1 : Int))) → ∀ (v14 : Int), v14 = (↑(List.length s4) : Int) → (decide ((↑b7 : Int) < v14) = true → ∀ (v15 : Int), v15 = IntKind.i64.wrap ((↑b7 : Int) * n) → ∀ (v16 : Int), v16 = IntKind.i64.wrap ((↑x4.1 : Int) + v15) → (0 : Int) ≤ (↑b7 : Int) ∧ (↑b7 : Int) <
      (↑(List.length s4) : Int) ∧ 0 ≤ v16 ∧ v16 < (↑(Int.toNat v9) : Int) ∧ (b2 = b2 ∧ 0 = 0) ∧ Int.toNat v16 < Int.toNat v9 ∧ ∀ (v17 : Int), v17 = IntKind.i64.wrap ((↑b7 : Int) + (1 : Int)) → ∃ (x8 : Nat), v17 = (↑x8 : Int) ∧ ((b2 = b2 ∧ 0 = 0 ∧ false = false ∧ Int.toNat v9 ≤ Int.toNat v9 ∧ Int.toNat v9 ≤ Int.toNat v9 ∧ Int.toNat v9 ≤ Int.toNat v9) ∧ ∀ (i3 : Nat), i3 < Int.toNat v9 → (if i3 = Int.toNat
      v16 then (↑(UInt8.toNat (List.getD s4 (Int.toNat (↑b7 : Int)) 0)) : Int) else uxF b er m (Int.toNat n) (Int.toNat (↑x4.1 : Int)) b7 i3) = uxF b er m (Int.toNat n) (Int.toNat (↑x4.1 : Int)) x8 i3) ∧ x8 ≤ List.length (uxD b er m (Int.toNat n) (Int.toNat (↑x4.1 : Int))) ∧ List.length (uxD b er m (Int.toNat n) (Int.toNat (↑x4.1 : Int))) - x8 < List.length (uxD b er m (Int.toNat n) (Int.toNat (↑x4.1 :
      Int))) - b7) ∧ (decide ((↑b7 : Int) < v14) = false → ∀ (v16 : Int), v16 = IntKind.i64.wrap ((↑x4.1 : Int) + (1 : Int)) → ∃ (x8 : Nat × Nat × Nat × Nat), v16 = (↑x8.1 : Int) ∧ (b4 = x8.2.1 ∧ b5 = x8.2.2.1 ∧ 0 = 0 ∧ x4.1 + 1 = x8.1 ∧ b6 = x8.2.2.2 ∧ (Nat.beq x4.1 0 && decide (1 = 0)) = Nat.beq x8.1 0) ∧ true = inB (uxC b er m (Int.toNat n)) x8.1 (-1 : Int) ∧ ((b2 = b2 ∧ 0 = 0 ∧ false = false ∧
      Int.toNat v9 ≤ Int.toNat v9 ∧ Int.toNat v9 ≤ Int.toNat v9 ∧ Int.toNat v9 ≤ Int.toNat v9) ∧ ∀ (i3 : Nat), i3 < Int.toNat v9 → uxF b er m (Int.toNat n) (Int.toNat (↑x4.1 : Int)) b7 i3 = uxF b er m (Int.toNat n) x8.1 0 i3) ∧ ((b4 = x8.2.1 ∧ b5 = x8.2.2.1 ∧ (Nat.beq x4.1 0 && decide (1 = 0)) = Nat.beq x8.1 0 ∧ x8.1 ≤ x4.1 + 1 ∧ x8.1 ≤ x8.2.2.2 ∧ x8.2.2.2 ≤ b6) ∧ ∀ (i4 : Nat), i4 < x8.1 → (if i4 < x4.1
      then uxC b er m (Int.toNat n) i4 else (-1 : Int)) = uxC b er m (Int.toNat n) i4) ∧ (x8.1 ≤ Int.toNat n ∧ x8.1 ≤ x8.2.2.2 ∧ x8.2.2.2 ≤ 9223372036854775807 ∧ (x8.1 = 0 → x8.2.2.2 = 0)) ∧ Int.toNat n - x8.1 < Int.toNat n - x4.1)) ∧ ((v13 != (0 : Int)) = false → ∀ (b4 : Nat), (x4.2.1 = x4.2.1 ∧ x4.2.2.1 = x4.2.2.1) ∧ (Nat.beq x4.1 0 = true → Nat.beq x4.1 0 = true) ∧ 0 = 0 ∧ x4.1 ≤ x4.1 ∧ x4.2.2.2 ≤
      x4.2.2.2 ∧ (x4.1 + 1) * 8 ≤ 140737488355328 ∧ x4.1 + 1 ≤ 9223372036854775807 ∧ 1 ≤ 1 ∧ (b4 = b4 ∧ 0 = 0) ∧ ∀ (b5 b6 b7 : Nat), x4.1 + 1 ≤ b7 → b7 ≤ 9223372036854775807 → (Nat.beq x4.1 0 = true → 1 = 0 → b7 = 0) → (∃ (x7 : Nat), (0 : Int) = (↑x7 : Int) ∧ ((b2 = b2 ∧ 0 = 0 ∧ false = false ∧ Int.toNat v9 ≤ Int.toNat v9 ∧ Int.toNat v9 ≤ Int.toNat v9 ∧ Int.toNat v9 ≤ Int.toNat v9) ∧ ∀ (i2 : Nat), i2 <
      Int.toNat v9 → uxF b er m (Int.toNat n) x4.1 0 i2 = uxF b er m (Int.toNat n) (Int.toNat (↑x4.1 : Int)) x7 i2) ∧ Nat.le x7 (List.length (uxD b er m (Int.toNat n) (Int.toNat (↑x4.1 : Int))))) ∧ ∀ (b8 : Nat), b8 ≤ List.length (uxD b er m (Int.toNat n) (Int.toNat (↑x4.1 : Int))) → ∀ (v14 : Int), v14 = (↑(List.length s4) : Int) → (decide ((↑b8 : Int) < v14) = true → ∀ (v15 : Int), v15 = IntKind.i64.wrap
      ((↑b8 : Int) * n) → ∀ (v16 : Int), v16 = IntKind.i64.wrap ((↑x4.1 : Int) + v15) → (0 : Int) ≤ (↑b8 : Int) ∧ (↑b8 : Int) < (↑(List.length s4) : Int) ∧ 0 ≤ v16 ∧ v16 < (↑(Int.toNat v9) : Int) ∧ (b2 = b2 ∧ 0 = 0) ∧ Int.toNat v16 < Int.toNat v9 ∧ ∀ (v17 : Int), v17 = IntKind.i64.wrap ((↑b8 : Int) + (1 : Int)) → ∃ (x8 : Nat), v17 = (↑x8 : Int) ∧ ((b2 = b2 ∧ 0 = 0 ∧ false = false ∧ Int.toNat v9 ≤
      Int.toNat v9 ∧ Int.toNat v9 ≤ Int.toNat v9 ∧ Int.toNat v9 ≤ Int.toNat v9) ∧ ∀ (i3 : Nat), i3 < Int.toNat v9 → (if i3 = Int.toNat v16 then (↑(UInt8.toNat (List.getD s4 (Int.toNat (↑b8 : Int)) 0)) : Int) else uxF b er m (Int.toNat n) (Int.toNat (↑x4.1 : Int)) b8 i3) = uxF b er m (Int.toNat n) (Int.toNat (↑x4.1 : Int)) x8 i3) ∧ x8 ≤ List.length (uxD b er m (Int.toNat n) (Int.toNat (↑x4.1 : Int))) ∧
      List.length (uxD b er m (Int.toNat n) (Int.toNat (↑x4.1 : Int))) - x8 < List.length (uxD b er m (Int.toNat n) (Int.toNat (↑x4.1 : Int))) - b8) ∧ (decide ((↑b8 : Int) < v14) = false → ∀ (v16 : Int), v16 = IntKind.i64.wrap ((↑x4.1 : Int) + (1 : Int)) → ∃ (x8 : Nat × Nat × Nat × Nat), v16 = (↑x8.1 : Int) ∧ (b5 = x8.2.1 ∧ b6 = x8.2.2.1 ∧ 0 = 0 ∧ x4.1 + 1 = x8.1 ∧ b7 = x8.2.2.2 ∧ (Nat.beq x4.1 0 &&
      decide (1 = 0)) = Nat.beq x8.1 0) ∧ inB (uxC b er m (Int.toNat n)) x4.1 (-1 : Int) = inB (uxC b er m (Int.toNat n)) x8.1 (-1 : Int) ∧ ((b2 = b2 ∧ 0 = 0 ∧ false = false ∧ Int.toNat v9 ≤ Int.toNat v9 ∧ Int.toNat v9 ≤ Int.toNat v9 ∧ Int.toNat v9 ≤ Int.toNat v9) ∧ ∀ (i3 : Nat), i3 < Int.toNat v9 → uxF b er m (Int.toNat n) (Int.toNat (↑x4.1 : Int)) b8 i3 = uxF b er m (Int.toNat n) x8.1 0 i3) ∧ ((b5 =
      x8.2.1 ∧ b6 = x8.2.2.1 ∧ (Nat.beq x4.1 0 && decide (1 = 0)) = Nat.beq x8.1 0 ∧ x8.1 ≤ x4.1 + 1 ∧ x8.1 ≤ x8.2.2.2 ∧ x8.2.2.2 ≤ b7) ∧ ∀ (i4 : Nat), i4 < x8.1 → (if i4 < x4.1 then uxC b er m (Int.toNat n) i4 else v12) = uxC b er m (Int.toNat n) i4) ∧ (x8.1 ≤ Int.toNat n ∧ x8.1 ≤ x8.2.2.2 ∧ x8.2.2.2 ≤ 9223372036854775807 ∧ (x8.1 = 0 → x8.2.2.2 = 0)) ∧ Int.toNat n - x8.1 < Int.toNat n - x4.1)))) ∧
      (decide ((↑x4.1 : Int) < n) = false → (inB (uxC b er m (Int.toNat n)) x4.1 (-1 : Int) = true → ∃ (x5 : Nat × Nat × Nat), ([] = uxL b er m n ∧ (x4.2.1 = x5.1 ∧ x4.2.2.1 = x5.2.1 ∧ 0 = 0 ∧ x4.1 = uxN b er m n ∧ x4.2.2.2 = x5.2.2 ∧ Nat.beq x4.1 0 = Nat.beq (uxN b er m n) 0) ∧ (50 : Int) = uxE b er m n) ∧ ((x4.2.1 = x5.1 ∧ x4.2.2.1 = x5.2.1 ∧ Nat.beq x4.1 0 = Nat.beq (uxN b er m n) 0 ∧ uxN b er m n ≤
      x4.1 ∧ uxN b er m n ≤ x5.2.2 ∧ x5.2.2 ≤ x4.2.2.2) ∧ ∀ (i2 : Nat), i2 < uxN b er m n → uxC b er m (Int.toNat n) i2 = uxC b er m (Int.toNat n) i2) ∧ uxN b er m n ≤ x5.2.2 ∧ x5.2.2 ≤ 9223372036854775807 ∧ (uxN b er m n = 0 → x5.2.2 = 0)) ∧ (inB (uxC b er m (Int.toNat n)) x4.1 (-1 : Int) = false → Int.toNat v9 ≤ Int.toNat v9 ∧ (∀ (k1 : Nat), k1 < Int.toNat v9 → true = true) ∧ (b2 = b2 ∧ 0 = 0) ∧ ∀ (s2
      : List UInt8), s2 = Byt.of (uxF b er m (Int.toNat n) x4.1 0) (Int.toNat v9) → ∃ (x6 : Nat × Nat × Nat), (s2 = uxL b er m n ∧ (x4.2.1 = x6.1 ∧ x4.2.2.1 = x6.2.1 ∧ 0 = 0 ∧ x4.1 = uxN b er m n ∧ x4.2.2.2 = x6.2.2 ∧ Nat.beq x4.1 0 = Nat.beq (uxN b er m n) 0) ∧ (0 : Int) = uxE b er m n) ∧ ((x4.2.1 = x6.1 ∧ x4.2.2.1 = x6.2.1 ∧ Nat.beq x4.1 0 = Nat.beq (uxN b er m n) 0 ∧ uxN b er m n ≤ x4.1 ∧ uxN b er m n
      ≤ x6.2.2 ∧ x6.2.2 ≤ x4.2.2.2) ∧ ∀ (i3 : Nat), i3 < uxN b er m n → uxC b er m (Int.toNat n) i3 = uxC b er m (Int.toNat n) i3) ∧ uxN b er m n ≤ x6.2.2 ∧ x6.2.2 ≤ 9223372036854775807 ∧ (uxN b er m n = 0 → x6.2.2 = 0)))))) (by kernel_rfl) ?_
  try simp only [eq_self, true_and, and_true, Nat.le_refl, implies_true, forall_const, Bool.false_eq_true, Bool.true_eq_false, reduceCtorEq, false_imp_iff, true_imp_iff, Int.toNat_zero, Int.toNat_natCast, Nat.zero_lt_one, Int.le_refl, allGet]
  intro t1 ht1 v1 h1 v2 h2 t2 ht2 v3 h3 v4 h4 t3 ht3
  have hb0 := u0B_eq ht1 h1 h2 ht2 h3 h4 ht3
  clear ht1 h1 h2 ht2 h3 h4 ht3
  have hbad : uxB b er m n = true → ∃ x1 : Nat × Nat × Nat, ([] = uxL b er m n ∧ SVeq (SV.slice 999999 0 0 [] 0 0 0 0 true) (SV.slice 1 x1.1 x1.2.1 [] 1 0 (uxN b er m n) x1.2.2 ((uxN b er m n).beq 0)) ∧ 2 = uxE b er m n) ∧ ((uxN b er m n).beq 0 = true ∧ uxN b er m n = 0 ∧ x1.2.2 = 0) ∧ uxN b er m n ≤ x1.2.2 ∧ x1.2.2 ≤ 9223372036854775807 ∧ (uxN b er m n = 0 → x1.2.2 = 0) := fun h => by
    have e0 : uxN b er m n = 0 := by unfold uxN; rw [h]; rfl
    rw [e0]
    refine ⟨(0, 0, 0), ⟨?_, nil_eqv rfl rfl rfl, ?_⟩, ⟨rfl, rfl, rfl⟩, Nat.le_refl _, by dsimp only; omega, fun _ => rfl⟩
    · unfold uxL; rw [h]; rfl
    · unfold uxE; rw [h]; rfl
  refine ⟨fun h => hbad (by unfold uxB; rw [← hb0, h]; rfl), fun h0 => ⟨⟨0, rfl, Nat.zero_le _, rfl⟩, ?_⟩⟩
  rintro i ⟨i1, i2⟩ v5 h5
  subst h5
  refine ⟨fun hlt => ?_, fun hge v7 h7 v8 h8 v9 h9 => ?_⟩
  · have hin : i < m := by have := of_decide_eq_true hlt; omega
    refine ⟨by omega, by omega, hin, fun _ => by omega, fun _ => by omega, fun _ => hin, fun v6 h6 t4 ht4 => ⟨fun h => hbad ?_, fun h v7 h7 => ⟨i + 1, h7.trans (l_succ (by omega)), ⟨by omega, ?_⟩, by omega⟩⟩⟩
    · have ho : outP er b.length i = true := by
        unfold outP
        rw [h] at ht4
        by_cases q : er i < 0
        · rw [decide_eq_true q]; rfl
        · rw [if_neg (by rw [decide_eq_false q]; decide)] at ht4
          have := of_decide_eq_true ht4.symm
          rw [decide_eq_true (show (b.length : Int) ≤ er i by omega)]
          cases decide (er i < 0) <;> rfl
      have hno : noneTo (outP er b.length) m = false := by
        cases q : noneTo (outP er b.length) m with
        | false => rfl
        | true => have := noneTo_iff.1 q i hin; rw [ho] at this; cases this
      unfold uxB
      rw [hno]
      cases u0B b n <;> rfl
    · rw [h] at ht4
      have hx : 0 ≤ er i ∧ er i < b.length := by
        by_cases q : er i < 0
        · rw [if_pos (decide_eq_true q)] at ht4; cases ht4
        · rw [if_neg (by rw [decide_eq_false q]; decide)] at ht4
          have := of_decide_eq_false ht4.symm
          omega
      simp only [noneTo, i2, Bool.true_and]
      unfold outP
      rw [decide_eq_false (by omega), decide_eq_false (by omega)]
      rfl
  have hin : m = i := by have := of_decide_eq_false hge; omega
  subst hin
  have h : uxB b er m n = false := by unfold uxB; rw [← hb0, h0, i2]; rfl
  clear hbad hge i1 i2 hb0 h0
  obtain ⟨g1, g2, g3, g4, g5⟩ := uxB_false h
  have eN : uxN b er m n = n.toNat := by unfold uxN; rw [h]; rfl
  have eL : uxL b er m n = if uxBad b er m n.toNat then [] else Byt.of (uxX b er m n.toNat) (b.length - 8 * n.toNat) := by unfold uxL; rw [h]; rfl
  have eE : uxE b er m n = if uxBad b er m n.toNat then 50 else 0 := by unfold uxE; rw [h]; rfl
  rw [eN, eL, eE]
  have hN : ((n.toNat : Nat) : Int) = n := Int.toNat_of_nonneg (by omega)
  generalize hNN : n.toNat = N at *
  have e9 : v9 = ((b.length - 8 * N : Nat) : Int) := by
    rw [h9, h7, h8, w64_id (x := 8 * n) (by omega) (by omega), w64_id (by omega) (by omega)]
    omega
  clear h9 h8 h7
  generalize hM : b.length - 8 * N = M at *
  subst e9
  have hlD : (b.take M).length = M := by rw [List.length_take]; omega
  have hlP : (b.drop M).length = 8 * N := by rw [List.length_drop]; omega
  have hD : List.drop 0 (List.take ((M : Nat) : Int).toNat b) = b.take M := by rw [Int.toNat_natCast]; rfl
  have hP : List.drop ((M : Nat) : Int).toNat (List.take b.length b) = b.drop M := by rw [Int.toNat_natCast, List.take_length]
  refine ⟨by omega, by omega, by omega, ⟨(0, 0, 0, 0), rfl, nil_eqv rfl rfl rfl, rfl, fun k hk => uxF_zero.symm, ⟨rfl, rfl, rfl⟩, Nat.zero_le _, Nat.le_refl _, by dsimp only; omega, fun _ => rfl⟩, ?_⟩
  rintro ⟨j, a1, a2, cap⟩ ⟨j1, j2, j4, j3⟩
  dsimp only at j1 j2 j3 j4 ⊢
  refine ⟨fun hjn => ?_, fun hjn => ?_⟩
  · have hjn := of_decide_eq_true hjn
    have hjN : j < N := by omega
    refine ⟨by omega, by omega, by omega, by rw [hD, hlD]; omega, ⟨by omega, by omega⟩, ⟨by omega, by omega⟩, fun s1 hs1 => ⟨⟨(0, 0, 0, 0), rfl, nil_eqv rfl rfl rfl, ⟨rfl, rfl, rfl⟩, Nat.zero_le _, Nat.le_refl _, by dsimp only; omega, fun _ => rfl⟩, ?_⟩⟩
    have l1 : s1.length = partN M j N := by rw [hs1, hD, partL_len, hlD]
    rintro ⟨k, c1, c2, c3⟩ ⟨k1, k2, k3, k4⟩ v10 h10
    dsimp only at k1 k2 k3 k4 ⊢
    subst h10
    refine ⟨fun hlt => ?_, fun hge => ?_⟩
    · have hlt : k < m := by have := of_decide_eq_true hlt; omega
      obtain ⟨r1, r2⟩ := g5 k hlt
      have hU : (uE b er k N j).length ≤ k := uP_len _ _ _ _ _ _
      have hS : uE b er (k + 1) N j = if (er k).toNat < b.length - 8 * N then (if (er k).toNat % N = j then uE b er k N j ++ [(((er k).toNat / N : Nat) : Int)] else uE b er k N j)
        else (if ((er k).toNat - (b.length - 8 * N)) % N = j then uE b er k N j ++ [((partN (b.length - 8 * N) j N + ((er k).toNat - (b.length - 8 * N)) / N : Nat) : Int)] else uE b er k N j) := rfl
      rw [hM] at hS
      obtain ⟨U, hUe⟩ : ∃ U, uE b er k N j = U := ⟨_, rfl⟩
      simp only [hUe] at hU hS k2 k4 ⊢
      have hmod : ∀ a : Nat, Int.tmod (a : Int) n = ((a % N : Nat) : Int) := fun a => by rw [← hN]; rfl
      have hdiv : ∀ a : Nat, Int.tdiv (a : Int) n = ((a / N : Nat) : Int) := fun a => by rw [← hN]; rfl
      obtain ⟨e, he⟩ : ∃ e : Nat, er k = (e : Int) := ⟨(er k).toNat, by omega⟩
      rw [he, Int.toNat_natCast] at hS
      simp only [he] at r1 r2 ⊢
      have hdl := Nat.div_le_self e N
      have hdl2 := Nat.div_le_self (e - M) N
      have app : ∀ x : Int, uE b er (k + 1) N j = U ++ [x] → ∀ v10 : Int, v10 = x → ∀ (b4 b5 b6 : Nat), U.length + 1 ≤ b6 → b6 ≤ 9223372036854775807 → ∀ v11 : Int, v11 = IntKind.i64.wrap ((k : Int) + 1) → ∃ x6 : Nat × Nat × Nat × Nat, v11 = (x6.1 : Int) ∧ (b4 = x6.2.1 ∧ b5 = x6.2.2.1 ∧ U.length + 1 = (uE b er x6.1 N j).length ∧ b6 = x6.2.2.2 ∧ (Nat.beq U.length 0 && decide False) = Nat.beq (uE b er x6.1 N j).length 0) ∧ ((b4 = x6.2.1 ∧ b5 = x6.2.2.1 ∧ (Nat.beq U.length 0 && decide False) = Nat.beq (uE b er x6.1 N j).length 0 ∧ (uE b er x6.1 N j).length ≤ U.length + 1 ∧ (uE b er x6.1 N j).length ≤ x6.2.2.2 ∧ x6.2.2.2 ≤ b6) ∧ ∀ i2, i2 < (uE b er x6.1 N j).length → (if i2 < U.length then gL U i2 else v10) = gL (uE b er x6.1 N j) i2) ∧ (x6.1 ≤ m ∧ (uE b er x6.1 N j).length ≤ x6.2.2.2 ∧ x6.2.2.2 ≤ 9223372036854775807 ∧ ((uE b er x6.1 N j).length = 0 → x6.2.2.2 = 0)) ∧ m - x6.1 < m - k := by
        intro x hx v10 h10 b4 b5 b6 q1 q2 v11 h11
        have hl : (uE b er (k + 1) N j).length = U.length + 1 := by rw [hx, List.length_append]; rfl
        refine ⟨(k + 1, b4, b5, b6), h11.trans (l_succ (by omega)), ?_⟩
        dsimp only
        rw [hl]
        refine ⟨⟨rfl, rfl, rfl, rfl, pt_beq _⟩, ⟨⟨rfl, rfl, pt_beq _, Nat.le_refl _, q1, Nat.le_refl _⟩, fun i hi => ?_⟩, ⟨by omega, q1, q2, fun q => by cases q⟩, by omega⟩
        rw [hx]
        by_cases q : i < U.length
        · rw [if_pos q, gL, gL, List.getD_eq_getElem?_getD, List.getD_eq_getElem?_getD, List.getElem?_append_left q]
        · rw [if_neg q, show i = U.length by omega, h10, gL, List.getD_eq_getElem?_getD, List.getElem?_append_right (Nat.le_refl _), Nat.sub_self]
          rfl
      have hn0 : n ≠ 0 := by omega
      have w : ∀ a : Nat, a ≤ 1000000 → IntKind.i64.wrap (a : Int) = (a : Int) := fun a ha => w64_id (by omega) (by omega)
      have f4 : ∀ t : Bool, ∀ v : Int, v = Int.tmod (e : Int) n → (t = if decide ((e : Int) < (M : Int)) = true then v == (j : Int) else false) → (t = true → e < M ∧ e % N = j) ∧ (t = false → ¬ (e < M ∧ e % N = j)) := fun t v hv ht => by
        rw [hv, hmod] at ht
        by_cases q : e < M
        · rw [if_pos (decide_eq_true (by omega))] at ht
          refine ⟨fun h => ?_, fun h q2 => ?_⟩
          · rw [h] at ht
            have := eq_of_beq ht.symm
            omega
          · rw [h, q2.2] at ht
            simp at ht
        · rw [if_neg (by rw [decide_eq_false (by omega)]; decide)] at ht
          exact ⟨fun h => (by rw [h] at ht; cases ht), fun _ q2 => q q2.1⟩
      have f5 : ∀ t : Bool, ∀ v v' : Int, v' = IntKind.i64.wrap ((e : Int) - (M : Int)) → v = Int.tmod v' n → (t = if decide ((e : Int) ≥ (M : Int)) = true then v == (j : Int) else false) → (t = true → M ≤ e ∧ (e - M) % N = j) ∧ (t = false → ¬ (M ≤ e ∧ (e - M) % N = j)) := fun t v v' hv' hv ht => by
        by_cases q : M ≤ e
        · rw [if_pos (decide_eq_true (by omega)), hv, hv', show (e : Int) - (M : Int) = ((e - M : Nat) : Int) by omega, w _ (by omega), hmod] at ht
          refine ⟨fun h => ?_, fun h q2 => ?_⟩
          · rw [h] at ht
            have := eq_of_beq ht.symm
            omega
          · rw [h, q2.2] at ht
            simp at ht
        · rw [if_neg (by rw [decide_eq_false (by omega)]; decide)] at ht
          exact ⟨fun h => (by rw [h] at ht; cases ht), fun _ q2 => q q2.1⟩
      refine ⟨by omega, by omega, hlt, fun _ => hn0, fun v11 h11 t4 ht4 => ⟨fun h4 => ⟨hn0, fun v12 h12 => ⟨fun q => q, by omega, by omega, fun b4 b5 b6 q1 q2 v13 h13 => ⟨fun _ => hn0, fun v14 h14 t5 ht5 => ⟨fun h5 => ?_, fun h5 => ?_⟩⟩⟩⟩, fun h4 v13 h13 => ⟨fun _ => hn0, fun v14 h14 t5 ht5 => ⟨fun h5 v15 h15 v16 h16 => ⟨hn0, fun v17 h17 v18 h18 => ?_⟩, fun h5 v16 h16 => ?_⟩⟩⟩⟩
      · have x1 := (f4 t4 v11 h11 ht4).1 h4
        have x2 := (f5 t5 v14 v13 h13 h14 ht5).1 h5
        omega
      · have x1 := (f4 t4 v11 h11 ht4).1 h4
        rw [if_pos x1.1, if_pos x1.2] at hS
        rw [hdiv, w _ (by omega)] at h12
        exact app _ hS v12 h12 b4 b5 b6 q1 q2
      · have x2 := (f5 t5 v14 v13 h13 h14 ht5).1 h5
        rw [if_neg (by omega), if_pos x2.2] at hS
        have hA := partN_le M j N
        rw [show (e : Int) - (M : Int) = ((e - M : Nat) : Int) by omega, w _ (by omega)] at h16
        rw [h16, hdiv, w _ (by omega)] at h17
        rw [h15, l1, h17, ← Int.natCast_add, w _ (by omega)] at h18
        exact ⟨fun q => q, by omega, by omega, app _ hS v18 h18⟩
      · have x1 := (f4 t4 v11 h11 ht4).2 h4
        have x2 := (f5 t5 v14 v13 h13 h14 ht5).2 h5
        have hno : uE b er (k + 1) N j = U := by
          rw [hS]
          by_cases q : e < M
          · rw [if_pos q, if_neg (fun q2 => x1 ⟨q, q2⟩)]
          · rw [if_neg q, if_neg (fun q2 => x2 ⟨by omega, q2⟩)]
        refine ⟨(k + 1, c1, c2, c3), h16.trans (l_succ (by omega)), ?_⟩
        dsimp only
        rw [hno]
        repeat' apply And.intro
        all_goals first | rfl | exact Nat.le_refl _ | assumption | omega | (intro i hi; rfl)
    have hge : m = k := by have := of_decide_eq_false hge; omega
    subst hge
    have hUl : (uE b er m N j).length ≤ m := uP_len _ _ _ _ _ _
    refine ⟨by omega, by omega, by omega, by rw [hP, hlP]; omega, ⟨by omega, by omega⟩, ⟨by omega, by omega⟩, fun s2 hs2 => ?_⟩
    have l2 : s2.length = partN (8 * N) j N := by rw [hs2, hP, partL_len, hlP]
    rw [partN_8 hjN] at l2
    have hA := partN_le M j N
    refine ⟨by omega, fun s3 hs3 => ⟨by omega, fun s4 hs4 v12 h12 v13 h13 => ?_⟩⟩
    have hs : s3 = uW b N j := by
      rw [hs3, hs1, hs2, hD, hP]
      unfold uW
      rw [hM]
    rw [hs] at hs4 h12 h13
    have hs4 : s4 = uxD b er m N j := hs4
    have hlen := uxD_len (b := b) (er := er) (m := m) hjN (by omega)
    rw [hM] at hlen
    subst hs4
    clear hs hs3 hs2 hs1 l1
    refine ⟨fun hne => ?_, fun heq => ?_⟩
    · have hne : decE (uW b N j) (gL (uE b er m N j)) (uE b er m N j).length ≠ 0 := by rw [← h13]; simpa using hne
      have hC : uxC b er m N j = -1 := by unfold uxC; rw [if_neg hne]
      refine ⟨fun q => q, by omega, by omega, fun b11 b12 b13 q5 q6 => ⟨⟨0, rfl, fun k hk => rfl, Nat.zero_le _⟩, fun p hp v14 h14 => ⟨fun hlt v15 h15 v16 h16 => ?_, fun hge v16 h16 => ?_⟩⟩⟩
      · have hlt := of_decide_eq_true hlt
        have hpA : p < partN M j N := by omega
        have hpm : j + p * N < M := (partN_iff (by omega) p).1 hpA
        have hpI : (p : Int) * n = ((p * N : Nat) : Int) := by rw [← hN, Int.natCast_mul]
        have e15 : v15 = ((p * N : Nat) : Int) := by rw [h15, hpI, w64_id (by omega) (by omega)]
        have e16 : v16 = ((p * N + j : Nat) : Int) := by rw [h16, e15, w64_id (by omega) (by omega)]; omega
        subst e16
        rw [Int.toNat_natCast, Int.toNat_natCast]
        refine ⟨by omega, by omega, by omega, by omega, by omega, fun v18 hv18 => ⟨p + 1, by rw [hv18, w64_id (by omega) (by omega)]; omega, fun k hk => uxF_put hjN, by omega, by omega⟩⟩
      · have hge := of_decide_eq_false hge
        have ep : (uxD b er m N j).length ≤ p := by omega
        refine ⟨(j + 1, b11, b12, b13), by rw [h16, w64_id (by omega) (by omega)]; dsimp only; omega, ⟨rfl, rfl, rfl, rfl, pt_beq _⟩, ?_, fun k hk => uxF_next ep, ⟨⟨rfl, rfl, pt_beq _, Nat.le_refl _, q5, Nat.le_refl _⟩, fun k hk => ?_⟩, ⟨by dsimp only; omega, q5, q6, fun q => by cases q⟩, by dsimp only; omega⟩
        · rw [inB_succ, hC]
          simp
        dsimp only at hk
        by_cases q : k < j
        · rw [if_pos q]
        · rw [if_neg q, show k = j by omega, hC]
    · have heq : decE (uW b N j) (gL (uE b er m N j)) (uE b er m N j).length = 0 := by rw [← h13]; simpa using heq
      have hC : uxC b er m N j = v12 := by unfold uxC; rw [if_pos heq, h12]
      have hnn : 0 ≤ v12 := by rw [h12]; exact decN_nn _ _ _
      refine ⟨fun q => q, by omega, by omega, fun b11 b12 b13 q5 q6 => ⟨⟨0, rfl, fun k hk => rfl, Nat.zero_le _⟩, fun p hp v14 h14 => ⟨fun hlt v15 h15 v16 h16 => ?_, fun hge v16 h16 => ?_⟩⟩⟩
      · have hlt := of_decide_eq_true hlt
        have hpA : p < partN M j N := by omega
        have hpm : j + p * N < M := (partN_iff (by omega) p).1 hpA
        have hpI : (p : Int) * n = ((p * N : Nat) : Int) := by rw [← hN, Int.natCast_mul]
        have e15 : v15 = ((p * N : Nat) : Int) := by rw [h15, hpI, w64_id (by omega) (by omega)]
        have e16 : v16 = ((p * N + j : Nat) : Int) := by rw [h16, e15, w64_id (by omega) (by omega)]; omega
        subst e16
        rw [Int.toNat_natCast, Int.toNat_natCast]
        refine ⟨by omega, by omega, by omega, by omega, by omega, fun v18 hv18 => ⟨p + 1, by rw [hv18, w64_id (by omega) (by omega)]; omega, fun k hk => uxF_put hjN, by omega, by omega⟩⟩
      · have hge := of_decide_eq_false hge
        have ep : (uxD b er m N j).length ≤ p := by omega
        refine ⟨(j + 1, b11, b12, b13), by rw [h16, w64_id (by omega) (by omega)]; dsimp only; omega, ⟨rfl, rfl, rfl, rfl, pt_beq _⟩, ?_, fun k hk => uxF_next ep, ⟨⟨rfl, rfl, pt_beq _, Nat.le_refl _, q5, Nat.le_refl _⟩, fun k hk => ?_⟩, ⟨by dsimp only; omega, q5, q6, fun q => by cases q⟩, by dsimp only; omega⟩
        · rw [inB_succ, hC]
          rw [show ((-1 : Int) == v12) = false from beq_eq_false_iff_ne.2 (by omega), Bool.or_false]
        dsimp only at hk
        by_cases q : k < j
        · rw [if_pos q]
        · rw [if_neg q, show k = j by omega, hC]
  · have hjn : N = j := by have := of_decide_eq_false hjn; omega
    subst hjn
    have hb : uxBad b er m N = inB (uxC b er m N) N (-1) := rfl
    rw [hb, Int.toNat_natCast]
    refine ⟨fun q => ⟨(a1, a2, cap), ⟨by rw [if_pos q], ⟨rfl, rfl, rfl, rfl, rfl⟩, by rw [if_pos q]⟩, ⟨rfl, rfl, rfl, Nat.le_refl _, j2, Nat.le_refl _⟩, j2, j4, j3⟩, fun q s2 hs2 => ⟨(a1, a2, cap), ⟨?_, ⟨rfl, rfl, rfl, rfl, rfl⟩, by rw [q, if_neg (by decide)]⟩, ⟨rfl, rfl, rfl, Nat.le_refl _, j2, Nat.le_refl _⟩, j2, j4, j3⟩⟩
    rw [q, if_neg (by decide), hs2]
    exact bof_congr fun k hk => uxF_end (by omega)
end Galois
