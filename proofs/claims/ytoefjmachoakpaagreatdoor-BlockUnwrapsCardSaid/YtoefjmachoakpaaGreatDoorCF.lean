/-
  OWN WORK. Block: the specification's locator.
-/
import Derived.Test.YtoefjmachoakpaaGreatDoorCE
namespace Galois
open Go Go.Proofs Eng
set_option linter.unusedVariables false
set_option linter.unusedSimpArgs false
set_option maxHeartbeats 8000000
set_option maxRecDepth 100000

noncomputable def locatorR0 := ecC aWr (fun x => [9 ≤ x.1.length, x.1.length ≤ 231, 0 ≤ x.2.2.1, (x.2.1.n : Int) + 2 * x.2.2.1 ≤ 8, ∀ k, k < x.2.1.n → 0 ≤ x.2.1.f k ∧ x.2.1.f k < x.1.length])
  (fun _ (_ : Unit) => True) (fun x _ => .tup [.str (if wrGood x.1 x.2.1.f x.2.1.n x.2.2.1.toNat then locL x.1 x.2.1.f x.2.1.n x.2.2.1.toNat else [1]), .bool (wrGood x.1 x.2.1.f x.2.1.n x.2.2.1.toNat)]) (fun _ _ => []) 0
noncomputable def locatorR := pcOf aWr (fun x => [9 ≤ x.1.length, x.1.length ≤ 231, 0 ≤ x.2.2.1, (x.2.1.n : Int) + 2 * x.2.2.1 ≤ 8, ∀ k, k < x.2.1.n → 0 ≤ x.2.1.f k ∧ x.2.1.f k < x.1.length])
  (fun x => .tup [.str (if wrGood x.1 x.2.1.f x.2.1.n x.2.2.1.toNat then locL x.1 x.2.1.f x.2.1.n x.2.2.1.toNat else [1]), .bool (wrGood x.1 x.2.1.f x.2.1.n x.2.2.1.toNat)])
def locN (b : List UInt8) (er : Nat → Int) (n e : Nat) : Nat := if wrGood b er n e then e else 0
def locRA (b : List UInt8) (er : Nat → Int) (n e : Nat) : List An :=
  [.loop ⟨4, Nat × List UInt8, [10, 9], fun y => [.int .i64 (y.1 : Nat), .str y.2], [], fun _ => [], fun y => y.1 ≤ 8 ∧ y.2.length = y.1 ∧ ∀ t, t < y.1 → co y.2 t = syn0 b t, fun y => 8 - y.1⟩,
   .loop ⟨8, Nat × List UInt8, [11, 9], fun y => [.int .i64 (y.1 : Nat), .str y.2], [], fun _ => [], fun y => y.1 ≤ n ∧ y.2.length ≤ 8 + 2 * y.1 ∧ ∀ t, t < 8 → co y.2 t = synE b er y.1 t, fun y => n - y.1⟩,
   .loop ⟨14, Nat × (Nat × Nat × Nat) × RP, [14, 13], fun y => [.int .i64 ((n + e + y.1 : Nat) : Int), rsS 300 y.1 y.2.1], [], fun y => [rsRow 300 301 (e + 1) y.1 y.2.1 y.2.2, rsFam 301 (e + 1) y.1 (wrongM b er n e) y.2.2], fun y => y.1 ≤ e ∧ y.1 ≤ y.2.1.2.2 ∧ y.2.1.2.2 ≤ 9223372036854775807 ∧ (y.1 = 0 → y.2.1.2.2 = 0) ∧ disP y.1 y.2.2, fun y => e - y.1⟩, .apart 15,
   .loopD 18 (fun fr H => ⟨18, Nat × Nat × Nat × Nat, [16, 15], fun y => [.int .i64 ((1 + y.1 : Nat) : Int), .slice 302 y.2.1 y.2.2.1 [] 1 0 y.1 y.2.2.2 (Nat.beq y.1 0)], [], fun y => [⟨302, y.2.1, y.2.2.1, 1, y.1, fun c => .int .u8 (wrongM b er n e ((intOf (slotV fr 14)).toNat - (n + e)) c : Nat), true, false, y.2.2.2, 5, Nat.beq y.1 0, none⟩], fun y => y.1 ≤ e ∧ y.1 ≤ y.2.2.2 ∧ y.2.2.2 ≤ 9223372036854775807 ∧ (y.1 = 0 → y.2.2.2 = 0), fun y => e - y.1⟩),
   .join ⟨23, Nat × Nat × Nat, [17, 18], fun y => [.slice 303 y.1 y.2.1 [] 1 0 (locN b er n e) y.2.2 (Nat.beq (locN b er n e) 0), .bool (wrGood b er n e)], [300, 301], fun y => [⟨303, y.1, y.2.1, 1, locN b er n e, fun k => .int .u8 (solN (wrongM b er n e) e k : Nat), true, false, y.2.2, 5, Nat.beq (locN b er n e) 0, none⟩], fun y => locN b er n e ≤ y.2.2 ∧ y.2.2 ≤ 9223372036854775807 ∧ (locN b er n e = 0 → y.2.2 = 0), fun _ => 0⟩ 500]
theorem cv_lin {F G : Nat → Nat} (hF : ∀ k, F k < 256) (h0 : G 0 = 1) (hx : G 1 < 256) (h2 : ∀ k, 2 ≤ k → G k = 0) (k : Nat) : cv F G k = stepS (G 1) F k := by
  unfold cv
  show Nat.xor (X (fun j => gmul (F j) (G (k - j))) k) (gmul (F k) (G (k - k))) = _
  rw [Nat.sub_self, h0, gmul_one (hF k)]
  cases k with
  | zero => exact xor0' _
  | succ k =>
    rw [stepS_s, X_one (a := k) (k + 1) (by omega) (fun j hj hne => by rw [h2 _ (by omega), gmul_zero]), show k + 1 - k = 1 by omega, gmul_comm (hF k) hx]
    exact Nat.xor_comm _ _
theorem lin_co (v : Nat) (hv : v < 256) : co (ofN (fun k => if k = 0 then 1 else v) 2) 0 = 1 ∧ co (ofN (fun k => if k = 0 then 1 else v) 2) 1 = v ∧ ∀ k, 2 ≤ k → co (ofN (fun k => if k = 0 then 1 else v) 2) k = 0 := by
  have hb : ∀ k, (fun k => if k = 0 then 1 else v) k < 256 := fun k => by
    dsimp only
    split
    · decide
    · exact hv
  refine ⟨byt_get hb (by decide), byt_get hb (by decide), fun k hk => ?_⟩
  unfold co
  rw [List.getD_eq_getElem?_getD, List.getElem?_eq_none (by rw [ofN_len]; omega)]
  rfl
theorem co_end {l : List UInt8} {k : Nat} (h : l.length ≤ k) : co l k = 0 := by
  unfold co
  rw [List.getD_eq_getElem?_getD, List.getElem?_eq_none h]
  rfl
theorem locatorR0_ok : EcOk Tryz.prog 26 locatorR0 := by
  refine ecC_run (fun x => ERM_ok (wrongM x.1 x.2.1.f x.2.1.n x.2.2.1.toNat) x.2.2.1.toNat) Tryz.func26 rfl (by kernel_rfl) [] (fun x => locRA x.1 x.2.1.f x.2.1.n x.2.2.1.toNat) (fun _ => Nat.le_of_ble_eq_true rfl) (fun ⟨b, ⟨eb, eo, n, c, z, er⟩, e, ()⟩ hp hw => ?_)
  obtain ⟨p1, p2, p3, p4, p5, _⟩ := hp
  dsimp only at p1 p2 p3 p4 p5
  have hn : n ≤ c ∧ c ≤ 9223372036854775807 := (hw _ (List.mem_cons_of_mem _ (List.mem_cons_self ..))).2
  have hE : ((e.toNat : Nat) : Int) = e := Int.toNat_of_nonneg p3
  refine vc_of (q :=
      ∀ (v1 : Int), v1 = (↑n : Int) → (∃ (x1 : Nat × List UInt8), (0 : Int) = (↑x1.1 : Int) ∧ [] = x1.2 ∧ x1.1 ≤ 8 ∧ List.length x1.2 = x1.1 ∧ ∀ (b1 : Nat), b1 < x1.1 → co x1.2 b1 = syn0 b b1) ∧ ∀ (x2 : Nat × List UInt8), (x2.1 ≤ 8 ∧ List.length x2.2 = x2.1 ∧ ∀ (t : Nat), t < x2.1 → co x2.2 t = syn0 b t) → (decide ((↑x2.1 : Int) < (8 : Int)) = true → List.length b ≤ 1000000 ∧ ∀ (s1 : List UInt8), s1 =
      revL b → ((-9223372036854775808 : Int) ≤ (↑x2.1 : Int) ∧ (↑x2.1 : Int) ≤ (9223372036854775807 : Int)) ∧ ∀ (v2 : Int), v2 = powI (2 : Int) (↑x2.1 : Int) → (0 ≤ v2 ∧ v2 ≤ 255) ∧ ∀ (v3 : Int), v3 = (↑(evalF s1 (Int.toNat v2)) : Int) → ∀ (b2 : Nat), 1 ≤ 1 ∧ (∀ (k1 : Nat), k1 < 1 → true = true) ∧ (b2 = b2 ∧ 0 = 0) ∧ ∀ (s2 : List UInt8), s2 = Byt.of (fun (k : Nat) ↦ v3) 1 → List.length x2.2 + List.length
      s2 ≤ 9223372036854775807 ∧ ∀ (s3 : List UInt8), s3 = x2.2 ++ s2 → ∀ (v4 : Int), v4 = IntKind.i64.wrap ((↑x2.1 : Int) + (1 : Int)) → ∃ (x3 : Nat × List UInt8), v4 = (↑x3.1 : Int) ∧ s3 = x3.2 ∧ (x3.1 ≤ 8 ∧ List.length x3.2 = x3.1 ∧ ∀ (b3 : Nat), b3 < x3.1 → co x3.2 b3 = syn0 b b3) ∧ 8 - x3.1 < 8 - x2.1) ∧ (decide ((↑x2.1 : Int) < (8 : Int)) = false → (∃ (x3 : Nat × List UInt8), (0 : Int) = (↑x3.1 :
      Int) ∧ x2.2 = x3.2 ∧ x3.1 ≤ n ∧ List.length x3.2 ≤ 8 + 2 * x3.1 ∧ ∀ (b2 : Nat), b2 < 8 → co x3.2 b2 = synE b er x3.1 b2) ∧ ∀ (x4 : Nat × List UInt8), (x4.1 ≤ n ∧ List.length x4.2 ≤ 8 + 2 * x4.1 ∧ ∀ (t : Nat), t < 8 → co x4.2 t = synE b er x4.1 t) → (decide ((↑x4.1 : Int) < v1) = true → ∀ (v2 : Int), v2 = (↑(List.length b) : Int) → ∀ (v3 : Int), v3 = IntKind.i64.wrap (v2 - (1 : Int)) → (0 : Int) ≤
      (↑x4.1 : Int) ∧ (↑x4.1 : Int) < (↑n : Int) ∧ (eb = eb ∧ eo = eo) ∧ Int.toNat (↑x4.1 : Int) < n ∧ ∀ (v4 : Int), v4 = IntKind.i64.wrap (v3 - er x4.1) → ((-9223372036854775808 : Int) ≤ v4 ∧ v4 ≤ 9223372036854775807) ∧ ∀ (v5 : Int), v5 = powI (2 : Int) v4 → ∀ (b3 : Nat), 2 ≤ 2 ∧ (∀ (k1 : Nat), k1 < 2 → true = true) ∧ (b3 = b3 ∧ 0 = 0) ∧ ∀ (s2 : List UInt8), s2 = Byt.of (fun (k : Nat) ↦ if k = 0 then (1
      : Int) else v5) 2 → List.length x4.2 ≤ 3000 ∧ List.length s2 ≤ 3000 ∧ ∀ (s3 : List UInt8), s3 = prodL x4.2 s2 → ∀ (v6 : Int), (v6 = if prodB x4.2 s2 = true then (3 : Int) else (0 : Int)) → ∀ (v7 : Int), v7 = IntKind.i64.wrap ((↑x4.1 : Int) + (1 : Int)) → ∃ (x5 : Nat × List UInt8), v7 = (↑x5.1 : Int) ∧ s3 = x5.2 ∧ (x5.1 ≤ n ∧ List.length x5.2 ≤ 8 + 2 * x5.1 ∧ ∀ (b4 : Nat), b4 < 8 → co x5.2 b4 = synE
      b er x5.1 b4) ∧ n - x5.1 < n - x4.1) ∧ (decide ((↑x4.1 : Int) < v1) = false → (0 : Int) ≤ (16 : Int) ∧ (16 : Int) ≤ (16 : Int) ∧ (16 : Int) * (↑(1 : Nat) : Int) ≤ (140737488355328 : Int) ∧ (16 : Int) ≤ (9223372036854775807 : Int) ∧ ∀ (b3 : Nat), 16 ≤ Int.toNat (16 : Int) ∧ (∀ (k1 : Nat), k1 < Int.toNat (16 : Int) → true = true) ∧ (b3 = b3 ∧ 0 = 0) ∧ ∀ (s2 : List UInt8), s2 = Byt.of (fun (k : Nat) ↦
      (0 : Int)) (Int.toNat (16 : Int)) → List.length x4.2 + List.length s2 ≤ 9223372036854775807 ∧ ∀ (s3 : List UInt8), s3 = x4.2 ++ s2 → ∀ (v3 : Int), v3 = IntKind.i64.wrap (v1 + e) → (∃ (x5 : Nat × (Nat × Nat × Nat) × (Nat → Nat × Nat × Nat)), v3 = (↑(n + Int.toNat e + x5.1) : Int) ∧ SVeq (SV.slice 999999 0 0 [] 0 0 0 0 true) (SV.slice 300 x5.2.1.1 (x5.2.1.2.1) [] 1 0 x5.1 (x5.2.1.2.2) (Nat.beq x5.1
      0)) ∧ (Nat.beq x5.1 0 = true ∧ x5.1 = 0 ∧ x5.2.1.2.2 = 0) ∧ (∀ (i1 : Nat), i1 < x5.1 → False) ∧ x5.1 ≤ Int.toNat e ∧ x5.1 ≤ x5.2.1.2.2 ∧ x5.2.1.2.2 ≤ 9223372036854775807 ∧ (x5.1 = 0 → x5.2.1.2.2 = 0) ∧ disP x5.1 x5.2.2) ∧ ∀ (x6 : Nat × (Nat × Nat × Nat) × (Nat → Nat × Nat × Nat)), x6.1 ≤ Int.toNat e ∧ x6.1 ≤ x6.2.1.2.2 ∧ x6.2.1.2.2 ≤ 9223372036854775807 ∧ (x6.1 = 0 → x6.2.1.2.2 = 0) ∧ disP x6.1
      x6.2.2 → ∀ (v4 : Int), v4 = IntKind.i64.wrap ((2 : Int) * e) → ∀ (v5 : Int), v5 = IntKind.i64.wrap (v1 + v4) → (decide ((↑(n + Int.toNat e + x6.1) : Int) < v5) = true → (∃ (x7 : Nat × Nat × Nat × Nat), (1 : Int) = (↑(1 + x7.1) : Int) ∧ SVeq (SV.slice 999999 0 0 [] 0 0 0 0 true) (SV.slice 302 x7.2.1 x7.2.2.1 [] 1 0 x7.1 x7.2.2.2 (Nat.beq x7.1 0)) ∧ (Nat.beq x7.1 0 = true ∧ x7.1 = 0 ∧ x7.2.2.2 = 0) ∧
      x7.1 ≤ Int.toNat e ∧ x7.1 ≤ x7.2.2.2 ∧ x7.2.2.2 ≤ 9223372036854775807 ∧ (x7.1 = 0 → x7.2.2.2 = 0)) ∧ ∀ (x8 : Nat × Nat × Nat × Nat), x8.1 ≤ Int.toNat e ∧ x8.1 ≤ x8.2.2.2 ∧ x8.2.2.2 ≤ 9223372036854775807 ∧ (x8.1 = 0 → x8.2.2.2 = 0) → (decide ((↑(1 + x8.1) : Int) ≤ e) = true → ∀ (v6 : Int), v6 = IntKind.i64.wrap ((↑(n + Int.toNat e + x6.1) : Int) - (↑(1 + x8.1) : Int)) → 0 ≤ v6 ∧ v6 < (↑(List.length
      s3) : Int) ∧ ∀ (b4 : Nat), (x8.2.1 = x8.2.1 ∧ x8.2.2.1 = x8.2.2.1) ∧ (Nat.beq x8.1 0 = true → Nat.beq x8.1 0 = true) ∧ 0 = 0 ∧ x8.1 ≤ x8.1 ∧ x8.2.2.2 ≤ x8.2.2.2 ∧ (x8.1 + 1) * 1 ≤ 140737488355328 ∧ x8.1 + 1 ≤ 9223372036854775807 ∧ 1 ≤ 1 ∧ (b4 = b4 ∧ 0 = 0) ∧ ∀ (b5 b6 b7 : Nat), x8.1 + 1 ≤ b7 → b7 ≤ 9223372036854775807 → (Nat.beq x8.1 0 = true → 1 = 0 → b7 = 0) → ∀ (v7 : Int), v7 = IntKind.i64.wrap
      ((↑(1 + x8.1) : Int) + (1 : Int)) → ∃ (x9 : Nat × Nat × Nat × Nat), v7 = (↑(1 + x9.1) : Int) ∧ (b5 = x9.2.1 ∧ b6 = x9.2.2.1 ∧ 0 = 0 ∧ x8.1 + 1 = x9.1 ∧ b7 = x9.2.2.2 ∧ (Nat.beq x8.1 0 && decide (1 = 0)) = Nat.beq x9.1 0) ∧ ((b5 = x9.2.1 ∧ b6 = x9.2.2.1 ∧ (Nat.beq x8.1 0 && decide (1 = 0)) = Nat.beq x9.1 0 ∧ x9.1 ≤ x8.1 + 1 ∧ x9.1 ≤ x9.2.2.2 ∧ x9.2.2.2 ≤ b7) ∧ ∀ (i2 : Nat), i2 < x9.1 → (if i2 < x8.1
      then (↑(wrongM b er n (Int.toNat e) (Int.toNat (↑(n + Int.toNat e + x6.1) : Int) - (n + Int.toNat e)) i2) : Int) else (↑(UInt8.toNat (List.getD s3 (Int.toNat v6) 0)) : Int)) = (↑(wrongM b er n (Int.toNat e) (Int.toNat (↑(n + Int.toNat e + x6.1) : Int) - (n + Int.toNat e)) i2) : Int)) ∧ (x9.1 ≤ Int.toNat e ∧ x9.1 ≤ x9.2.2.2 ∧ x9.2.2.2 ≤ 9223372036854775807 ∧ (x9.1 = 0 → x9.2.2.2 = 0)) ∧ Int.toNat e
      - x9.1 < Int.toNat e - x8.1) ∧ (decide ((↑(1 + x8.1) : Int) ≤ e) = false → (0 : Int) ≤ (↑(n + Int.toNat e + x6.1) : Int) ∧ (↑(n + Int.toNat e + x6.1) : Int) < (↑(List.length s3) : Int) ∧ ∀ (b4 : Nat), (x8.2.1 = x8.2.1 ∧ x8.2.2.1 = x8.2.2.1) ∧ (Nat.beq x8.1 0 = true → Nat.beq x8.1 0 = true) ∧ 0 = 0 ∧ x8.1 ≤ x8.1 ∧ x8.2.2.2 ≤ x8.2.2.2 ∧ (x8.1 + 1) * 1 ≤ 140737488355328 ∧ x8.1 + 1 ≤
      9223372036854775807 ∧ 1 ≤ 1 ∧ (b4 = b4 ∧ 0 = 0) ∧ ∀ (b5 b6 b7 : Nat), x8.1 + 1 ≤ b7 → b7 ≤ 9223372036854775807 → (Nat.beq x8.1 0 = true → 1 = 0 → b7 = 0) → ∀ (b8 : Nat), (x6.2.1.1 = x6.2.1.1 ∧ x6.2.1.2.1 = x6.2.1.2.1) ∧ (Nat.beq x6.1 0 = true → Nat.beq x6.1 0 = true) ∧ 0 = 0 ∧ x6.1 ≤ x6.1 ∧ x6.2.1.2.2 ≤ x6.2.1.2.2 ∧ (x6.1 + 1) * 24 ≤ 140737488355328 ∧ x6.1 + 1 ≤ 9223372036854775807 ∧ 1 ≤ 1 ∧ (b8 =
      b8 ∧ 0 = 0) ∧ ∀ (b9 b10 b11 : Nat), x6.1 + 1 ≤ b11 → b11 ≤ 9223372036854775807 → (Nat.beq x6.1 0 = true → 1 = 0 → b11 = 0) → (false = false → false = false → ∀ (i : Nat), i < x6.1 → (Int.toNat e + 1) * 1 ≠ 0 → (x6.2.2 i).1 ≠ b8) → (false = false → false = false → ∀ (i : Nat), i < x6.1 → (Int.toNat e + 1) * 1 ≠ 0 → (x6.2.2 i).1 ≠ b4) → (false = false → (Nat.beq x8.1 0 && decide (1 = 0)) = false → ∀
      (i : Nat), i < x6.1 → (Int.toNat e + 1) * 1 ≠ 0 → (x6.2.2 i).1 ≠ b5) → (false = false → (Nat.beq x6.1 0 && decide (1 = 0)) = false → ∀ (i : Nat), i < x6.1 → (Int.toNat e + 1) * 1 ≠ 0 → (x6.2.2 i).1 ≠ b9) → ∀ (v7 : Int), v7 = IntKind.i64.wrap ((↑(n + Int.toNat e + x6.1) : Int) + (1 : Int)) → ∃ (x9 : Nat × (Nat × Nat × Nat) × (Nat → Nat × Nat × Nat)), v7 = (↑(n + Int.toNat e + x9.1) : Int) ∧ (b9 =
      x9.2.1.1 ∧ b10 = x9.2.1.2.1 ∧ 0 = 0 ∧ x6.1 + 1 = x9.1 ∧ b11 = x9.2.1.2.2 ∧ (Nat.beq x6.1 0 && decide (1 = 0)) = Nat.beq x9.1 0) ∧ ((b9 = x9.2.1.1 ∧ b10 = x9.2.1.2.1 ∧ (Nat.beq x6.1 0 && decide (1 = 0)) = Nat.beq x9.1 0 ∧ x9.1 ≤ x6.1 + 1 ∧ x9.1 ≤ x9.2.1.2.2 ∧ x9.2.1.2.2 ≤ b11) ∧ ∀ (i2 : Nat), i2 < x9.1 → eqv (if i2 < x6.1 then SV.slice 301 ((x6.2.2 i2).1) (((x6.2.2 i2).2.1)) [PS.elt i2 0] 1 0
      (Int.toNat e + 1) (((x6.2.2 i2).2.2)) false else SV.slice 302 b5 b6 [] 1 0 (x8.1 + 1) b7 (Nat.beq x8.1 0 && decide (1 = 0))) (SV.slice 301 ((x9.2.2 i2).1) (((x9.2.2 i2).2.1)) [PS.elt i2 0] 1 0 (Int.toNat e + 1) (((x9.2.2 i2).2.2)) false)) ∧ (∀ (i3 : Nat), i3 < x9.1 → (∃ (x10 : Nat), x10 < x6.1 ∧ ((x6.2.2 x10).1, ((x6.2.2 x10).2.1)) = ((x9.2.2 i3).1, ((x9.2.2 i3).2.1)) ∧ Int.toNat e + 1 = Int.toNat
      e + 1 ∧ ∀ (k2 : Nat), k2 < Int.toNat e + 1 → (↑(wrongM b er n (Int.toNat e) x10 k2) : Int) = (↑(wrongM b er n (Int.toNat e) i3 k2) : Int)) ∨ (false = false ∧ (b4, 0) = ((x9.2.2 i3).1, ((x9.2.2 i3).2.1)) ∧ 1 = Int.toNat e + 1 ∧ ∀ (k3 : Nat), k3 < 1 → (↑(UInt8.toNat (List.getD s3 (n + Int.toNat e + x6.1) 0)) : Int) = (↑(wrongM b er n (Int.toNat e) i3 k3) : Int)) ∨ (Nat.beq x8.1 0 && decide (1 = 0)) =
      false ∧ (b5, b6) = ((x9.2.2 i3).1, ((x9.2.2 i3).2.1)) ∧ x8.1 + 1 = Int.toNat e + 1 ∧ ∀ (k4 : Nat), k4 < x8.1 + 1 → (if k4 < x8.1 then (↑(wrongM b er n (Int.toNat e) (Int.toNat (↑(n + Int.toNat e + x6.1) : Int) - (n + Int.toNat e)) k4) : Int) else (↑(UInt8.toNat (List.getD s3 (n + Int.toNat e + x6.1) 0)) : Int)) = (↑(wrongM b er n (Int.toNat e) i3 k4) : Int)) ∧ (x9.1 ≤ Int.toNat e ∧ x9.1 ≤
      x9.2.1.2.2 ∧ x9.2.1.2.2 ≤ 9223372036854775807 ∧ (x9.1 = 0 → x9.2.1.2.2 = 0) ∧ disP x9.1 x9.2.2) ∧ Int.toNat e - x9.1 < Int.toNat e - x6.1)) ∧ (decide ((↑(n + Int.toNat e + x6.1) : Int) < v5) = false → (∀ (v6 : Int), v6 = (↑x6.1 : Int) → (∃ (x9 : Nat × (Nat → Nat × Nat × Nat)), (0 : Int) = (↑x9.1 : Int) ∧ ((x6.2.1.1 = x6.2.1.1 ∧ x6.2.1.2.1 = x6.2.1.2.1 ∧ Nat.beq x6.1 0 = Nat.beq x6.1 0 ∧ x6.1 ≤ x6.1
      ∧ x6.1 ≤ x6.2.1.2.2 ∧ x6.2.1.2.2 ≤ x6.2.1.2.2) ∧ ∀ (i2 : Nat), i2 < x6.1 → (x6.2.2 i2).1 = (x9.2 i2).1 ∧ ((x6.2.2 i2).2.1) = ((x9.2 i2).2.1) ∧ 0 = 0 ∧ Int.toNat e + 1 = Int.toNat e + 1 ∧ ((x6.2.2 i2).2.2) = ((x9.2 i2).2.2) ∧ false = false) ∧ (∀ (i3 : Nat), i3 < Int.toNat e → ∃ (x10 : Nat), x10 < x6.1 ∧ ((x6.2.2 x10).1, ((x6.2.2 x10).2.1)) = ((x9.2 i3).1, ((x9.2 i3).2.1)) ∧ Int.toNat e + 1 =
      Int.toNat e + 1 ∧ ∀ (k2 : Nat), k2 < Int.toNat e + 1 → (↑(wrongM b er n (Int.toNat e) x10 k2) : Int) = (↑(roundsM (wrongM b er n (Int.toNat e)) (Int.toNat e) x9.1 i3 k2) : Int)) ∧ x9.1 ≤ Int.toNat e ∧ goodM (wrongM b er n (Int.toNat e)) (Int.toNat e) x9.1 = true ∧ disP (Int.toNat e) x9.2) ∧ ∀ (x10 : Nat × (Nat → Nat × Nat × Nat)), x10.1 ≤ Int.toNat e ∧ goodM (wrongM b er n (Int.toNat e)) (Int.toNat
      e) x10.1 = true ∧ disP (Int.toNat e) x10.2 → (decide ((↑x10.1 : Int) < v6) = true → (∃ (x11 : Nat), (↑x10.1 : Int) = (↑x11 : Int) ∧ x11 ≤ Int.toNat e ∧ Int.toNat (↑x10.1 : Int) ≤ x11 ∧ ∀ (b4 : Nat), Int.toNat (↑x10.1 : Int) ≤ b4 → b4 < x11 → roundsM (wrongM b er n (Int.toNat e)) (Int.toNat e) x10.1 b4 x10.1 = 0) ∧ ∀ (b5 : Nat), (b5 ≤ Int.toNat e ∧ Int.toNat (↑x10.1 : Int) ≤ b5 ∧ ∀ (u : Nat),
      Int.toNat (↑x10.1 : Int) ≤ u → u < b5 → roundsM (wrongM b er n (Int.toNat e)) (Int.toNat e) x10.1 u x10.1 = 0) → (decide ((↑b5 : Int) < v6) = true → (0 : Int) ≤ (↑b5 : Int)) ∧ (decide ((↑b5 : Int) < v6) = true → (↑b5 : Int) < (↑x6.1 : Int)) ∧ (decide ((↑b5 : Int) < v6) = true → x6.2.1.1 = x6.2.1.1 ∧ x6.2.1.2.1 = x6.2.1.2.1) ∧ (decide ((↑b5 : Int) < v6) = true → b5 < x6.1) ∧ (decide ((↑b5 : Int) <
      v6) = true → (0 : Int) ≤ (↑x10.1 : Int)) ∧ (decide ((↑b5 : Int) < v6) = true → (↑x10.1 : Int) < (↑(Int.toNat e + 1) : Int)) ∧ (decide ((↑b5 : Int) < v6) = true → ((x10.2 b5).1, ((x10.2 b5).2).1) = ((x10.2 b5).1, ((x10.2 b5).2).1)) ∧ (decide ((↑b5 : Int) < v6) = true → b5 < Int.toNat e) ∧ (decide ((↑b5 : Int) < v6) = true → Int.toNat (↑x10.1 : Int) < Int.toNat e + 1) ∧ ∀ (t1 : Bool), (t1 = if decide
      ((↑b5 : Int) < v6) = true then (↑(roundsM (wrongM b er n (Int.toNat e)) (Int.toNat e) x10.1 b5 x10.1) : Int) == (0 : Int) else false) → (t1 = true → ∀ (v7 : Int), v7 = IntKind.i64.wrap ((↑b5 : Int) + (1 : Int)) → ∃ (x12 : Nat), v7 = (↑x12 : Int) ∧ (x12 ≤ Int.toNat e ∧ Int.toNat (↑x10.1 : Int) ≤ x12 ∧ ∀ (b6 : Nat), Int.toNat (↑x10.1 : Int) ≤ b6 → b6 < x12 → roundsM (wrongM b er n (Int.toNat e))
      (Int.toNat e) x10.1 b6 x10.1 = 0) ∧ Int.toNat e - x12 < Int.toNat e - b5) ∧ (t1 = false → (((↑b5 : Int) == v6) = true → ∀ (t2 : Bool), t2 = false → ∃ (x12 : Nat × Nat × Nat), SVeq (SV.slice 999999 0 0 [] 0 0 0 0 true) (SV.slice 303 x12.1 x12.2.1 [] 1 0 (locN b er n (Int.toNat e)) x12.2.2 (Nat.beq (locN b er n (Int.toNat e)) 0)) ∧ t2 = wrGood b er n (Int.toNat e) ∧ (Nat.beq (locN b er n (Int.toNat
      e)) 0 = true ∧ locN b er n (Int.toNat e) = 0 ∧ x12.2.2 = 0) ∧ locN b er n (Int.toNat e) ≤ x12.2.2 ∧ x12.2.2 ≤ 9223372036854775807 ∧ (locN b er n (Int.toNat e) = 0 → x12.2.2 = 0)) ∧ (((↑b5 : Int) == v6) = false → ((0 : Int) ≤ (↑b5 : Int) ∧ (↑b5 : Int) < (↑x6.1 : Int) ∧ (0 : Int) ≤ (↑x10.1 : Int) ∧ (↑x10.1 : Int) < (↑x6.1 : Int) ∧ ((x6.2.1.1 = x6.2.1.1 ∧ x6.2.1.2.1 = x6.2.1.2.1) ∧ b5 < x6.1 ∧
      ((x6.2.1.1 = x6.2.1.1 ∧ x6.2.1.2.1 = x6.2.1.2.1) ∧ Int.toNat (↑x10.1 : Int) < x6.1 ∧ (0 : Int) ≤ (↑x10.1 : Int) ∧ (↑x10.1 : Int) < (↑x6.1 : Int) ∧ ((x6.2.1.1 = x6.2.1.1 ∧ x6.2.1.2.1 = x6.2.1.2.1) ∧ Int.toNat (↑x10.1 : Int) < x6.1 ∧ (0 : Int) ≤ (↑b5 : Int) ∧ (↑b5 : Int) < (↑x6.1 : Int) ∧ ((x6.2.1.1 = x6.2.1.1 ∧ x6.2.1.2.1 = x6.2.1.2.1) ∧ b5 < x6.1 ∧ ∃ (x12 : Nat → Nat × Nat × Nat), ((x6.2.1.1 =
      x6.2.1.1 ∧ x6.2.1.2.1 = x6.2.1.2.1 ∧ Nat.beq x6.1 0 = Nat.beq x6.1 0 ∧ x6.1 ≤ x6.1 ∧ x6.1 ≤ x6.2.1.2.2 ∧ x6.2.1.2.2 ≤ x6.2.1.2.2) ∧ ∀ (i4 : Nat), i4 < x6.1 → eqv (if i4 = b5 then SV.slice 301 ((x10.2 x10.1).1) (((x10.2 x10.1).2).1) [PS.elt x10.1 0] 1 0 (Int.toNat e + 1) (((x10.2 x10.1).2).2) false else if i4 = Int.toNat (↑x10.1 : Int) then SV.slice 301 ((x10.2 b5).1) (((x10.2 b5).2).1) [PS.elt b5
      0] 1 0 (Int.toNat e + 1) (((x10.2 b5).2).2) false else SV.slice 301 ((x10.2 i4).1) (((x10.2 i4).2.1)) [PS.elt i4 0] 1 0 (Int.toNat e + 1) (((x10.2 i4).2.2)) false) (SV.slice 301 ((x12 i4).1) (((x12 i4).2.1)) [PS.elt i4 0] 1 0 (Int.toNat e + 1) (((x12 i4).2.2)) false)) ∧ (∀ (i5 : Nat), i5 < Int.toNat e → ∃ (x13 : Nat), x13 < Int.toNat e ∧ ((x10.2 x13).1, ((x10.2 x13).2.1)) = ((x12 i5).1, ((x12
      i5).2.1)) ∧ Int.toNat e + 1 = Int.toNat e + 1 ∧ ∀ (k2 : Nat), k2 < Int.toNat e + 1 → (↑(roundsM (wrongM b er n (Int.toNat e)) (Int.toNat e) x10.1 x13 k2) : Int) = (↑(swR (wrongM b er n (Int.toNat e)) (Int.toNat e) x10.1 i5 k2) : Int)) ∧ (0 : Int) ≤ pivF (roundsM (wrongM b er n (Int.toNat e)) (Int.toNat e) x10.1) (Int.toNat e) x10.1 ∧ disP (Int.toNat e) x12) ∧ True) ∧ True) ∧ True) ∧ ((x6.2.1.1 =
      x6.2.1.1 ∧ x6.2.1.2.1 = x6.2.1.2.1) ∧ Int.toNat (↑x10.1 : Int) < x6.1 ∧ ((x6.2.1.1 = x6.2.1.1 ∧ x6.2.1.2.1 = x6.2.1.2.1) ∧ b5 < x6.1 ∧ (0 : Int) ≤ (↑x10.1 : Int) ∧ (↑x10.1 : Int) < (↑x6.1 : Int) ∧ ((x6.2.1.1 = x6.2.1.1 ∧ x6.2.1.2.1 = x6.2.1.2.1) ∧ Int.toNat (↑x10.1 : Int) < x6.1 ∧ (0 : Int) ≤ (↑b5 : Int) ∧ (↑b5 : Int) < (↑x6.1 : Int) ∧ ((x6.2.1.1 = x6.2.1.1 ∧ x6.2.1.2.1 = x6.2.1.2.1) ∧ b5 < x6.1 ∧
      ∃ (x13 : Nat → Nat × Nat × Nat), ((x6.2.1.1 = x6.2.1.1 ∧ x6.2.1.2.1 = x6.2.1.2.1 ∧ Nat.beq x6.1 0 = Nat.beq x6.1 0 ∧ x6.1 ≤ x6.1 ∧ x6.1 ≤ x6.2.1.2.2 ∧ x6.2.1.2.2 ≤ x6.2.1.2.2) ∧ ∀ (i6 : Nat), i6 < x6.1 → eqv (if i6 = b5 then SV.slice 301 ((x10.2 x10.1).1) (((x10.2 x10.1).2).1) [PS.elt x10.1 0] 1 0 (Int.toNat e + 1) (((x10.2 x10.1).2).2) false else if i6 = Int.toNat (↑x10.1 : Int) then SV.slice 301
      ((x10.2 b5).1) (((x10.2 b5).2).1) [PS.elt b5 0] 1 0 (Int.toNat e + 1) (((x10.2 b5).2).2) false else SV.slice 301 ((x10.2 i6).1) (((x10.2 i6).2.1)) [PS.elt i6 0] 1 0 (Int.toNat e + 1) (((x10.2 i6).2.2)) false) (SV.slice 301 ((x13 i6).1) (((x13 i6).2.1)) [PS.elt i6 0] 1 0 (Int.toNat e + 1) (((x13 i6).2.2)) false)) ∧ (∀ (i7 : Nat), i7 < Int.toNat e → ∃ (x14 : Nat), x14 < Int.toNat e ∧ ((x10.2 x14).1,
      ((x10.2 x14).2.1)) = ((x13 i7).1, ((x13 i7).2.1)) ∧ Int.toNat e + 1 = Int.toNat e + 1 ∧ ∀ (k2 : Nat), k2 < Int.toNat e + 1 → (↑(roundsM (wrongM b er n (Int.toNat e)) (Int.toNat e) x10.1 x14 k2) : Int) = (↑(swR (wrongM b er n (Int.toNat e)) (Int.toNat e) x10.1 i7 k2) : Int)) ∧ (0 : Int) ≤ pivF (roundsM (wrongM b er n (Int.toNat e)) (Int.toNat e) x10.1) (Int.toNat e) x10.1 ∧ disP (Int.toNat e) x13) ∧
      True) ∧ True) ∧ True) ∧ True) ∧ ∀ (x14 : Nat → Nat × Nat × Nat), (0 : Int) ≤ pivF (roundsM (wrongM b er n (Int.toNat e)) (Int.toNat e) x10.1) (Int.toNat e) x10.1 ∧ disP (Int.toNat e) x14 → (0 : Int) ≤ (↑x10.1 : Int) ∧ (↑x10.1 : Int) < (↑x6.1 : Int) ∧ (x6.2.1.1 = x6.2.1.1 ∧ x6.2.1.2.1 = x6.2.1.2.1) ∧ Int.toNat (↑x10.1 : Int) < x6.1 ∧ (0 : Int) ≤ (↑x10.1 : Int) ∧ (↑x10.1 : Int) < (↑(Int.toNat e + 1)
      : Int) ∧ ((x14 x10.1).1, ((x14 x10.1).2).1) = ((x14 x10.1).1, ((x14 x10.1).2).1) ∧ Int.toNat (↑x10.1 : Int) < Int.toNat e ∧ Int.toNat (↑x10.1 : Int) < Int.toNat e + 1 ∧ ((0 : Int) ≤ (1 : Int) ∧ (1 : Int) ≤ (255 : Int)) ∧ ((0 : Int) ≤ (↑(swR (wrongM b er n (Int.toNat e)) (Int.toNat e) x10.1 x10.1 x10.1) : Int) ∧ (↑(swR (wrongM b er n (Int.toNat e)) (Int.toNat e) x10.1 x10.1 x10.1) : Int) ≤ (255 :
      Int)) ∧ ∀ (v8 : Int), v8 = divI (1 : Int) (↑(swR (wrongM b er n (Int.toNat e)) (Int.toNat e) x10.1 x10.1 x10.1) : Int) → ∀ (v9 : Int), v9 = errB ((↑(swR (wrongM b er n (Int.toNat e)) (Int.toNat e) x10.1 x10.1 x10.1) : Int) == (0 : Int)) → (∃ (x15 : Nat), (0 : Int) = (↑x15 : Int) ∧ (∀ (i8 : Nat), i8 < Int.toNat e → ∃ (x16 : Nat), x16 < Int.toNat e ∧ ((x14 x16).1, ((x14 x16).2.1)) = ((x14 i8).1,
      ((x14 i8).2.1)) ∧ Int.toNat e + 1 = Int.toNat e + 1 ∧ ∀ (k2 : Nat), k2 < Int.toNat e + 1 → (↑(swR (wrongM b er n (Int.toNat e)) (Int.toNat e) x10.1 x16 k2) : Int) = (↑(if i8 = Int.toNat (↑x10.1 : Int) ∧ k2 < x15 then unitR (swR (wrongM b er n (Int.toNat e)) (Int.toNat e) x10.1) x10.1 k2 else swR (wrongM b er n (Int.toNat e)) (Int.toNat e) x10.1 i8 k2) : Int)) ∧ Nat.le x15 (Int.toNat e + 1)) ∧ ∀ (b6
      : Nat), b6 ≤ Int.toNat e + 1 → (decide ((↑b6 : Int) ≤ v6) = true → (0 : Int) ≤ (↑x10.1 : Int) ∧ (↑x10.1 : Int) < (↑x6.1 : Int) ∧ (x6.2.1.1 = x6.2.1.1 ∧ x6.2.1.2.1 = x6.2.1.2.1) ∧ Int.toNat (↑x10.1 : Int) < x6.1 ∧ (0 : Int) ≤ (↑x10.1 : Int) ∧ (↑x10.1 : Int) < (↑x6.1 : Int) ∧ (x6.2.1.1 = x6.2.1.1 ∧ x6.2.1.2.1 = x6.2.1.2.1) ∧ Int.toNat (↑x10.1 : Int) < x6.1 ∧ (0 : Int) ≤ (↑b6 : Int) ∧ (↑b6 : Int) <
      (↑(Int.toNat e + 1) : Int) ∧ (((x14 x10.1).1, ((x14 x10.1).2).1) = ((x14 x10.1).1, ((x14 x10.1).2).1) ∧ Int.toNat (↑x10.1 : Int) < Int.toNat e ∧ b6 < Int.toNat e + 1 ∧ ((0 : Int) ≤ (↑(if Int.toNat (↑x10.1 : Int) = Int.toNat (↑x10.1 : Int) ∧ b6 < b6 then unitR (swR (wrongM b er n (Int.toNat e)) (Int.toNat e) x10.1) x10.1 b6 else swR (wrongM b er n (Int.toNat e)) (Int.toNat e) x10.1 x10.1 b6) : Int)
      ∧ (↑(if Int.toNat (↑x10.1 : Int) = Int.toNat (↑x10.1 : Int) ∧ b6 < b6 then unitR (swR (wrongM b er n (Int.toNat e)) (Int.toNat e) x10.1) x10.1 b6 else swR (wrongM b er n (Int.toNat e)) (Int.toNat e) x10.1 x10.1 b6) : Int) ≤ (255 : Int)) ∧ (0 ≤ v8 ∧ v8 ≤ 255) ∧ ∀ (v10 : Int), v10 = mulI (↑(if Int.toNat (↑x10.1 : Int) = Int.toNat (↑x10.1 : Int) ∧ b6 < b6 then unitR (swR (wrongM b er n (Int.toNat e))
      (Int.toNat e) x10.1) x10.1 b6 else swR (wrongM b er n (Int.toNat e)) (Int.toNat e) x10.1 x10.1 b6) : Int) v8 → (0 : Int) ≤ (↑b6 : Int) ∧ (↑b6 : Int) < (↑(Int.toNat e + 1) : Int) ∧ (((x14 x10.1).1, ((x14 x10.1).2).1) = ((x14 x10.1).1, ((x14 x10.1).2).1) ∧ Int.toNat (↑x10.1 : Int) < Int.toNat e ∧ (∀ (b7 : Nat), b7 < Int.toNat e → b7 ≠ Int.toNat (↑x10.1 : Int) → (x14 b7).1 ≠ (x14 x10.1).1) ∧ b6 <
      Int.toNat e + 1 ∧ ∀ (v11 : Int), v11 = IntKind.i64.wrap ((↑b6 : Int) + (1 : Int)) → ∃ (x16 : Nat), v11 = (↑x16 : Int) ∧ (∀ (i9 : Nat), i9 < Int.toNat e → ∃ (x17 : Nat), x17 < Int.toNat e ∧ ((x14 x17).1, ((x14 x17).2.1)) = ((x14 i9).1, ((x14 i9).2.1)) ∧ Eng.eqvA (if x17 = Int.toNat (↑x10.1 : Int) then SV.arr (Int.toNat e + 1) 1 fun (k : Nat) ↦ SV.int IntKind.u8 (if k = b6 then v10 else (↑(if
      Int.toNat (↑x10.1 : Int) = Int.toNat (↑x10.1 : Int) ∧ k < b6 then unitR (swR (wrongM b er n (Int.toNat e)) (Int.toNat e) x10.1) x10.1 k else swR (wrongM b er n (Int.toNat e)) (Int.toNat e) x10.1 x10.1 k) : Int)) else SV.arr (Int.toNat e + 1) 1 fun (t : Nat) ↦ SV.int IntKind.u8 (↑(if x17 = Int.toNat (↑x10.1 : Int) ∧ t < b6 then unitR (swR (wrongM b er n (Int.toNat e)) (Int.toNat e) x10.1) x10.1 t
      else swR (wrongM b er n (Int.toNat e)) (Int.toNat e) x10.1 x17 t) : Int)) (SV.arr (Int.toNat e + 1) 1 fun (t : Nat) ↦ SV.int IntKind.u8 (↑(if i9 = Int.toNat (↑x10.1 : Int) ∧ t < x16 then unitR (swR (wrongM b er n (Int.toNat e)) (Int.toNat e) x10.1) x10.1 t else swR (wrongM b er n (Int.toNat e)) (Int.toNat e) x10.1 i9 t) : Int))) ∧ x16 ≤ Int.toNat e + 1 ∧ Int.toNat e + 1 - x16 < Int.toNat e + 1 -
      b6) ∧ True) ∧ True) ∧ (decide ((↑b6 : Int) ≤ v6) = false → (∃ (x16 : Nat), (0 : Int) = (↑x16 : Int) ∧ (∀ (i9 : Nat), i9 < Int.toNat e → ∃ (x17 : Nat), x17 < Int.toNat e ∧ ((x14 x17).1, ((x14 x17).2.1)) = ((x14 i9).1, ((x14 i9).2.1)) ∧ Int.toNat e + 1 = Int.toNat e + 1 ∧ ∀ (k2 : Nat), k2 < Int.toNat e + 1 → (↑(if x17 = Int.toNat (↑x10.1 : Int) ∧ k2 < b6 then unitR (swR (wrongM b er n (Int.toNat e))
      (Int.toNat e) x10.1) x10.1 k2 else swR (wrongM b er n (Int.toNat e)) (Int.toNat e) x10.1 x17 k2) : Int) = (↑(elimM (swR (wrongM b er n (Int.toNat e)) (Int.toNat e) x10.1) x10.1 x16 i9 k2) : Int)) ∧ Nat.le x16 (Int.toNat e)) ∧ ∀ (b7 : Nat), b7 ≤ Int.toNat e → (decide ((↑b7 : Int) < v6) = true → (0 : Int) ≤ (↑b7 : Int) ∧ (↑b7 : Int) < (↑x6.1 : Int) ∧ (x6.2.1.1 = x6.2.1.1 ∧ x6.2.1.2.1 = x6.2.1.2.1) ∧
      b7 < x6.1 ∧ (0 : Int) ≤ (↑x10.1 : Int) ∧ (↑x10.1 : Int) < (↑(Int.toNat e + 1) : Int) ∧ ((x14 b7).1, ((x14 b7).2).1) = ((x14 b7).1, ((x14 b7).2).1) ∧ b7 < Int.toNat e ∧ Int.toNat (↑x10.1 : Int) < Int.toNat e + 1 ∧ (∃ (x17 : Nat), (0 : Int) = (↑x17 : Int) ∧ (∀ (i10 : Nat), i10 < Int.toNat e → ∃ (x18 : Nat), x18 < Int.toNat e ∧ ((x14 x18).1, ((x14 x18).2.1)) = ((x14 i10).1, ((x14 i10).2.1)) ∧
      Int.toNat e + 1 = Int.toNat e + 1 ∧ ∀ (k2 : Nat), k2 < Int.toNat e + 1 → (↑(elimM (swR (wrongM b er n (Int.toNat e)) (Int.toNat e) x10.1) x10.1 b7 x18 k2) : Int) = (↑(if i10 = b7 ∧ k2 < x17 then elimM (swR (wrongM b er n (Int.toNat e)) (Int.toNat e) x10.1) x10.1 (b7 + 1) i10 k2 else elimM (swR (wrongM b er n (Int.toNat e)) (Int.toNat e) x10.1) x10.1 b7 i10 k2) : Int)) ∧ x17 ≤ Int.toNat e + 1 ∧ (b7
      = Int.toNat (↑x10.1 : Int) → x17 = 0)) ∧ ∀ (b8 : Nat), b8 ≤ Int.toNat e + 1 ∧ (b7 = Int.toNat (↑x10.1 : Int) → b8 = 0) → ∀ (t3 : Bool), (t3 = if ((↑b7 : Int) != (↑x10.1 : Int)) = true then decide ((↑b8 : Int) ≤ v6) else false) → (t3 = true → (0 : Int) ≤ (↑b7 : Int) ∧ (↑b7 : Int) < (↑x6.1 : Int) ∧ (x6.2.1.1 = x6.2.1.1 ∧ x6.2.1.2.1 = x6.2.1.2.1) ∧ b7 < x6.1 ∧ (0 : Int) ≤ (↑b7 : Int) ∧ (↑b7 : Int) <
      (↑x6.1 : Int) ∧ (x6.2.1.1 = x6.2.1.1 ∧ x6.2.1.2.1 = x6.2.1.2.1) ∧ b7 < x6.1 ∧ (0 : Int) ≤ (↑b8 : Int) ∧ (↑b8 : Int) < (↑(Int.toNat e + 1) : Int) ∧ (0 : Int) ≤ (↑x10.1 : Int) ∧ (↑x10.1 : Int) < (↑x6.1 : Int) ∧ (x6.2.1.1 = x6.2.1.1 ∧ x6.2.1.2.1 = x6.2.1.2.1) ∧ Int.toNat (↑x10.1 : Int) < x6.1 ∧ (0 : Int) ≤ (↑b8 : Int) ∧ (↑b8 : Int) < (↑(Int.toNat e + 1) : Int) ∧ (((x14 b7).1, ((x14 b7).2).1) = ((x14
      b7).1, ((x14 b7).2).1) ∧ b7 < Int.toNat e ∧ b8 < Int.toNat e + 1 ∧ (((x14 x10.1).1, ((x14 x10.1).2).1) = ((x14 x10.1).1, ((x14 x10.1).2).1) ∧ Int.toNat (↑x10.1 : Int) < Int.toNat e ∧ b8 < Int.toNat e + 1 ∧ ((0 : Int) ≤ (↑(elimM (swR (wrongM b er n (Int.toNat e)) (Int.toNat e) x10.1) x10.1 b7 b7 x10.1) : Int) ∧ (↑(elimM (swR (wrongM b er n (Int.toNat e)) (Int.toNat e) x10.1) x10.1 b7 b7 x10.1) :
      Int) ≤ (255 : Int)) ∧ ((0 : Int) ≤ (↑(if Int.toNat (↑x10.1 : Int) = b7 ∧ b8 < b8 then elimM (swR (wrongM b er n (Int.toNat e)) (Int.toNat e) x10.1) x10.1 (b7 + 1) x10.1 b8 else elimM (swR (wrongM b er n (Int.toNat e)) (Int.toNat e) x10.1) x10.1 b7 x10.1 b8) : Int) ∧ (↑(if Int.toNat (↑x10.1 : Int) = b7 ∧ b8 < b8 then elimM (swR (wrongM b er n (Int.toNat e)) (Int.toNat e) x10.1) x10.1 (b7 + 1) x10.1
      b8 else elimM (swR (wrongM b er n (Int.toNat e)) (Int.toNat e) x10.1) x10.1 b7 x10.1 b8) : Int) ≤ (255 : Int)) ∧ ∀ (v11 : Int), v11 = mulI (↑(elimM (swR (wrongM b er n (Int.toNat e)) (Int.toNat e) x10.1) x10.1 b7 b7 x10.1) : Int) (↑(if Int.toNat (↑x10.1 : Int) = b7 ∧ b8 < b8 then elimM (swR (wrongM b er n (Int.toNat e)) (Int.toNat e) x10.1) x10.1 (b7 + 1) x10.1 b8 else elimM (swR (wrongM b er n
      (Int.toNat e)) (Int.toNat e) x10.1) x10.1 b7 x10.1 b8) : Int) → ∀ (v12 : Int), v12 = IntKind.u8.wrap (↑(BitVec.toNat (BitVec.ofInt (IntKind.u8.bits) (↑(if b7 = b7 ∧ b8 < b8 then elimM (swR (wrongM b er n (Int.toNat e)) (Int.toNat e) x10.1) x10.1 (b7 + 1) b7 b8 else elimM (swR (wrongM b er n (Int.toNat e)) (Int.toNat e) x10.1) x10.1 b7 b7 b8) : Int) ^^^ BitVec.ofInt (IntKind.u8.bits) v11)) : Int) →
      (0 : Int) ≤ (↑b8 : Int) ∧ (↑b8 : Int) < (↑(Int.toNat e + 1) : Int) ∧ (((x14 b7).1, ((x14 b7).2).1) = ((x14 b7).1, ((x14 b7).2).1) ∧ b7 < Int.toNat e ∧ (∀ (b9 : Nat), b9 < Int.toNat e → b9 ≠ b7 → (x14 b9).1 ≠ (x14 b7).1) ∧ b8 < Int.toNat e + 1 ∧ ∀ (v13 : Int), v13 = IntKind.i64.wrap ((↑b8 : Int) + (1 : Int)) → ∃ (x18 : Nat), v13 = (↑x18 : Int) ∧ (∀ (i11 : Nat), i11 < Int.toNat e → ∃ (x19 : Nat), x19
      < Int.toNat e ∧ ((x14 x19).1, ((x14 x19).2.1)) = ((x14 i11).1, ((x14 i11).2.1)) ∧ Eng.eqvA (if x19 = b7 then SV.arr (Int.toNat e + 1) 1 fun (k : Nat) ↦ SV.int IntKind.u8 (if k = b8 then v12 else (↑(if b7 = b7 ∧ k < b8 then elimM (swR (wrongM b er n (Int.toNat e)) (Int.toNat e) x10.1) x10.1 (b7 + 1) b7 k else elimM (swR (wrongM b er n (Int.toNat e)) (Int.toNat e) x10.1) x10.1 b7 b7 k) : Int)) else
      SV.arr (Int.toNat e + 1) 1 fun (t : Nat) ↦ SV.int IntKind.u8 (↑(if x19 = b7 ∧ t < b8 then elimM (swR (wrongM b er n (Int.toNat e)) (Int.toNat e) x10.1) x10.1 (b7 + 1) x19 t else elimM (swR (wrongM b er n (Int.toNat e)) (Int.toNat e) x10.1) x10.1 b7 x19 t) : Int)) (SV.arr (Int.toNat e + 1) 1 fun (t : Nat) ↦ SV.int IntKind.u8 (↑(if i11 = b7 ∧ t < x18 then elimM (swR (wrongM b er n (Int.toNat e))
      (Int.toNat e) x10.1) x10.1 (b7 + 1) i11 t else elimM (swR (wrongM b er n (Int.toNat e)) (Int.toNat e) x10.1) x10.1 b7 i11 t) : Int))) ∧ (x18 ≤ Int.toNat e + 1 ∧ (b7 = Int.toNat (↑x10.1 : Int) → x18 = 0)) ∧ Int.toNat e + 1 - x18 < Int.toNat e + 1 - b8) ∧ True) ∧ True) ∧ (((x14 x10.1).1, ((x14 x10.1).2).1) = ((x14 x10.1).1, ((x14 x10.1).2).1) ∧ Int.toNat (↑x10.1 : Int) < Int.toNat e ∧ b8 < Int.toNat
      e + 1 ∧ ((0 : Int) ≤ (↑(elimM (swR (wrongM b er n (Int.toNat e)) (Int.toNat e) x10.1) x10.1 b7 b7 x10.1) : Int) ∧ (↑(elimM (swR (wrongM b er n (Int.toNat e)) (Int.toNat e) x10.1) x10.1 b7 b7 x10.1) : Int) ≤ (255 : Int)) ∧ ((0 : Int) ≤ (↑(if Int.toNat (↑x10.1 : Int) = b7 ∧ b8 < b8 then elimM (swR (wrongM b er n (Int.toNat e)) (Int.toNat e) x10.1) x10.1 (b7 + 1) x10.1 b8 else elimM (swR (wrongM b er
      n (Int.toNat e)) (Int.toNat e) x10.1) x10.1 b7 x10.1 b8) : Int) ∧ (↑(if Int.toNat (↑x10.1 : Int) = b7 ∧ b8 < b8 then elimM (swR (wrongM b er n (Int.toNat e)) (Int.toNat e) x10.1) x10.1 (b7 + 1) x10.1 b8 else elimM (swR (wrongM b er n (Int.toNat e)) (Int.toNat e) x10.1) x10.1 b7 x10.1 b8) : Int) ≤ (255 : Int)) ∧ ∀ (v12 : Int), v12 = mulI (↑(elimM (swR (wrongM b er n (Int.toNat e)) (Int.toNat e)
      x10.1) x10.1 b7 b7 x10.1) : Int) (↑(if Int.toNat (↑x10.1 : Int) = b7 ∧ b8 < b8 then elimM (swR (wrongM b er n (Int.toNat e)) (Int.toNat e) x10.1) x10.1 (b7 + 1) x10.1 b8 else elimM (swR (wrongM b er n (Int.toNat e)) (Int.toNat e) x10.1) x10.1 b7 x10.1 b8) : Int) → (((x14 b7).1, ((x14 b7).2).1) = ((x14 b7).1, ((x14 b7).2).1) ∧ b7 < Int.toNat e ∧ b8 < Int.toNat e + 1 ∧ ∀ (v13 : Int), v13 =
      IntKind.u8.wrap (↑(BitVec.toNat (BitVec.ofInt (IntKind.u8.bits) (↑(if b7 = b7 ∧ b8 < b8 then elimM (swR (wrongM b er n (Int.toNat e)) (Int.toNat e) x10.1) x10.1 (b7 + 1) b7 b8 else elimM (swR (wrongM b er n (Int.toNat e)) (Int.toNat e) x10.1) x10.1 b7 b7 b8) : Int) ^^^ BitVec.ofInt (IntKind.u8.bits) v12)) : Int) → (0 : Int) ≤ (↑b8 : Int) ∧ (↑b8 : Int) < (↑(Int.toNat e + 1) : Int) ∧ (((x14 b7).1,
      ((x14 b7).2).1) = ((x14 b7).1, ((x14 b7).2).1) ∧ b7 < Int.toNat e ∧ (∀ (b9 : Nat), b9 < Int.toNat e → b9 ≠ b7 → (x14 b9).1 ≠ (x14 b7).1) ∧ b8 < Int.toNat e + 1 ∧ ∀ (v14 : Int), v14 = IntKind.i64.wrap ((↑b8 : Int) + (1 : Int)) → ∃ (x18 : Nat), v14 = (↑x18 : Int) ∧ (∀ (i11 : Nat), i11 < Int.toNat e → ∃ (x19 : Nat), x19 < Int.toNat e ∧ ((x14 x19).1, ((x14 x19).2.1)) = ((x14 i11).1, ((x14 i11).2.1)) ∧
      Eng.eqvA (if x19 = b7 then SV.arr (Int.toNat e + 1) 1 fun (k : Nat) ↦ SV.int IntKind.u8 (if k = b8 then v13 else (↑(if b7 = b7 ∧ k < b8 then elimM (swR (wrongM b er n (Int.toNat e)) (Int.toNat e) x10.1) x10.1 (b7 + 1) b7 k else elimM (swR (wrongM b er n (Int.toNat e)) (Int.toNat e) x10.1) x10.1 b7 b7 k) : Int)) else SV.arr (Int.toNat e + 1) 1 fun (t : Nat) ↦ SV.int IntKind.u8 (↑(if x19 = b7 ∧ t <
      b8 then elimM (swR (wrongM b er n (Int.toNat e)) (Int.toNat e) x10.1) x10.1 (b7 + 1) x19 t else elimM (swR (wrongM b er n (Int.toNat e)) (Int.toNat e) x10.1) x10.1 b7 x19 t) : Int)) (SV.arr (Int.toNat e + 1) 1 fun (t : Nat) ↦ SV.int IntKind.u8 (↑(if i11 = b7 ∧ t < x18 then elimM (swR (wrongM b er n (Int.toNat e)) (Int.toNat e) x10.1) x10.1 (b7 + 1) i11 t else elimM (swR (wrongM b er n (Int.toNat
      e)) (Int.toNat e) x10.1) x10.1 b7 i11 t) : Int))) ∧ (x18 ≤ Int.toNat e + 1 ∧ (b7 = Int.toNat (↑x10.1 : Int) → x18 = 0)) ∧ Int.toNat e + 1 - x18 < Int.toNat e + 1 - b8) ∧ True) ∧ True) ∧ True) ∧ (t3 = false → ∀ (v13 : Int), v13 = IntKind.i64.wrap ((↑b7 : Int) + (1 : Int)) → ∃ (x18 : Nat), v13 = (↑x18 : Int) ∧ (∀ (i11 : Nat), i11 < Int.toNat e → ∃ (x19 : Nat), x19 < Int.toNat e ∧ ((x14 x19).1, ((x14
      x19).2.1)) = ((x14 i11).1, ((x14 i11).2.1)) ∧ Int.toNat e + 1 = Int.toNat e + 1 ∧ ∀ (k2 : Nat), k2 < Int.toNat e + 1 → (↑(if x19 = b7 ∧ k2 < b8 then elimM (swR (wrongM b er n (Int.toNat e)) (Int.toNat e) x10.1) x10.1 (b7 + 1) x19 k2 else elimM (swR (wrongM b er n (Int.toNat e)) (Int.toNat e) x10.1) x10.1 b7 x19 k2) : Int) = (↑(elimM (swR (wrongM b er n (Int.toNat e)) (Int.toNat e) x10.1) x10.1 x18
      i11 k2) : Int)) ∧ x18 ≤ Int.toNat e ∧ Int.toNat e - x18 < Int.toNat e - b7)) ∧ (decide ((↑b7 : Int) < v6) = false → ∀ (v11 : Int), v11 = IntKind.i64.wrap ((↑x10.1 : Int) + (1 : Int)) → ∃ (x18 : Nat × (Nat → Nat × Nat × Nat)), v11 = (↑x18.1 : Int) ∧ ((x6.2.1.1 = x6.2.1.1 ∧ x6.2.1.2.1 = x6.2.1.2.1 ∧ Nat.beq x6.1 0 = Nat.beq x6.1 0 ∧ x6.1 ≤ x6.1 ∧ x6.1 ≤ x6.2.1.2.2 ∧ x6.2.1.2.2 ≤ x6.2.1.2.2) ∧ ∀ (i11
      : Nat), i11 < x6.1 → (x14 i11).1 = (x18.2 i11).1 ∧ ((x14 i11).2.1) = ((x18.2 i11).2.1) ∧ 0 = 0 ∧ Int.toNat e + 1 = Int.toNat e + 1 ∧ ((x14 i11).2.2) = ((x18.2 i11).2.2) ∧ false = false) ∧ (∀ (i12 : Nat), i12 < Int.toNat e → ∃ (x19 : Nat), x19 < Int.toNat e ∧ ((x14 x19).1, ((x14 x19).2.1)) = ((x18.2 i12).1, ((x18.2 i12).2.1)) ∧ Int.toNat e + 1 = Int.toNat e + 1 ∧ ∀ (k2 : Nat), k2 < Int.toNat e + 1 →
      (↑(elimM (swR (wrongM b er n (Int.toNat e)) (Int.toNat e) x10.1) x10.1 b7 x19 k2) : Int) = (↑(roundsM (wrongM b er n (Int.toNat e)) (Int.toNat e) x18.1 i12 k2) : Int)) ∧ (x18.1 ≤ Int.toNat e ∧ goodM (wrongM b er n (Int.toNat e)) (Int.toNat e) x18.1 = true ∧ disP (Int.toNat e) x18.2) ∧ Int.toNat e - x18.1 < Int.toNat e - x10.1))))) ∧ (decide ((↑x10.1 : Int) < v6) = false → (∃ (x12 : Nat × Nat × Nat
      × Nat), (0 : Int) = (↑x12.1 : Int) ∧ SVeq (SV.slice 999999 0 0 [] 0 0 0 0 true) (SV.slice 303 x12.2.1 x12.2.2.1 [] 1 0 x12.1 x12.2.2.2 (Nat.beq x12.1 0)) ∧ (Nat.beq x12.1 0 = true ∧ x12.1 = 0 ∧ x12.2.2.2 = 0) ∧ x12.1 ≤ Int.toNat e ∧ x12.1 ≤ x12.2.2.2 ∧ x12.2.2.2 ≤ 9223372036854775807 ∧ (x12.1 = 0 → x12.2.2.2 = 0)) ∧ ∀ (x13 : Nat × Nat × Nat × Nat), x13.1 ≤ Int.toNat e ∧ x13.1 ≤ x13.2.2.2 ∧
      x13.2.2.2 ≤ 9223372036854775807 ∧ (x13.1 = 0 → x13.2.2.2 = 0) → (decide ((↑x13.1 : Int) < v6) = true → (0 : Int) ≤ (↑x13.1 : Int) ∧ (↑x13.1 : Int) < (↑x6.1 : Int) ∧ (x6.2.1.1 = x6.2.1.1 ∧ x6.2.1.2.1 = x6.2.1.2.1) ∧ Int.toNat (↑x13.1 : Int) < x6.1 ∧ 0 ≤ v6 ∧ v6 < (↑(Int.toNat e + 1) : Int) ∧ ((x10.2 x13.1).1, ((x10.2 x13.1).2).1) = ((x10.2 x13.1).1, ((x10.2 x13.1).2).1) ∧ Int.toNat (↑x13.1 : Int) <
      Int.toNat e ∧ Int.toNat v6 < Int.toNat e + 1 ∧ ∀ (b6 : Nat), (x13.2.1 = x13.2.1 ∧ x13.2.2.1 = x13.2.2.1) ∧ (Nat.beq x13.1 0 = true → Nat.beq x13.1 0 = true) ∧ 0 = 0 ∧ x13.1 ≤ x13.1 ∧ x13.2.2.2 ≤ x13.2.2.2 ∧ (x13.1 + 1) * 1 ≤ 140737488355328 ∧ x13.1 + 1 ≤ 9223372036854775807 ∧ 1 ≤ 1 ∧ (b6 = b6 ∧ 0 = 0) ∧ ∀ (b7 b8 b9 : Nat), x13.1 + 1 ≤ b9 → b9 ≤ 9223372036854775807 → (Nat.beq x13.1 0 = true → 1 = 0
      → b9 = 0) → ∀ (v7 : Int), v7 = IntKind.i64.wrap ((↑x13.1 : Int) + (1 : Int)) → ∃ (x14 : Nat × Nat × Nat × Nat), v7 = (↑x14.1 : Int) ∧ (b7 = x14.2.1 ∧ b8 = x14.2.2.1 ∧ 0 = 0 ∧ x13.1 + 1 = x14.1 ∧ b9 = x14.2.2.2 ∧ (Nat.beq x13.1 0 && decide (1 = 0)) = Nat.beq x14.1 0) ∧ ((b7 = x14.2.1 ∧ b8 = x14.2.2.1 ∧ (Nat.beq x13.1 0 && decide (1 = 0)) = Nat.beq x14.1 0 ∧ x14.1 ≤ x13.1 + 1 ∧ x14.1 ≤ x14.2.2.2 ∧
      x14.2.2.2 ≤ b9) ∧ ∀ (i4 : Nat), i4 < x14.1 → (if i4 < x13.1 then (↑(solN (wrongM b er n (Int.toNat e)) (Int.toNat e) i4) : Int) else (↑(roundsM (wrongM b er n (Int.toNat e)) (Int.toNat e) x10.1 x13.1 (Int.toNat v6)) : Int)) = (↑(solN (wrongM b er n (Int.toNat e)) (Int.toNat e) i4) : Int)) ∧ (x14.1 ≤ Int.toNat e ∧ x14.1 ≤ x14.2.2.2 ∧ x14.2.2.2 ≤ 9223372036854775807 ∧ (x14.1 = 0 → x14.2.2.2 = 0)) ∧
      Int.toNat e - x14.1 < Int.toNat e - x13.1) ∧ (decide ((↑x13.1 : Int) < v6) = false → ∀ (t1 : Bool), t1 = true → ∃ (x14 : Nat × Nat × Nat), (x13.2.1 = x14.1 ∧ x13.2.2.1 = x14.2.1 ∧ 0 = 0 ∧ x13.1 = locN b er n (Int.toNat e) ∧ x13.2.2.2 = x14.2.2 ∧ Nat.beq x13.1 0 = Nat.beq (locN b er n (Int.toNat e)) 0) ∧ t1 = wrGood b er n (Int.toNat e) ∧ ((x13.2.1 = x14.1 ∧ x13.2.2.1 = x14.2.1 ∧ Nat.beq x13.1 0 =
      Nat.beq (locN b er n (Int.toNat e)) 0 ∧ locN b er n (Int.toNat e) ≤ x13.1 ∧ locN b er n (Int.toNat e) ≤ x14.2.2 ∧ x14.2.2 ≤ x13.2.2.2) ∧ ∀ (i4 : Nat), i4 < locN b er n (Int.toNat e) → (↑(solN (wrongM b er n (Int.toNat e)) (Int.toNat e) i4) : Int) = (↑(solN (wrongM b er n (Int.toNat e)) (Int.toNat e) i4) : Int)) ∧ locN b er n (Int.toNat e) ≤ x14.2.2 ∧ x14.2.2 ≤ 9223372036854775807 ∧ (locN b er n
      (Int.toNat e) = 0 → x14.2.2 = 0)))) ∧ ∀ (x9 : Nat × Nat × Nat), locN b er n (Int.toNat e) ≤ x9.2.2 ∧ x9.2.2 ≤ 9223372036854775807 ∧ (locN b er n (Int.toNat e) = 0 → x9.2.2 = 0) → locN b er n (Int.toNat e) ≤ locN b er n (Int.toNat e) ∧ (∀ (k2 : Nat), k2 < locN b er n (Int.toNat e) → true = true) ∧ (x9.1 = x9.1 ∧ x9.2.1 = x9.2.1) ∧ ∀ (s4 : List UInt8), s4 = Byt.of (fun (k : Nat) ↦ (↑(solN (wrongM b
      er n (Int.toNat e)) (Int.toNat e) k) : Int)) (locN b er n (Int.toNat e)) → List.length [(1 : UInt8)] + List.length s4 ≤ 9223372036854775807 ∧ ∀ (s5 : List UInt8), s5 = [(1 : UInt8)] ++ s4 → ∃ (x10 : Unit), ((s5 = if wrGood b er n (Int.toNat e) = true then locL b er n (Int.toNat e) else [(1 : UInt8)]) ∧ wrGood b er n (Int.toNat e) = wrGood b er n (Int.toNat e)) ∧ True)))) (by kernel_rfl) ?_
  try simp only [eq_self, true_and, and_true, Nat.le_refl, implies_true, forall_const, Bool.false_eq_true, Bool.true_eq_false, reduceCtorEq, false_imp_iff, true_imp_iff, Int.toNat_zero, Int.toNat_natCast, Nat.zero_lt_one, Int.le_refl, allGet]
  generalize e.toNat = E at *
  subst hE
  have hMb := wrongM_byte b er n E
  intro v1 h1
  subst h1
  refine ⟨⟨(0, []), rfl, rfl, Nat.zero_le _, rfl, fun t ht => absurd ht (Nat.not_lt_zero _)⟩, fun y hy => ⟨fun hlt => ?_, fun hge => ?_⟩⟩
  · have hlt : y.1 < 8 := by have := of_decide_eq_true hlt; omega
    obtain ⟨y1, y2, y3⟩ := hy
    have hpl := pwN_lt (y.1 : Nat)
    refine ⟨by omega, fun s1 hs1 => ⟨⟨by omega, by omega⟩, fun v2 h2 => ?_⟩⟩
    rw [powI_eq] at h2
    refine ⟨⟨by omega, by omega⟩, fun v3 h3 s2 hs2 => ?_⟩
    rw [h3, h2, hs1, Int.toNat_natCast] at hs2
    have e2 : s2 = ofN (fun _ => syn0 b y.1) 1 := hs2
    have l2 : s2.length = 1 := by rw [e2]; exact ofN_len _ _
    refine ⟨by omega, fun s3 hs3 v4 h4 => ⟨(y.1 + 1, s3), h4.trans (l_succ (by omega)), rfl, ⟨by dsimp only; omega, by rw [hs3, List.length_append]; dsimp only; omega, fun t ht => ?_⟩, by dsimp only; omega⟩⟩
    dsimp only at ht ⊢
    rw [hs3]
    by_cases q : t < y.1
    · rw [co_app1 (by omega), y3 t q]
    · have q : t = y.1 := by omega
      rw [co_app2 (by omega), show t - y.2.length = 0 by omega, e2, byt_get (fun _ => syn0_lt b y.1) (by decide), q]
  have hge : y.1 = 8 := by have := of_decide_eq_false hge; omega
  obtain ⟨j, S0⟩ := y
  obtain ⟨y1, y2, y3⟩ := hy
  dsimp only at y1 y2 y3 hge ⊢
  subst hge
  refine ⟨⟨(0, S0), rfl, rfl, Nat.zero_le _, by dsimp only; omega, fun t ht => y3 t ht⟩, ?_⟩
  clear y1 y2 y3
  rintro ⟨k, s⟩ ⟨y1, y2, y3⟩
  dsimp only at y1 y2 y3 ⊢
  refine ⟨fun hlt v2 h2 v3 h3 => ?_, fun hge => ?_⟩
  · have hlt : k < n := by have := of_decide_eq_true hlt; omega
    obtain ⟨g1, g2⟩ := p5 k hlt
    refine ⟨by omega, by omega, hlt, fun v4 h4 => ?_⟩
    have e3 : v3 = (b.length : Int) - 1 := by rw [h3, h2, w64_id (by omega) (by omega)]
    have e4 : v4 = (b.length : Int) - 1 - er k := by rw [h4, e3, w64_id (by omega) (by omega)]
    refine ⟨⟨by omega, by omega⟩, fun v5 h5 s2 hs2 => ?_⟩
    have hx := pwN_lt v4
    rw [powI_eq] at h5
    have e2 : s2 = ofN (fun t => if t = 0 then 1 else pwN v4) 2 := by
      rw [hs2, h5]
      refine bof_congr fun t ht => ?_
      show _ = ((if t = 0 then 1 else pwN v4 : Nat) : Int)
      by_cases q : t = 0
      · rw [if_pos q, if_pos q]; rfl
      · rw [if_neg q, if_neg q]
    have l2 : s2.length = 2 := by rw [e2]; exact ofN_len _ _
    obtain ⟨c0, c1, c2⟩ := lin_co (pwN v4) hx
    rw [← e2] at c0 c1 c2
    have t1 := tlen_le s
    have t2 := tlen_le s2
    have hB : prodB s s2 = false := prodB_of (by omega)
    refine ⟨by omega, by omega, fun s3 hs3 v6 _ v7 h7 => ⟨(k + 1, s3), h7.trans (l_succ (by omega)), rfl, ⟨by dsimp only; omega, ?_, fun t ht => ?_⟩, by dsimp only; omega⟩⟩
    · have : s3.length ≤ tlen s + tlen s2 := by
        rw [hs3]
        unfold prodL
        rw [hB, if_neg (by decide)]
        rw [trimL_len]
        refine Nat.le_trans (tlen_le _) ?_
        rw [ofN_len]
        exact Nat.le_refl _
      dsimp only
      omega
    · dsimp only
      rw [hs3, co_prod hB, cv_lin (fun t => co_lt s t) c0 (by rw [c1]; exact hx) c2, c1]
      show _ = stepS (pwN ((b.length : Int) - 1 - er k)) (synE b er k) t
      rw [e4]
      unfold stepS
      rw [y3 0 (by decide), y3 t ht, y3 (t - 1) (by omega)]
  have hge : n = k := by have := of_decide_eq_false hge; omega
  subst hge
  refine ⟨by omega, by omega, by omega, by decide, fun s2 hs2 => ?_⟩
  have l2 : s2.length = 16 := by rw [hs2]; exact byt_len _ _
  refine ⟨by omega, fun s3 hs3 v3 h3 => ?_⟩
  have l3 : s3.length = s.length + 16 := by rw [hs3, List.length_append, l2]
  have hT : ∀ t, t < 8 → co s3 t = synE b er n t := fun t ht => by
    rw [← y3 t ht, hs3]
    by_cases q : t < s.length
    · rw [co_app1 q]
    · rw [co_app2 (by omega), co_end (l := s) (by omega), show s2 = ofN (fun _ => 0) 16 from hs2]
      by_cases q2 : t - s.length < 16
      · rw [byt_get (fun _ => by decide) q2]
      · rw [co_end (by rw [ofN_len]; omega)]
  have e3 : v3 = ((n + E + 0 : Nat) : Int) := by rw [h3, w64_id (by omega) (by omega)]; omega
  clear h3 hs3 hs2 y3 l2
  refine ⟨⟨(0, (0, 0, 0), fun _ => (0, 0, 0)), e3, nil_eqv rfl rfl rfl, ⟨rfl, rfl, rfl⟩, fun i hi => absurd hi (Nat.not_lt_zero _), Nat.zero_le _, Nat.le_refl _, by dsimp only; omega, fun _ => rfl, fun i j hi => absurd hi (Nat.not_lt_zero _)⟩, fun y hy v4 h4 v5 h5 => ?_⟩
  have e5 : v5 = (n : Int) + 2 * E := by rw [h5, h4, w64_id (x := 2 * (E : Int)) (by omega) (by omega), w64_id (by omega) (by omega)]
  clear h4 h5
  refine ⟨fun hlt => ?_, fun hge => ⟨fun v2 h2 => ?_, fun u hu => ?_⟩⟩
  · have hlt : y.1 < E := by have := of_decide_eq_true hlt; omega
    obtain ⟨y1, y2, y3, y4, y5⟩ := hy
    have hrr : n + E + y.1 - (n + E) = y.1 := by omega
    simp only [hrr]
    refine ⟨⟨(0, 0, 0, 0), rfl, nil_eqv rfl rfl rfl, ⟨rfl, rfl, rfl⟩, Nat.zero_le _, Nat.le_refl _, by dsimp only; omega, fun _ => rfl⟩, fun w hw => ⟨fun hin v6 h6 => ?_, fun hin => ?_⟩⟩
    · have hin : w.1 < E := by have := of_decide_eq_true hin; omega
      obtain ⟨w1, w2, w3, w4⟩ := hw
      have e6 : v6 = ((n + E + y.1 - 1 - w.1 : Nat) : Int) := by rw [h6, w64_id (by omega) (by omega)]; omega
      refine ⟨by omega, by omega, fun q => q, by omega, by omega, fun b2 b3 b4 c1 c2 v7 h7 => ⟨(w.1 + 1, b2, b3, b4), ?_, ⟨rfl, rfl, rfl, rfl, pt_beq _⟩, ⟨⟨rfl, rfl, pt_beq _, Nat.le_refl _, c1, Nat.le_refl _⟩, fun t ht => ?_⟩, ⟨by dsimp only; omega, c1, c2, fun q => by cases q⟩, by dsimp only; omega⟩⟩
      · rw [h7, w64_id (by omega) (by omega)]; dsimp only; omega
      dsimp only at ht
      by_cases q : t < w.1
      · rw [if_pos q]
      · have q : t = w.1 := by omega
        rw [if_neg (by omega), e6, Int.toNat_natCast, q]
        unfold wrongM
        rw [if_pos hlt, if_pos hin]
        show ((co s3 _ : Nat) : Int) = _
        rw [hT _ (by omega)]
    · have hin : w.1 = E := by have := of_decide_eq_false hin; omega
      obtain ⟨w1, w2, w3, w4⟩ := hw
      refine ⟨by omega, by omega, fun b1 => ⟨fun q => q, by omega, by omega, fun b2 b3 b4 c1 c2 b5 => ⟨fun q => q, by omega, by omega, fun b6 b7 b8 c3 c4 _ _ hap _ v6 h6 => ?_⟩⟩⟩
      have e4 : ((s3.getD (n + E + y.1) 0).toNat : Int) = ((wrongM b er n E y.1 E : Nat) : Int) := by
        show ((co s3 _ : Nat) : Int) = _
        unfold wrongM
        rw [if_pos hlt, if_neg (Nat.lt_irrefl E), if_pos rfl, hT _ (by omega)]
      have hap := hap (by rw [pt_beq]; rfl)
      rw [hin] at c1 ⊢
      refine ⟨(y.1 + 1, (b6, b7, b8), fun i => if i < y.1 then y.2.2 i else (b2, b3, b4)), ?_, ⟨rfl, rfl, rfl, rfl, pt_beq _⟩, ⟨⟨rfl, rfl, pt_beq _, Nat.le_refl _, c3, Nat.le_refl _⟩, fun i hi => ?_⟩, fun i hi => ?_, ⟨by dsimp only; omega, c3, c4, fun q => (by cases q), fun i j hi hj hne => ?_⟩, by dsimp only; omega⟩
      · rw [h6, w64_id (by omega) (by omega)]; dsimp only; omega
      · dsimp only at hi ⊢
        by_cases q : i < y.1
        · rw [if_pos q, if_pos q]; exact ⟨rfl, rfl, rfl, rfl, rfl, rfl⟩
        · rw [if_neg q, if_neg q]; exact fam_sveq (pt_beq _)
      · dsimp only at hi ⊢
        by_cases q : i < y.1
        · exact .inl ⟨i, q, by rw [if_pos q], fun c hc => rfl⟩
        · refine .inr (.inr ⟨pt_beq _, by rw [if_neg q], rfl, fun c hc => ?_⟩)
          have q : i = y.1 := by omega
          rw [q]
          by_cases q2 : c < E
          · rw [if_pos q2]
          · rw [if_neg q2, e4, show c = E by omega]
      · dsimp only at hi hj ⊢
        by_cases q : i < y.1
        · rw [if_pos q]
          by_cases q2 : j < y.1
          · rw [if_pos q2]; exact y5 i j q q2 hne
          · rw [if_neg q2]; exact hap i q (by omega)
        · rw [if_neg q]
          by_cases q2 : j < y.1
          · rw [if_pos q2]; exact fun e => hap j q2 (by omega) e.symm
          · omega
  · have hge : decide ((y.1 : Int) < (E : Int)) = false := decide_eq_false (by have := of_decide_eq_false hge; omega)
    have hgd : wrGood b er n E = goodM (wrongM b er n E) E E := rfl
    have hlo : locL b er n E = [1] ++ Byt.of (fun k => ((solN (wrongM b er n E) E k : Nat) : Int)) E := rfl
    obtain ⟨M, hM⟩ : ∃ M, wrongM b er n E = M := ⟨_, rfl⟩
    simp only [hM] at hMb hgd hlo ⊢
    have hlN : locN b er n E = if goodM M E E then E else 0 := by unfold locN; rw [hgd]
    simp only [hgd, hlN]
    obtain ⟨k, A, P⟩ := y
    obtain ⟨y1, y2, y3, y4, y5⟩ := hy
    dsimp only at y1 y2 y3 y4 y5 hge h2 ⊢
    have hk : E = k := by have := of_decide_eq_false hge; omega
    subst hk
    subst h2
    clear hge
    refine ⟨⟨(0, P), rfl, ⟨y2, fun i hi => ⟨rfl, rfl, rfl⟩⟩, fun i hi => ⟨i, hi, rfl, fun c hc => rfl⟩, Nat.zero_le _, rfl, y5⟩, ?_⟩
    rintro ⟨i, P⟩ ⟨hi, hg, hd⟩
    dsimp only at hi hg hd ⊢
    refine ⟨fun hlt => ?_, fun hge => ?_⟩
    · have hin : i < E := by have := of_decide_eq_true hlt; omega
      clear hlt
      refine ⟨⟨i, rfl, by omega, Nat.le_refl _, fun u h1 h2 => by omega⟩, ?_⟩
      rintro k ⟨k1, k2, k3⟩
      have ob : decide ((k : Int) < (E : Int)) = true → k < E := fun q => by have := of_decide_eq_true q; omega
      refine ⟨fun q => by omega, fun q => (by have := ob q; omega), ob, fun q => by omega, fun q => by omega, ob, fun q => by omega, fun t1 ht1 => ⟨fun h v3 h3 => ?_, fun h => ?_⟩⟩
      · have hk : k < E ∧ roundsM M E i k i = 0 := by
          rw [h] at ht1
          by_cases q : (k : Int) < E
          · rw [if_pos (decide_eq_true q)] at ht1
            have := ht1.symm
            simp only [beq_iff_eq] at this
            omega
          · rw [if_neg (by rw [decide_eq_false q]; decide)] at ht1; cases ht1
        refine ⟨k + 1, h3.trans (l_succ (by omega)), ⟨by omega, by omega, fun u h1 h2 => ?_⟩, by omega⟩
        by_cases q : u = k
        · rw [q]; exact hk.2
        · exact k3 u h1 (by omega)
      have hno : ∀ t, t ≤ k - i → noneTo (fun t => roundsM M E i (i + t) i != 0) t = true := fun t ht => noneTo_iff.2 fun u hu => by simp [k3 (i + u) (by omega) (by omega)]
      refine ⟨fun hkN => ?_, fun hkN => ?_⟩
      · have hkN : k = E := by
          simp only [beq_iff_eq] at hkN
          omega
        have hgn : goodM M E E = false := by
          cases hgn : goodM M E E with
          | false => rfl
          | true =>
            have h := goodM_mono (i := i + 1) (by omega) hgn
            simp only [goodM, Bool.and_eq_true] at h
            have h := of_decide_eq_true h.2
            have hf : pivF (roundsM M E i) E i = -1 := fstI_none (hno _ (by omega))
            omega
        intro t2 ht2
        simp only [hgn, Bool.false_eq_true, if_false]
        exact ⟨(0, 0, 0), nil_eqv (by trivial) (by trivial) (by trivial), ht2, ⟨by trivial, by trivial, by trivial⟩, Nat.le_refl _, by dsimp only; omega, fun _ => rfl⟩
      have hkN : k < E ∧ roundsM M E i k i ≠ 0 := by
        have h1 : k ≠ E := fun q => by rw [q] at hkN; simp at hkN
        refine ⟨by omega, fun q => ?_⟩
        rw [h, if_pos (decide_eq_true (show (k : Int) < E by omega)), q] at ht1
        simp at ht1
      obtain ⟨kN, kR⟩ := hkN
      have hf : pivF (roundsM M E i) E i = ((k - i : Nat) : Int) := fstI_at (p := fun t => roundsM M E i (i + t) i != 0) (hno _ (Nat.le_refl _)) (by rw [show i + (k - i) = k by omega]; simp [kR]) (by omega)
      have hpk : pivK (roundsM M E i) E i = k := by unfold pivK; omega
      have hp0 : 0 ≤ pivF (roundsM M E i) E i := by omega
      have hSi : swR M E i i i ≠ 0 := by
        unfold swR swapM
        rw [hpk]
        by_cases q : i = k
        · rw [if_pos q]; rw [← q] at kR; exact kR
        · rw [if_neg q, if_pos rfl]; exact kR
      clear ht1 h hkN hno k3 ob
      refine ⟨⟨by omega, by omega, by omega, by omega, ⟨by omega, by omega, by omega, by omega, by omega, by omega, by omega, by omega, swP P i k, ⟨y2, fun j _ => sw_row P _ i k j⟩, fun j hj => sw_fam P hin kN hpk j hj, hp0, sw_dis hd hin kN⟩, by omega, by omega, by omega, by omega, by omega, by omega, by omega, by omega, swP P i k, ⟨y2, fun j _ => sw_row P _ i k j⟩, fun j hj => sw_fam P hin kN hpk j hj, hp0, sw_dis hd hin kN⟩, ?_⟩
      clear hd hf hpk kR k1 k2
      rintro P ⟨-, hd⟩
      have hS := swR_byte hMb E i
      have hrd : roundsM M E (i + 1) = elimM (swR M E i) i E := rfl
      have hgd : goodM M E (i + 1) = true := by
        simp only [goodM, Bool.and_eq_true]
        exact ⟨hg, decide_eq_true hp0⟩
      obtain ⟨S, hSe⟩ : ∃ S, swR M E i = S := ⟨_, rfl⟩
      simp only [hSe] at hS hSi hrd ⊢
      have hb := fun r t => hS r t
      refine ⟨by omega, by omega, by omega, by omega, by omega, by omega, by omega, ⟨by omega, by omega⟩, ⟨by omega, by have := hb i i; omega⟩, fun v4 h4 v5 _ => ?_⟩
      have e4 : v4 = ((gdiv 1 (S i i) : Nat) : Int) := by
        rw [h4]
        unfold divI
        rw [if_neg (by omega)]
        rfl
      have l4 := gdiv_lt 1 (S i i)
      clear h4
      subst e4
      refine ⟨⟨0, rfl, fun j hj => ⟨j, hj, rfl, fun c hc => by rw [if_neg (by omega)]⟩, Nat.zero_le _⟩, fun c hc => ⟨fun hcn => ?_, fun hcn => ?_⟩⟩
      · have hcn : c ≤ E := by have := of_decide_eq_true hcn; omega
        have hbc := hb i c
        simp only [Nat.lt_irrefl, and_false, if_false]
        refine ⟨by omega, by omega, by omega, by omega, by omega, by omega, by omega, by omega, by omega, by omega, ⟨by omega, by omega⟩, ⟨by omega, by omega⟩, fun v6 h6 => ⟨by omega, by omega, by omega, fun j hj hne => hd j i hj hin hne, by omega, fun v7 h7 => ⟨c + 1, h7.trans (l_succ (by omega)), fun j hj => ⟨j, hj, rfl, ?_⟩, by omega, by omega⟩⟩⟩
        have e6 : v6 = ((unitR S i c : Nat) : Int) := by
          rw [h6]
          show ((gmul (S i c) (gdiv 1 (S i i)) : Nat) : Int) = _
          rw [gmul_comm hbc l4]
          rfl
        by_cases q : j = i
        · rw [if_pos q]
          refine ⟨rfl, fun t ht => ?_⟩
          show (if t = c then v6 else _) = _
          by_cases q2 : t = c
          · rw [if_pos q2, if_pos ⟨q, by omega⟩, e6, q2]
          · rw [if_neg q2]
            by_cases q3 : t < c
            · rw [if_pos (by first | exact q3 | exact ⟨rfl, q3⟩), if_pos ⟨q, by omega⟩]
            · rw [if_neg (by omega), if_neg (by omega), q]
        · rw [if_neg q]
          refine ⟨rfl, fun t ht => ?_⟩
          show ((_ : Nat) : Int) = _
          rw [if_neg (by omega), if_neg (by omega)]
      have hcn : c = E + 1 := by have := of_decide_eq_false hcn; omega
      subst hcn
      refine ⟨⟨0, rfl, fun j hj => ⟨j, hj, rfl, fun t ht => ?_⟩, Nat.zero_le _⟩, fun r hr => ⟨fun hrn => ?_, fun hrn v6 h6 => ?_⟩⟩
      · by_cases q : j = i
        · rw [if_pos ⟨q, ht⟩, q, el_self]
        · rw [if_neg (fun h => q h.1), el_ge q (Nat.not_lt_zero _)]
      · have hrn : r < E := by have := of_decide_eq_true hrn; omega
        refine ⟨by omega, by omega, by omega, by omega, by omega, by omega, by omega, ⟨0, rfl, fun j hj => ⟨j, hj, rfl, fun t ht => by rw [if_neg (by omega)]⟩, Nat.zero_le _, fun _ => rfl⟩, ?_⟩
        rintro c ⟨hc, hc0⟩ t3 ht3
        have hEb := fun j t => elimM_byte hS i r j t
        refine ⟨fun h3 => ?_, fun h3 v7 h7 => ⟨r + 1, h7.trans (l_succ (by omega)), fun j hj => ⟨j, hj, rfl, fun t ht => ?_⟩, by omega, by omega⟩⟩
        · have hri : r ≠ i ∧ c ≤ E := by
            rw [h3] at ht3
            by_cases q : ((r : Int) != (i : Int)) = true
            · rw [if_pos q] at ht3
              have := of_decide_eq_true ht3.symm
              simp only [bne_iff_ne, ne_eq] at q
              omega
            · rw [if_neg q] at ht3; cases ht3
          obtain ⟨hri, hcn⟩ := hri
          clear ht3
          have key : ∀ v7 : Int, v7 = mulI ((elimM S i r r i : Nat) : Int) ((elimM S i r i c : Nat) : Int) → ∀ v8 : Int, v8 = IntKind.u8.wrap ((BitVec.ofInt IntKind.u8.bits ((elimM S i r r c : Nat) : Int) ^^^ BitVec.ofInt IntKind.u8.bits v7).toNat : Int) → v8 = ((elimM S i (r + 1) r c : Nat) : Int) := fun v7 h7 v8 h8 => by
            rw [el_ge hri (Nat.lt_irrefl r), el_self] at h7
            rw [el_ge hri (Nat.lt_irrefl r)] at h8
            rw [el_lt hri (Nat.lt_succ_self r), h8, h7]
            exact xor8 (hb r c) (gmul_lt (hb r i))
          have fin : ∀ v8 : Int, v8 = ((elimM S i (r + 1) r c : Nat) : Int) → ∀ j, j < E → eqvA (if j = r then SV.arr (E + 1) 1 fun t => SV.int IntKind.u8 (if t = c then v8 else ((if t < c then elimM S i (r + 1) r t else elimM S i r r t : Nat) : Int)) else SV.arr (E + 1) 1 fun t => SV.int IntKind.u8 ((if j = r ∧ t < c then elimM S i (r + 1) j t else elimM S i r j t : Nat) : Int)) (SV.arr (E + 1) 1 fun t => SV.int IntKind.u8 ((if j = r ∧ t < c + 1 then elimM S i (r + 1) j t else elimM S i r j t : Nat) : Int)) := fun v8 h8 j hj => by
            by_cases q : j = r
            · rw [if_pos q]
              refine ⟨rfl, fun t ht => ?_⟩
              show (if t = c then v8 else _) = _
              by_cases q2 : t = c
              · rw [if_pos q2, if_pos ⟨q, by omega⟩, h8, q2, q]
              · rw [if_neg q2]
                by_cases q3 : t < c
                · rw [if_pos q3, if_pos ⟨q, by omega⟩, q]
                · rw [if_neg q3, if_neg (by omega), q]
            · rw [if_neg q]
              refine ⟨rfl, fun t ht => ?_⟩
              show ((_ : Nat) : Int) = _
              rw [if_neg (fun h => q h.1), if_neg (fun h => q h.1)]
          have b1 := hEb r i
          have b2 := hEb i c
          simp only [Nat.lt_irrefl, and_false, if_false, true_and]
          refine ⟨by omega, by omega, by omega, by omega, by omega, by omega, by omega, by omega, by omega, by omega, by omega, by omega, by omega, ⟨by omega, by omega, by omega, by omega, ⟨by omega, by omega⟩, ⟨by omega, by omega⟩, fun v7 h7 v8 h8 => ⟨by omega, by omega, by omega, fun j hj hne => hd j r hj hrn hne, by omega, fun v9 h9 => ⟨c + 1, h9.trans (l_succ (by omega)), fun j hj => ⟨j, hj, rfl, fin v8 (key v7 h7 v8 h8) j hj⟩, ⟨by omega, fun q => absurd q hri⟩, by omega⟩⟩⟩, by omega, by omega, ⟨by omega, by omega⟩, ⟨by omega, by omega⟩, fun v7 h7 => ⟨by omega, by omega, fun v8 h8 => ⟨by omega, by omega, by omega, fun j hj hne => hd j r hj hrn hne, by omega, fun v9 h9 => ⟨c + 1, h9.trans (l_succ (by omega)), fun j hj => ⟨j, hj, rfl, fin v8 (key v7 h7 v8 h8) j hj⟩, ⟨by omega, fun q => absurd q hri⟩, by omega⟩⟩⟩⟩
        · by_cases q : j = r
          · by_cases q2 : r = i
            · rw [if_neg (by have := hc0 q2; omega), el_step (.inr (by omega))]
            · have hcn : c = E + 1 := by
                rw [h3] at ht3
                rw [if_pos (by simp only [bne_iff_ne, ne_eq]; omega)] at ht3
                have := of_decide_eq_false ht3.symm
                omega
              rw [if_pos ⟨q, by omega⟩]
          · rw [if_neg (fun h => q h.1), el_step (.inl q)]
      · have hrn : r = E := by have := of_decide_eq_false hrn; omega
        subst hrn
        exact ⟨(i + 1, P), h6.trans (l_succ (by omega)), ⟨y2, fun j hj => ⟨rfl, rfl, rfl⟩⟩, fun j hj => ⟨j, hj, rfl, fun t ht => by rw [hrd]⟩, ⟨by dsimp only; omega, hgd, hd⟩, by dsimp only; omega⟩
    · have hge : E = i := by have := of_decide_eq_false hge; omega
      subst hge
      refine ⟨⟨(0, 0, 0, 0), rfl, nil_eqv rfl rfl rfl, ⟨rfl, rfl, rfl⟩, Nat.zero_le _, Nat.le_refl _, by dsimp only; omega, fun _ => rfl⟩, fun y hy => ⟨fun hlt => ?_, fun hge => ?_⟩⟩
      · have hlt : y.1 < E := by have := of_decide_eq_true hlt; omega
        obtain ⟨z1, z2, z3, z4⟩ := hy
        refine ⟨by omega, by omega, hlt, by omega, by omega, hlt, by omega, fun q => q, by omega, by omega, fun c1 c2 c3 h3 h4 v3 hv3 => ⟨(y.1 + 1, c1, c2, c3), hv3.trans (l_succ (by omega)), ⟨rfl, rfl, rfl, rfl, pt_beq _⟩, ⟨⟨rfl, rfl, pt_beq _, Nat.le_refl _, h3, Nat.le_refl _⟩, fun t ht => ?_⟩, ⟨by dsimp only; omega, h3, h4, fun q => by cases q⟩, by dsimp only; omega⟩⟩
        dsimp only at ht
        by_cases q : t < y.1
        · rw [if_pos q]
        · rw [if_neg q, show t = y.1 by omega, Int.toNat_natCast]
          rfl
      · obtain ⟨m, a1, a2, a3⟩ := y
        obtain ⟨z1, z2, z3, z4⟩ := hy
        dsimp only at z1 z2 z3 z4 hge ⊢
        have hm : E = m := by have := of_decide_eq_false hge; omega
        subst hm
        intro t1 ht1
        simp only [hg, if_true]
        exact ⟨(a1, a2, a3), ⟨by trivial, by trivial, by trivial, by trivial, by trivial⟩, ht1, ⟨by trivial, by trivial, by trivial, Nat.le_refl _, z2, Nat.le_refl _⟩, z2, z3, z4⟩
  · intro s4 hs4
    have l4 : s4.length = locN b er n E := by rw [hs4]; exact byt_len _ _
    have hN : locN b er n E ≤ E := by
      unfold locN
      split
      · exact Nat.le_refl _
      · exact Nat.zero_le _
    refine ⟨by rw [l4]; show 1 + _ ≤ _; omega, fun s5 hs5 => ⟨(), ?_⟩⟩
    rw [hs5, hs4]
    unfold locN locL
    cases wrGood b er n E with
    | true => rfl
    | false => rfl
theorem locR_len (b : List UInt8) (er : Nat → Int) (n e : Nat) : (if wrGood b er n e then locL b er n e else [1]).length ≤ e + 1 := by
  split
  · rw [locL_len]; exact Nat.le_refl _
  · show 1 ≤ e + 1
    omega
theorem locatorR_ok : PcOk Tryz.prog 26 locatorR := pc_of_ec locatorR0_ok (by intro args H; rcases args with _ | ⟨_, _ | ⟨_, _ | ⟨_, _ | ⟨_, _⟩⟩⟩⟩ <;> rfl) (fun x h => ⟨by
  have h3 : 0 ≤ x.2.2.1 := h.2.2.1
  have h4 : (x.2.1.n : Int) + 2 * x.2.2.1 ≤ 8 := h.2.2.2.1
  have := locR_len x.1 x.2.1.f x.2.1.n x.2.2.1.toNat
  show (if wrGood x.1 x.2.1.f x.2.1.n x.2.2.1.toNat then locL x.1 x.2.1.f x.2.1.n x.2.2.1.toNat else [1]).length ≤ 9223372036854775807
  omega, trivial, trivial⟩)
end Galois
