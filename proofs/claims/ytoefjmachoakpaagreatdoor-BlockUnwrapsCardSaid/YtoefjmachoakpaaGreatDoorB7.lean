/-
  OWN WORK. Block: solve, walked.
-/
import Derived.Test.YtoefjmachoakpaaGreatDoorBM
namespace Galois
open Go Go.Proofs Eng
set_option linter.unusedVariables false
set_option linter.unusedSimpArgs false
set_option maxHeartbeats 4000000
set_option maxRecDepth 100000

def arrGet : SV → Nat → SV
  | .arr _ _ f, k => f k
  | _, _ => .bool false
def lenS : SV → Nat
  | .slice _ _ _ _ _ _ n _ _ => n
  | _ => 0
def boxI (H : Hp) : SV → Int
  | .ptr g _ _ _ => intOf ((entG H g).get 0)
  | _ => 0
def rowAt (H : Hp) (t l : Nat) : SV → Int
  | .slice g _ _ _ _ i _ _ _ => intOf (arrGet ((entG H g).get (sh i t)) l)
  | _ => 0
theorem arr_eqv {n wd : Nat} {f g : Nat → SV} (h : ∀ k, k < n → f k = g k) : SVeq (.arr n wd f) (.arr n wd g) := by
  have hfl : (List.range n).flatMap (fun i => (f i).flat) = (List.range n).flatMap (fun i => (g i).flat) := flatMap_congr_range n fun i hi => by rw [h i hi]
  exact ⟨by simp only [SV.den, hfl], by simp only [SV.flat, hfl], rfl, fun hw i hi => by rw [← h i hi]; exact hw i hi⟩
/-- A row added to another one: its first l bytes. -/
def addA (args : List SV) (H : Hp) : List An := match args with
  | [.ptr g b off [.elt j wd], y, .int _ c] => [.loop ⟨2, Nat, [7], fun l => [.int .i64 (l : Nat)], [g],
      fun l => [{ entG H g with get := fun r => SV.ite (r = j) (.arr 9 1 fun t => .int .u8 (if t < l then xorI (intOf (arrGet ((entG H g).get j) t)) (mulI c (intOf (arrGet y t))) else intOf (arrGet ((entG H g).get j) t))) ((entG H g).get r) }],
      fun l => l ≤ 9, fun l => 9 - l⟩, .draw 4 (.take 0 (.take 1 (.take 2 (.take 3 (.take 5 (.take 6 (.take 7 (.take 8 (.take 9 (.take 11 (.br 4 (.take 10 (.take 12 (.br 13 .fin .stop))) .stop))))))))))) [100000 + g]]
  | _ => []
def ixA (args : List SV) (H : Hp) : List An := match args with
  | [s, .fn _ _ [p]] => [.lp 2 Nat [8] (fun t => [.int .i64 (t : Nat)]) (fun t => t ≤ lenS s ∧ ∀ u, u < t → rowAt H u (boxI H p).toNat s = 0) (fun t => lenS s - t)]
  | _ => []
noncomputable def EBS : Env := ((EBD.inl 96 Tryz.f96 addA).inl 95 Tryz.f95 fun _ _ => []).inl 94 Tryz.f94 ixA
theorem EBS_ok : EnvOk Tryz.prog EBS := ((EBD_ok.inl _ Tryz.func96 rfl (by kernel_rfl)).inl _ Tryz.func95 rfl (by kernel_rfl)).inl _ Tryz.func94 rfl (by kernel_rfl)
/-- The rows, as they lie there. -/
abbrev rowsE (b off m cap : Nat) (A : Mat) : Ent := ⟨0, b, off, 9, m, fun j => .arr 9 1 fun c => .int .u8 (A j c : Nat), true, false, cap, 74, false, none⟩
/-- The unknowns. -/
def solN (A : Mat) (n k : Nat) : Nat := roundsM A n n k n
abbrev outE (n : Nat) (A : Mat) (y : Nat × Nat × Nat) : Ent := ⟨1, y.1, y.2.1, 1, n, fun k => .int .u8 (solN A n k : Nat), true, false, y.2.2, 5, Nat.beq n 0, none⟩
abbrev outS (n : Nat) (y : Nat × Nat × Nat) : SV := .slice 1 y.1 y.2.1 [] 1 0 n y.2.2 (Nat.beq n 0)
/-- What is said of solve's places. -/
def solveA (b off m cap n : Nat) (A : Mat) : List An :=
      [.loop ⟨4, Nat, [15], fun i => [.int .i64 (i : Nat)], [0], fun i => [rowsE b off m cap (roundsM A n i)], fun i => i ≤ n ∧ goodM A n i = true, fun i => n - i⟩,
       .draw 6 (.take 0 (.take 1 (.take 2 (.take 3 (.take 4 (.br 5 (.take 6 (.take 7 .fin)) .stop)))))) [],
       .joinD 7 (fun fr H => ⟨7, Unit, [6], fun _ => [.int .i64 ((intOf (slotV fr 17)) + pivF (roundsM A n (intOf (slotV fr 17)).toNat) n (intOf (slotV fr 17)).toNat)], [], fun _ => [], fun _ => True, fun _ => 0⟩) 20,
       .joinD 10 (fun fr H => ⟨10, Unit, [], fun _ => [], [0], fun _ => [rowsE b off m cap (swapM (roundsM A n (intOf (slotV fr 17)).toNat) (intOf (slotV fr 17)).toNat (pivK (roundsM A n (intOf (slotV fr 17)).toNat) n (intOf (slotV fr 17)).toNat))], fun _ => 0 ≤ pivF (roundsM A n (intOf (slotV fr 17)).toNat) n (intOf (slotV fr 17)).toNat, fun _ => 0⟩) 30,
       .draw 9 (.take 0 (.take 1 (.take 2 (.take 3 (.take 4 (.take 5 (.take 6 (.take 8 (.take 9 (.take 10 (.br 7 (.br 11 (.take 12 (.br 13 (.take 14 (.br 15 .fin .stop)) .stop)) .stop) (.br 11 (.br 7 (.take 12 (.br 13 (.take 14 (.br 15 .fin .stop)) .stop)) .stop) .stop)))))))))))) [0],
       .draw 10 (.take 0 (.take 1 (.take 2 (.take 3 (.take 4 (.take 5 (.take 6 (.take 7 (.take 8 (.take 9 (.take 10 (.take 11 .fin)))))))))))) [],
       .nest ⟨15, Nat × Nat, [66, 15], fun y => [.int .i64 (y.1 : Nat), .int .i64 (y.2 : Nat)], [0], fun y => [rowsE b off m cap (elimM (swapM (roundsM A n y.2) y.2 (pivK (roundsM A n y.2) n y.2)) y.2 y.1)], fun y => y.1 ≤ n ∧ y.2 < n, fun y => n - y.1⟩,
       .draw 18 (.take 0 (.take 1 (.take 2 (.take 3 (.take 4 (.take 5 (.take 6 (.take 7 (.take 8 (.br 9 (.br 10 .fin .stop) .stop)))))))))) [0],
       .loop ⟨22, Nat × Nat × Nat × Nat, [86, 4], fun y => [.int .i64 (y.1 : Nat), .slice 300 y.2.1 y.2.2.1 [] 1 0 y.1 y.2.2.2 (Nat.beq y.1 0)], [], fun y => [⟨300, y.2.1, y.2.2.1, 1, y.1, fun k => .int .u8 (solN A n k : Nat), true, false, y.2.2.2, 5, Nat.beq y.1 0, none⟩], fun y => y.1 ≤ n ∧ y.1 ≤ y.2.2.2 ∧ y.2.2.2 ≤ 9223372036854775807 ∧ (y.1 = 0 → y.2.2.2 = 0), fun y => n - y.1⟩]
theorem solve_walk (b off c m cap n : Nat) (f : Nat → Nat → Int) (A : Mat) (hf : ∀ j, j < m → ∀ c, c < 9 → f j c = (A j c : Nat)) (hA : byteM A) (h8 : n ≤ 8) (hm : n ≤ m) (hmc : m ≤ cap) (hc : n ≤ c) (hc2 : c ≤ 9223372036854775807) :
    exCode EBS Tryz.f81.ntmps (solveA b off m cap n A)
      (bodyOf Tryz.f81) (argFr 0 [.slice 0 b off [] 9 0 n c false]) [⟨0, b, off, 9, m, fun j => .arr 9 1 fun c => .int .u8 (f j c), true, false, cap, 74, false, none⟩] 1
      (atEndP EBS Tryz.f81.results.toList (fun v H' nx' => goodM A n n = false ∧ v = .iface 105 (.agg [])) (fun r H' nx' => ∃ y, ends r H' (outS n y) [outE n A y] [] (goodM A n n = true ∧ n ≤ y.2.2 ∧ y.2.2 ≤ 9223372036854775807 ∧ (n = 0 → y.2.2 = 0)))) := by
  refine vc_of (q :=
      ∀ (v1 : Int), v1 = (↑n : Int) → (∃ (x1 : Nat), (0 : Int) = (↑x1 : Int) ∧ ((b = b ∧ off = off ∧ false = false ∧ m ≤ m ∧ m ≤ cap ∧ cap ≤ cap) ∧ ∀ (i1 : Nat), i1 < m → SVeq (SV.arr 9 1 fun (c : Nat) ↦ SV.int IntKind.u8 (f i1 c)) (SV.arr 9 1 fun (c : Nat) ↦ SV.int IntKind.u8 (↑(roundsM A n x1 i1 c) : Int))) ∧ x1 ≤ n ∧ goodM A n x1 = true) ∧ ∀ (b1 : Nat), b1 ≤ n ∧ goodM A n b1 = true → (decide ((↑b1 :
      Int) < v1) = true → ∀ (b2 : Nat), (b2 = b2 ∧ 0 = 0) ∧ ((b2 = b2 ∧ 0 = 0) ∧ (b2 = b2 ∧ 0 = 0) ∧ (0 : Int) ≤ (↑n : Int) ∧ (↑n : Int) ≤ (↑c : Int) ∧ (0 : Int) ≤ (↑b1 : Int) ∧ (↑b1 : Int) ≤ (↑n : Int) ∧ (∀ (v2 : Int), v2 = (↑(n - b1) : Int) → (∃ (x2 : Nat), (0 : Int) = (↑x2 : Int) ∧ x2 ≤ lenS (SV.slice 0 b off [] 9 (if c = b1 then 0 else b1) (n - b1) (c - b1) false) ∧ ∀ (b3 : Nat), b3 < x2 → rowAt
      [Ent.mk 1 b2 0 1 1 (fun (x : Nat) ↦ SV.int IntKind.i64 (↑b1 : Int)) false true 1 3 false Option.none, Ent.mk 0 b off 9 m (fun (j : Nat) ↦ SV.arr 9 1 fun (c : Nat) ↦ SV.int IntKind.u8 (↑(roundsM A n b1 j c) : Int)) false false cap (74 : Go.TypeId) false Option.none] b3 (Int.toNat (boxI [Ent.mk 1 b2 0 1 1 (fun (x : Nat) ↦ SV.int IntKind.i64 (↑b1 : Int)) false true 1 3 false Option.none, Ent.mk 0 b
      off 9 m (fun (j : Nat) ↦ SV.arr 9 1 fun (c : Nat) ↦ SV.int IntKind.u8 (↑(roundsM A n b1 j c) : Int)) false false cap (74 : Go.TypeId) false Option.none] (SV.ptr 1 b2 0 [PS.elt 0 1]))) (SV.slice 0 b off [] 9 (if c = b1 then 0 else b1) (n - b1) (c - b1) false) = (0 : Int)) ∧ ∀ (b4 : Nat), (b4 ≤ lenS (SV.slice 0 b off [] 9 (if c = b1 then 0 else b1) (n - b1) (c - b1) false) ∧ ∀ (u : Nat), u < b4 →
      rowAt [Ent.mk 1 b2 0 1 1 (fun (x : Nat) ↦ SV.int IntKind.i64 (↑b1 : Int)) false true 1 3 false Option.none, Ent.mk 0 b off 9 m (fun (j : Nat) ↦ SV.arr 9 1 fun (c : Nat) ↦ SV.int IntKind.u8 (↑(roundsM A n b1 j c) : Int)) false false cap (74 : Go.TypeId) false Option.none] u (Int.toNat (boxI [Ent.mk 1 b2 0 1 1 (fun (x : Nat) ↦ SV.int IntKind.i64 (↑b1 : Int)) false true 1 3 false Option.none, Ent.mk 0
      b off 9 m (fun (j : Nat) ↦ SV.arr 9 1 fun (c : Nat) ↦ SV.int IntKind.u8 (↑(roundsM A n b1 j c) : Int)) false false cap (74 : Go.TypeId) false Option.none] (SV.ptr 1 b2 0 [PS.elt 0 1]))) (SV.slice 0 b off [] 9 (if c = b1 then 0 else b1) (n - b1) (c - b1) false) = (0 : Int)) → (decide ((↑b4 : Int) < v2) = true → (0 : Int) ≤ (↑b4 : Int) ∧ (↑b4 : Int) < (↑(n - b1) : Int) ∧ (b = b ∧ off = off) ∧
      (match if c = b1 then 0 else b1 with | 0 => b4 | Nat.succ i => i + 1 + b4) < m ∧ ∀ (b5 : Nat), (b2 = b2 ∧ 0 = 0) ∧ (0 : Int) ≤ (↑b1 : Int) ∧ (↑b1 : Int) < (↑(9 : Nat) : Int) ∧ (b5 = b5 ∧ 0 = 0) ∧ b1 < 9 ∧ ∀ (t1 : Bool), t1 = ((↑(roundsM A n b1 (match if c = b1 then 0 else b1 with | 0 => b4 | Nat.succ i => i + 1 + b4) b1) : Int) != (0 : Int)) → (t1 = true → ∀ (v3 : Int), v3 = (↑b4 : Int) → ∀ (v4 :
      Int), v4 = IntKind.i64.wrap ((↑b1 : Int) + v3) → ∃ (x3 : Unit), v4 = (↑b1 : Int) + pivF (roundsM A n b1) n b1 ∧ True) ∧ (t1 = false → ∀ (v4 : Int), v4 = IntKind.i64.wrap ((↑b4 : Int) + (1 : Int)) → ∃ (x3 : Nat), v4 = (↑x3 : Int) ∧ (x3 ≤ lenS (SV.slice 0 b off [] 9 (if c = b1 then 0 else b1) (n - b1) (c - b1) false) ∧ ∀ (b6 : Nat), b6 < x3 → rowAt [Ent.mk 1 b2 0 1 1 (fun (x : Nat) ↦ SV.int
      IntKind.i64 (↑b1 : Int)) false true 1 3 false Option.none, Ent.mk 0 b off 9 m (fun (j : Nat) ↦ SV.arr 9 1 fun (c : Nat) ↦ SV.int IntKind.u8 (↑(roundsM A n b1 j c) : Int)) false false cap (74 : Go.TypeId) false Option.none] b6 (Int.toNat (boxI [Ent.mk 1 b2 0 1 1 (fun (x : Nat) ↦ SV.int IntKind.i64 (↑b1 : Int)) false true 1 3 false Option.none, Ent.mk 0 b off 9 m (fun (j : Nat) ↦ SV.arr 9 1 fun (c :
      Nat) ↦ SV.int IntKind.u8 (↑(roundsM A n b1 j c) : Int)) false false cap (74 : Go.TypeId) false Option.none] (SV.ptr 1 b2 0 [PS.elt 0 1]))) (SV.slice 0 b off [] 9 (if c = b1 then 0 else b1) (n - b1) (c - b1) false) = (0 : Int)) ∧ lenS (SV.slice 0 b off [] 9 (if c = b1 then 0 else b1) (n - b1) (c - b1) false) - x3 < lenS (SV.slice 0 b off [] 9 (if c = b1 then 0 else b1) (n - b1) (c - b1) false) -
      b4)) ∧ (decide ((↑b4 : Int) < v2) = false → ∀ (v3 : Int), v3 = (-1 : Int) → ∀ (v4 : Int), v4 = IntKind.i64.wrap ((↑b1 : Int) + v3) → ∃ (x3 : Unit), v4 = (↑b1 : Int) + pivF (roundsM A n b1) n b1 ∧ True)) ∧ True) ∧ ∀ (x2 : Unit), True → (b2 = b2 ∧ 0 = 0) ∧ (decide ((↑b1 : Int) + pivF (roundsM A n b1) n b1 < (↑b1 : Int)) = true → goodM A n n = false ∧ SV.iface 105 (SV.agg []) = SV.iface (105 :
      Go.TypeId) (SV.agg [])) ∧ (decide ((↑b1 : Int) + pivF (roundsM A n b1) n b1 < (↑b1 : Int)) = false → ((b2 = b2 ∧ 0 = 0) ∧ (0 : Int) ≤ (↑b1 : Int) + pivF (roundsM A n b1) n b1 ∧ (↑b1 : Int) + pivF (roundsM A n b1) n b1 < (↑n : Int) ∧ (b2 = b2 ∧ 0 = 0) ∧ (0 : Int) ≤ (↑b1 : Int) ∧ (↑b1 : Int) < (↑n : Int) ∧ ((b = b ∧ off = off) ∧ Int.toNat ((↑b1 : Int) + pivF (roundsM A n b1) n b1) < m ∧ ((b = b ∧ off
      = off) ∧ b1 < m ∧ (0 : Int) ≤ (↑b1 : Int) ∧ (↑b1 : Int) < (↑n : Int) ∧ ((b = b ∧ off = off) ∧ b1 < m ∧ (0 : Int) ≤ (↑b1 : Int) + pivF (roundsM A n b1) n b1 ∧ (↑b1 : Int) + pivF (roundsM A n b1) n b1 < (↑n : Int) ∧ ((b = b ∧ off = off) ∧ Int.toNat ((↑b1 : Int) + pivF (roundsM A n b1) n b1) < m ∧ ∃ (x3 : Unit), ((b = b ∧ off = off ∧ false = false ∧ m ≤ m ∧ m ≤ cap ∧ cap ≤ cap) ∧ ∀ (i2 : Nat), i2 < m
      → SVeq (SV.arr 9 1 fun (k : Nat) ↦ SV.int IntKind.u8 (if i2 = Int.toNat ((↑b1 : Int) + pivF (roundsM A n b1) n b1) then (↑(roundsM A n b1 b1 k) : Int) else if i2 = b1 then (↑(roundsM A n b1 (Int.toNat ((↑b1 : Int) + pivF (roundsM A n b1) n b1)) k) : Int) else (↑(roundsM A n b1 i2 k) : Int))) (SV.arr 9 1 fun (c : Nat) ↦ SV.int IntKind.u8 (↑(swapM (roundsM A n b1) b1 (pivK (roundsM A n b1) n b1) i2
      c) : Int))) ∧ Int.NonNeg (pivF (roundsM A n b1) n b1 - (0 : Int))) ∧ True) ∧ True) ∧ True) ∧ ((b = b ∧ off = off) ∧ b1 < m ∧ ((b = b ∧ off = off) ∧ Int.toNat ((↑b1 : Int) + pivF (roundsM A n b1) n b1) < m ∧ (0 : Int) ≤ (↑b1 : Int) ∧ (↑b1 : Int) < (↑n : Int) ∧ ((b = b ∧ off = off) ∧ b1 < m ∧ (0 : Int) ≤ (↑b1 : Int) + pivF (roundsM A n b1) n b1 ∧ (↑b1 : Int) + pivF (roundsM A n b1) n b1 < (↑n : Int)
      ∧ ((b = b ∧ off = off) ∧ Int.toNat ((↑b1 : Int) + pivF (roundsM A n b1) n b1) < m ∧ ∃ (x4 : Unit), ((b = b ∧ off = off ∧ false = false ∧ m ≤ m ∧ m ≤ cap ∧ cap ≤ cap) ∧ ∀ (i3 : Nat), i3 < m → SVeq (SV.arr 9 1 fun (k : Nat) ↦ SV.int IntKind.u8 (if i3 = Int.toNat ((↑b1 : Int) + pivF (roundsM A n b1) n b1) then (↑(roundsM A n b1 b1 k) : Int) else if i3 = b1 then (↑(roundsM A n b1 (Int.toNat ((↑b1 :
      Int) + pivF (roundsM A n b1) n b1)) k) : Int) else (↑(roundsM A n b1 i3 k) : Int))) (SV.arr 9 1 fun (c : Nat) ↦ SV.int IntKind.u8 (↑(swapM (roundsM A n b1) b1 (pivK (roundsM A n b1) n b1) i3 c) : Int))) ∧ Int.NonNeg (pivF (roundsM A n b1) n b1 - (0 : Int))) ∧ True) ∧ True) ∧ True) ∧ True) ∧ ∀ (x5 : Unit), (0 : Int) ≤ pivF (roundsM A n b1) n b1 → (b2 = b2 ∧ 0 = 0) ∧ (b2 = b2 ∧ 0 = 0) ∧ (0 : Int) ≤
      (↑b1 : Int) ∧ (↑b1 : Int) < (↑n : Int) ∧ (0 : Int) ≤ (↑b1 : Int) ∧ (↑b1 : Int) < (↑(9 : Nat) : Int) ∧ (b = b ∧ off = off) ∧ b1 < m ∧ b1 < 9 ∧ ((0 : Int) ≤ (1 : Int) ∧ (1 : Int) ≤ (255 : Int)) ∧ ((0 : Int) ≤ (↑(swapM (roundsM A n b1) b1 (pivK (roundsM A n b1) n b1) b1 b1) : Int) ∧ (↑(swapM (roundsM A n b1) b1 (pivK (roundsM A n b1) n b1) b1 b1) : Int) ≤ (255 : Int)) ∧ ∀ (v3 : Int), v3 = divI (1 :
      Int) (↑(swapM (roundsM A n b1) b1 (pivK (roundsM A n b1) n b1) b1 b1) : Int) → ∀ (v4 : Int), v4 = errB ((↑(swapM (roundsM A n b1) b1 (pivK (roundsM A n b1) n b1) b1 b1) : Int) == (0 : Int)) → ∀ (b3 : Nat), (b2 = b2 ∧ 0 = 0) ∧ (0 : Int) ≤ (↑b1 : Int) ∧ (↑b1 : Int) < (↑n : Int) ∧ (b = b ∧ off = off) ∧ b1 < m ∧ ∀ (b4 : Nat), (∃ (x6 : Nat), (0 : Int) = (↑x6 : Int) ∧ ((b3 = b3 ∧ 0 = 0 ∧ false = false ∧
      1 ≤ 1 ∧ 1 ≤ 1 ∧ 1 ≤ 1) ∧ SVeq (SV.arr 9 1 fun (x : Nat) ↦ SV.int IntKind.u8 (0 : Int)) (SV.arr 9 1 fun (k : Nat) ↦ SV.int IntKind.u8 (if 0 = 0 then if k < x6 then xorI (0 : Int) (mulI v3 (↑(swapM (roundsM A n b1) b1 (pivK (roundsM A n b1) n b1) b1 k) : Int)) else (0 : Int) else (0 : Int)))) ∧ Nat.le x6 9) ∧ ∀ (b5 : Nat), b5 ≤ 9 → (decide ((↑b5 : Int) < (9 : Int)) = true → (0 : Int) ≤ (↑b5 : Int) ∧
      (↑b5 : Int) < (↑(9 : Nat) : Int) ∧ (0 : Int) ≤ (↑b5 : Int) ∧ (↑b5 : Int) < (↑(9 : Nat) : Int) ∧ (b4 = b4 ∧ 0 = 0) ∧ b5 < 9 ∧ (0 ≤ v3 ∧ v3 ≤ 255) ∧ ((0 : Int) ≤ (↑(swapM (roundsM A n b1) b1 (pivK (roundsM A n b1) n b1) b1 b5) : Int) ∧ (↑(swapM (roundsM A n b1) b1 (pivK (roundsM A n b1) n b1) b1 b5) : Int) ≤ (255 : Int)) ∧ ∀ (v5 : Int), v5 = mulI v3 (↑(swapM (roundsM A n b1) b1 (pivK (roundsM A n b1)
      n b1) b1 b5) : Int) → ((b3 = b3 ∧ 0 = 0) ∧ b5 < 9 ∧ ∀ (v6 : Int), v6 = IntKind.u8.wrap (↑(BitVec.toNat (BitVec.ofInt (IntKind.u8.bits) (if 0 = 0 then if b5 < b5 then xorI (0 : Int) (mulI v3 (↑(swapM (roundsM A n b1) b1 (pivK (roundsM A n b1) n b1) b1 b5) : Int)) else (0 : Int) else (0 : Int)) ^^^ BitVec.ofInt (IntKind.u8.bits) v5)) : Int) → (0 : Int) ≤ (↑b5 : Int) ∧ (↑b5 : Int) < (↑(9 : Nat) : Int)
      ∧ ((b3 = b3 ∧ 0 = 0) ∧ b5 < 9 ∧ ∀ (v7 : Int), v7 = IntKind.i64.wrap ((↑b5 : Int) + (1 : Int)) → ∃ (x7 : Nat), v7 = (↑x7 : Int) ∧ ((b3 = b3 ∧ 0 = 0 ∧ false = false ∧ 1 ≤ 1 ∧ 1 ≤ 1 ∧ 1 ≤ 1) ∧ SVeq (SV.arr 9 1 fun (k : Nat) ↦ SV.int IntKind.u8 (if k = b5 then v6 else if 0 = 0 then if k < b5 then xorI (0 : Int) (mulI v3 (↑(swapM (roundsM A n b1) b1 (pivK (roundsM A n b1) n b1) b1 k) : Int)) else (0 :
      Int) else (0 : Int))) (SV.arr 9 1 fun (k : Nat) ↦ SV.int IntKind.u8 (if 0 = 0 then if k < x7 then xorI (0 : Int) (mulI v3 (↑(swapM (roundsM A n b1) b1 (pivK (roundsM A n b1) n b1) b1 k) : Int)) else (0 : Int) else (0 : Int)))) ∧ x7 ≤ 9 ∧ 9 - x7 < 9 - b5) ∧ True) ∧ True) ∧ (decide ((↑b5 : Int) < (9 : Int)) = false → (b2 = b2 ∧ 0 = 0) ∧ (b3 = b3 ∧ 0 = 0) ∧ (0 : Int) ≤ (↑b1 : Int) ∧ (↑b1 : Int) < (↑n
      : Int) ∧ (b = b ∧ off = off) ∧ b1 < m ∧ ∀ (v6 : Int), v6 = (↑n : Int) → (∃ (x7 : Nat × Nat), (0 : Int) = (↑x7.1 : Int) ∧ (↑b1 : Int) = (↑x7.2 : Int) ∧ ((b = b ∧ off = off ∧ false = false ∧ m ≤ m ∧ m ≤ cap ∧ cap ≤ cap) ∧ ∀ (i4 : Nat), i4 < m → SVeq (SV.arr 9 1 fun (k : Nat) ↦ SV.int IntKind.u8 (if i4 = b1 then if 0 = 0 then if k < b5 then xorI (0 : Int) (mulI v3 (↑(swapM (roundsM A n b1) b1 (pivK
      (roundsM A n b1) n b1) b1 k) : Int)) else (0 : Int) else (0 : Int) else (↑(swapM (roundsM A n b1) b1 (pivK (roundsM A n b1) n b1) i4 k) : Int))) (SV.arr 9 1 fun (c : Nat) ↦ SV.int IntKind.u8 (↑(elimM (swapM (roundsM A n x7.2) x7.2 (pivK (roundsM A n x7.2) n x7.2)) x7.2 x7.1 i4 c) : Int))) ∧ x7.1 ≤ n ∧ x7.2 < n) ∧ ∀ (x8 : Nat × Nat), x8.1 ≤ n ∧ x8.2 < n → (↑b1 : Int) = (↑x8.2 : Int) → (decide
      ((↑x8.1 : Int) < v6) = true → (b2 = b2 ∧ 0 = 0) ∧ (((↑x8.1 : Int) != (↑b1 : Int)) = true → (0 : Int) ≤ (↑x8.1 : Int) ∧ (↑x8.1 : Int) < (↑n : Int) ∧ (b3 = b3 ∧ 0 = 0) ∧ (b2 = b2 ∧ 0 = 0) ∧ (0 : Int) ≤ (↑x8.1 : Int) ∧ (↑x8.1 : Int) < (↑n : Int) ∧ (0 : Int) ≤ (↑b1 : Int) ∧ (↑b1 : Int) < (↑(9 : Nat) : Int) ∧ ((b = b ∧ off = off) ∧ Int.toNat (↑x8.1 : Int) < m ∧ b1 < 9 ∧ (∀ (b6 : Nat), (∃ (x9 : Nat), (0
      : Int) = (↑x9 : Int) ∧ ((b = b ∧ off = off ∧ false = false ∧ m ≤ m ∧ m ≤ cap ∧ cap ≤ cap) ∧ ∀ (i5 : Nat), i5 < m → SVeq (SV.arr 9 1 fun (c : Nat) ↦ SV.int IntKind.u8 (↑(elimM (swapM (roundsM A n x8.2) x8.2 (pivK (roundsM A n x8.2) n x8.2)) x8.2 x8.1 i5 c) : Int)) (SV.arr 9 1 fun (k : Nat) ↦ SV.int IntKind.u8 (if i5 = Int.toNat (↑x8.1 : Int) then if k < x9 then xorI (↑(elimM (swapM (roundsM A n
      x8.2) x8.2 (pivK (roundsM A n x8.2) n x8.2)) x8.2 x8.1 x8.1 k) : Int) (mulI (↑(elimM (swapM (roundsM A n x8.2) x8.2 (pivK (roundsM A n x8.2) n x8.2)) x8.2 x8.1 x8.1 b1) : Int) (if 0 = 0 then if k < b5 then xorI (0 : Int) (mulI v3 (↑(swapM (roundsM A n b1) b1 (pivK (roundsM A n b1) n b1) b1 k) : Int)) else (0 : Int) else (0 : Int))) else (↑(elimM (swapM (roundsM A n x8.2) x8.2 (pivK (roundsM A n
      x8.2) n x8.2)) x8.2 x8.1 x8.1 k) : Int) else (↑(elimM (swapM (roundsM A n x8.2) x8.2 (pivK (roundsM A n x8.2) n x8.2)) x8.2 x8.1 i5 k) : Int)))) ∧ Nat.le x9 9) ∧ ∀ (b7 : Nat), b7 ≤ 9 → (decide ((↑b7 : Int) < (9 : Int)) = true → (0 : Int) ≤ (↑b7 : Int) ∧ (↑b7 : Int) < (↑(9 : Nat) : Int) ∧ (0 : Int) ≤ (↑b7 : Int) ∧ (↑b7 : Int) < (↑(9 : Nat) : Int) ∧ (b6 = b6 ∧ 0 = 0) ∧ b7 < 9 ∧ ((0 : Int) ≤ (↑(elimM
      (swapM (roundsM A n x8.2) x8.2 (pivK (roundsM A n x8.2) n x8.2)) x8.2 x8.1 x8.1 b1) : Int) ∧ (↑(elimM (swapM (roundsM A n x8.2) x8.2 (pivK (roundsM A n x8.2) n x8.2)) x8.2 x8.1 x8.1 b1) : Int) ≤ (255 : Int)) ∧ (((0 : Int) ≤ if 0 = 0 then if b7 < b5 then xorI (0 : Int) (mulI v3 (↑(swapM (roundsM A n b1) b1 (pivK (roundsM A n b1) n b1) b1 b7) : Int)) else (0 : Int) else (0 : Int)) ∧ (if 0 = 0 then if
      b7 < b5 then xorI (0 : Int) (mulI v3 (↑(swapM (roundsM A n b1) b1 (pivK (roundsM A n b1) n b1) b1 b7) : Int)) else (0 : Int) else (0 : Int)) ≤ (255 : Int)) ∧ ∀ (v7 : Int), v7 = mulI (↑(elimM (swapM (roundsM A n x8.2) x8.2 (pivK (roundsM A n x8.2) n x8.2)) x8.2 x8.1 x8.1 b1) : Int) (if 0 = 0 then if b7 < b5 then xorI (0 : Int) (mulI v3 (↑(swapM (roundsM A n b1) b1 (pivK (roundsM A n b1) n b1) b1 b7)
      : Int)) else (0 : Int) else (0 : Int)) → ((b = b ∧ off = off) ∧ Int.toNat (↑x8.1 : Int) < m ∧ b7 < 9 ∧ ∀ (v8 : Int), v8 = IntKind.u8.wrap (↑(BitVec.toNat (BitVec.ofInt (IntKind.u8.bits) (if Int.toNat (↑x8.1 : Int) = Int.toNat (↑x8.1 : Int) then if b7 < b7 then xorI (↑(elimM (swapM (roundsM A n x8.2) x8.2 (pivK (roundsM A n x8.2) n x8.2)) x8.2 x8.1 x8.1 b7) : Int) (mulI (↑(elimM (swapM (roundsM A n
      x8.2) x8.2 (pivK (roundsM A n x8.2) n x8.2)) x8.2 x8.1 x8.1 b1) : Int) (if 0 = 0 then if b7 < b5 then xorI (0 : Int) (mulI v3 (↑(swapM (roundsM A n b1) b1 (pivK (roundsM A n b1) n b1) b1 b7) : Int)) else (0 : Int) else (0 : Int))) else (↑(elimM (swapM (roundsM A n x8.2) x8.2 (pivK (roundsM A n x8.2) n x8.2)) x8.2 x8.1 x8.1 b7) : Int) else (↑(elimM (swapM (roundsM A n x8.2) x8.2 (pivK (roundsM A n
      x8.2) n x8.2)) x8.2 x8.1 x8.1 b7) : Int)) ^^^ BitVec.ofInt (IntKind.u8.bits) v7)) : Int) → (0 : Int) ≤ (↑b7 : Int) ∧ (↑b7 : Int) < (↑(9 : Nat) : Int) ∧ ((b = b ∧ off = off) ∧ Int.toNat (↑x8.1 : Int) < m ∧ b7 < 9 ∧ ∀ (v9 : Int), v9 = IntKind.i64.wrap ((↑b7 : Int) + (1 : Int)) → ∃ (x10 : Nat), v9 = (↑x10 : Int) ∧ ((b = b ∧ off = off ∧ false = false ∧ m ≤ m ∧ m ≤ cap ∧ cap ≤ cap) ∧ ∀ (i6 : Nat), i6 <
      m → SVeq (SV.arr 9 1 fun (k : Nat) ↦ SV.int IntKind.u8 (if i6 = Int.toNat (↑x8.1 : Int) then if k = b7 then v8 else if Int.toNat (↑x8.1 : Int) = Int.toNat (↑x8.1 : Int) then if k < b7 then xorI (↑(elimM (swapM (roundsM A n x8.2) x8.2 (pivK (roundsM A n x8.2) n x8.2)) x8.2 x8.1 x8.1 k) : Int) (mulI (↑(elimM (swapM (roundsM A n x8.2) x8.2 (pivK (roundsM A n x8.2) n x8.2)) x8.2 x8.1 x8.1 b1) : Int)
      (if 0 = 0 then if k < b5 then xorI (0 : Int) (mulI v3 (↑(swapM (roundsM A n b1) b1 (pivK (roundsM A n b1) n b1) b1 k) : Int)) else (0 : Int) else (0 : Int))) else (↑(elimM (swapM (roundsM A n x8.2) x8.2 (pivK (roundsM A n x8.2) n x8.2)) x8.2 x8.1 x8.1 k) : Int) else (↑(elimM (swapM (roundsM A n x8.2) x8.2 (pivK (roundsM A n x8.2) n x8.2)) x8.2 x8.1 x8.1 k) : Int) else if i6 = Int.toNat (↑x8.1 :
      Int) then if k < b7 then xorI (↑(elimM (swapM (roundsM A n x8.2) x8.2 (pivK (roundsM A n x8.2) n x8.2)) x8.2 x8.1 x8.1 k) : Int) (mulI (↑(elimM (swapM (roundsM A n x8.2) x8.2 (pivK (roundsM A n x8.2) n x8.2)) x8.2 x8.1 x8.1 b1) : Int) (if 0 = 0 then if k < b5 then xorI (0 : Int) (mulI v3 (↑(swapM (roundsM A n b1) b1 (pivK (roundsM A n b1) n b1) b1 k) : Int)) else (0 : Int) else (0 : Int))) else
      (↑(elimM (swapM (roundsM A n x8.2) x8.2 (pivK (roundsM A n x8.2) n x8.2)) x8.2 x8.1 x8.1 k) : Int) else (↑(elimM (swapM (roundsM A n x8.2) x8.2 (pivK (roundsM A n x8.2) n x8.2)) x8.2 x8.1 i6 k) : Int))) (SV.arr 9 1 fun (k : Nat) ↦ SV.int IntKind.u8 (if i6 = Int.toNat (↑x8.1 : Int) then if k < x10 then xorI (↑(elimM (swapM (roundsM A n x8.2) x8.2 (pivK (roundsM A n x8.2) n x8.2)) x8.2 x8.1 x8.1 k) :
      Int) (mulI (↑(elimM (swapM (roundsM A n x8.2) x8.2 (pivK (roundsM A n x8.2) n x8.2)) x8.2 x8.1 x8.1 b1) : Int) (if 0 = 0 then if k < b5 then xorI (0 : Int) (mulI v3 (↑(swapM (roundsM A n b1) b1 (pivK (roundsM A n b1) n b1) b1 k) : Int)) else (0 : Int) else (0 : Int))) else (↑(elimM (swapM (roundsM A n x8.2) x8.2 (pivK (roundsM A n x8.2) n x8.2)) x8.2 x8.1 x8.1 k) : Int) else (↑(elimM (swapM
      (roundsM A n x8.2) x8.2 (pivK (roundsM A n x8.2) n x8.2)) x8.2 x8.1 i6 k) : Int)))) ∧ x10 ≤ 9 ∧ 9 - x10 < 9 - b7) ∧ True) ∧ True) ∧ (decide ((↑b7 : Int) < (9 : Int)) = false → ∀ (v8 : Int), v8 = IntKind.i64.wrap ((↑x8.1 : Int) + (1 : Int)) → ∃ (x10 : Nat × Nat), v8 = (↑x10.1 : Int) ∧ (↑x8.2 : Int) = (↑x10.2 : Int) ∧ ((b = b ∧ off = off ∧ false = false ∧ m ≤ m ∧ m ≤ cap ∧ cap ≤ cap) ∧ ∀ (i6 : Nat),
      i6 < m → SVeq (SV.arr 9 1 fun (k : Nat) ↦ SV.int IntKind.u8 (if i6 = Int.toNat (↑x8.1 : Int) then if k < b7 then xorI (↑(elimM (swapM (roundsM A n x8.2) x8.2 (pivK (roundsM A n x8.2) n x8.2)) x8.2 x8.1 x8.1 k) : Int) (mulI (↑(elimM (swapM (roundsM A n x8.2) x8.2 (pivK (roundsM A n x8.2) n x8.2)) x8.2 x8.1 x8.1 b1) : Int) (if 0 = 0 then if k < b5 then xorI (0 : Int) (mulI v3 (↑(swapM (roundsM A n
      b1) b1 (pivK (roundsM A n b1) n b1) b1 k) : Int)) else (0 : Int) else (0 : Int))) else (↑(elimM (swapM (roundsM A n x8.2) x8.2 (pivK (roundsM A n x8.2) n x8.2)) x8.2 x8.1 x8.1 k) : Int) else (↑(elimM (swapM (roundsM A n x8.2) x8.2 (pivK (roundsM A n x8.2) n x8.2)) x8.2 x8.1 i6 k) : Int))) (SV.arr 9 1 fun (c : Nat) ↦ SV.int IntKind.u8 (↑(elimM (swapM (roundsM A n x10.2) x10.2 (pivK (roundsM A n
      x10.2) n x10.2)) x10.2 x10.1 i6 c) : Int))) ∧ (x10.1 ≤ n ∧ x10.2 < n) ∧ n - x10.1 < n - x8.1)) ∧ True) ∧ True) ∧ (((↑x8.1 : Int) != (↑b1 : Int)) = false → ∀ (v7 : Int), v7 = IntKind.i64.wrap ((↑x8.1 : Int) + (1 : Int)) → ∃ (x9 : Nat × Nat), v7 = (↑x9.1 : Int) ∧ (↑x8.2 : Int) = (↑x9.2 : Int) ∧ ((b = b ∧ off = off ∧ false = false ∧ m ≤ m ∧ m ≤ cap ∧ cap ≤ cap) ∧ ∀ (i5 : Nat), i5 < m → SVeq (SV.arr 9
      1 fun (c : Nat) ↦ SV.int IntKind.u8 (↑(elimM (swapM (roundsM A n x8.2) x8.2 (pivK (roundsM A n x8.2) n x8.2)) x8.2 x8.1 i5 c) : Int)) (SV.arr 9 1 fun (c : Nat) ↦ SV.int IntKind.u8 (↑(elimM (swapM (roundsM A n x9.2) x9.2 (pivK (roundsM A n x9.2) n x9.2)) x9.2 x9.1 i5 c) : Int))) ∧ (x9.1 ≤ n ∧ x9.2 < n) ∧ n - x9.1 < n - x8.1)) ∧ (decide ((↑x8.1 : Int) < v6) = false → ∀ (v8 : Int), v8 =
      IntKind.i64.wrap ((↑x8.2 : Int) + (1 : Int)) → ∃ (x9 : Nat), v8 = (↑x9 : Int) ∧ ((b = b ∧ off = off ∧ false = false ∧ m ≤ m ∧ m ≤ cap ∧ cap ≤ cap) ∧ ∀ (i5 : Nat), i5 < m → SVeq (SV.arr 9 1 fun (c : Nat) ↦ SV.int IntKind.u8 (↑(elimM (swapM (roundsM A n x8.2) x8.2 (pivK (roundsM A n x8.2) n x8.2)) x8.2 x8.1 i5 c) : Int)) (SV.arr 9 1 fun (c : Nat) ↦ SV.int IntKind.u8 (↑(roundsM A n x9 i5 c) : Int))) ∧
      (x9 ≤ n ∧ goodM A n x9 = true) ∧ n - x9 < n - b1)))) ∧ (decide ((↑b1 : Int) < v1) = false → (∃ (x2 : Nat × Nat × Nat × Nat), (0 : Int) = (↑x2.1 : Int) ∧ SVeq (SV.slice 999999 0 0 [] 0 0 0 0 true) (SV.slice 300 x2.2.1 x2.2.2.1 [] 1 0 x2.1 x2.2.2.2 (Nat.beq x2.1 0)) ∧ (Nat.beq x2.1 0 = true ∧ x2.1 = 0 ∧ x2.2.2.2 = 0) ∧ x2.1 ≤ n ∧ x2.1 ≤ x2.2.2.2 ∧ x2.2.2.2 ≤ 9223372036854775807 ∧ (x2.1 = 0 → x2.2.2.2
      = 0)) ∧ ∀ (x3 : Nat × Nat × Nat × Nat), x3.1 ≤ n ∧ x3.1 ≤ x3.2.2.2 ∧ x3.2.2.2 ≤ 9223372036854775807 ∧ (x3.1 = 0 → x3.2.2.2 = 0) → (decide ((↑x3.1 : Int) < v1) = true → (0 : Int) ≤ (↑x3.1 : Int) ∧ (↑x3.1 : Int) < (↑n : Int) ∧ 0 ≤ v1 ∧ v1 < (↑(9 : Nat) : Int) ∧ (b = b ∧ off = off) ∧ Int.toNat (↑x3.1 : Int) < m ∧ Int.toNat v1 < 9 ∧ ∀ (b3 : Nat), (x3.2.1 = x3.2.1 ∧ x3.2.2.1 = x3.2.2.1) ∧ (Nat.beq x3.1
      0 = true → Nat.beq x3.1 0 = true) ∧ 0 = 0 ∧ x3.1 ≤ x3.1 ∧ x3.2.2.2 ≤ x3.2.2.2 ∧ (x3.1 + 1) * 1 ≤ 140737488355328 ∧ x3.1 + 1 ≤ 9223372036854775807 ∧ 1 ≤ 1 ∧ (b3 = b3 ∧ 0 = 0) ∧ ∀ (b4 b5 b6 : Nat), x3.1 + 1 ≤ b6 → b6 ≤ 9223372036854775807 → (Nat.beq x3.1 0 = true → 1 = 0 → b6 = 0) → ∀ (v2 : Int), v2 = IntKind.i64.wrap ((↑x3.1 : Int) + (1 : Int)) → ∃ (x4 : Nat × Nat × Nat × Nat), v2 = (↑x4.1 : Int) ∧
      (b4 = x4.2.1 ∧ b5 = x4.2.2.1 ∧ 0 = 0 ∧ x3.1 + 1 = x4.1 ∧ b6 = x4.2.2.2 ∧ (Nat.beq x3.1 0 && decide (1 = 0)) = Nat.beq x4.1 0) ∧ ((b4 = x4.2.1 ∧ b5 = x4.2.2.1 ∧ (Nat.beq x3.1 0 && decide (1 = 0)) = Nat.beq x4.1 0 ∧ x4.1 ≤ x3.1 + 1 ∧ x4.1 ≤ x4.2.2.2 ∧ x4.2.2.2 ≤ b6) ∧ ∀ (i2 : Nat), i2 < x4.1 → (if i2 < x3.1 then (↑(solN A n i2) : Int) else (↑(roundsM A n b1 x3.1 (Int.toNat v1)) : Int)) = (↑(solN A n
      i2) : Int)) ∧ (x4.1 ≤ n ∧ x4.1 ≤ x4.2.2.2 ∧ x4.2.2.2 ≤ 9223372036854775807 ∧ (x4.1 = 0 → x4.2.2.2 = 0)) ∧ n - x4.1 < n - x3.1) ∧ (decide ((↑x3.1 : Int) < v1) = false → ∃ (x4 : Nat × Nat × Nat), (x3.2.1 = x4.1 ∧ x3.2.2.1 = x4.2.1 ∧ 0 = 0 ∧ x3.1 = n ∧ x3.2.2.2 = x4.2.2 ∧ Nat.beq x3.1 0 = Nat.beq n 0) ∧ ((x3.2.1 = x4.1 ∧ x3.2.2.1 = x4.2.1 ∧ Nat.beq x3.1 0 = Nat.beq n 0 ∧ n ≤ x3.1 ∧ n ≤ x4.2.2 ∧ x4.2.2
      ≤ x3.2.2.2) ∧ ∀ (i2 : Nat), i2 < n → (↑(solN A n i2) : Int) = (↑(solN A n i2) : Int)) ∧ goodM A n n = true ∧ n ≤ x4.2.2 ∧ x4.2.2 ≤ 9223372036854775807 ∧ (n = 0 → x4.2.2 = 0)))) (by kernel_rfl) ?_
  try simp only [eq_self, true_and, and_true, Nat.le_refl, implies_true, forall_const, Bool.false_eq_true, Bool.true_eq_false, reduceCtorEq, false_imp_iff, true_imp_iff, Int.toNat_zero, Int.toNat_natCast, Nat.zero_lt_one, Int.le_refl, allGet]
  intro v1 hv1
  subst hv1
  refine ⟨⟨0, rfl, ⟨hmc, fun j hj => arr_eqv fun k hk => by rw [hf j hj k hk]; rfl⟩, Nat.zero_le _, rfl⟩, ?_⟩
  rintro i ⟨hi, hg⟩
  refine ⟨fun hlt => ?_, fun hge => ?_⟩
  · have hlt : i < n := by have := of_decide_eq_true hlt; omega
    have hci : ¬ c = i := by omega
    have hR := roundsM_byte hA n i
    intro bx
    simp only [Int.toNat_natCast, if_neg hci]
    obtain ⟨R, hRe⟩ : ∃ R, roundsM A n i = R := ⟨_, rfl⟩
    simp only [hRe] at hR ⊢
    refine ⟨⟨by omega, by omega, by omega, by omega, fun v2 hv2 => ?_⟩, fun hneg => ?_, fun hpos => ?_⟩
    · subst hv2
      refine ⟨⟨0, rfl, Nat.zero_le _, fun u hu => absurd hu (Nat.not_lt_zero u)⟩, ?_⟩
      rintro t ⟨ht, hz⟩
      have ht : t ≤ n - i := ht
      have hz : ∀ u, u < t → R (i + u) i = 0 := fun u hu => by
        have h := hz u hu
        replace h : ((R (sh i u) i : Nat) : Int) = 0 := h
        rw [sh_eq] at h
        omega
      have hno : noneTo (fun t => R (i + t) i != 0) t = true := noneTo_iff.2 fun k hk => by simp [hz k hk]
      refine ⟨fun hlt2 => ?_, fun hge v3 hv3 v4 hv4 => ⟨(), ?_⟩⟩
      · have hlt2 := of_decide_eq_true hlt2
        refine ⟨by omega, by omega, ?_, by omega, by omega, by omega, fun t1 ht1 => ?_⟩
        · show sh i t < m
          rw [sh_eq]
          omega
        · replace ht1 : t1 = (((R (sh i t) i : Nat) : Int) != 0) := ht1
          rw [sh_eq] at ht1
          refine ⟨fun h1 v3 hv3 v4 hv4 => ⟨(), ?_⟩, fun h1 v4 hv4 => ⟨t + 1, hv4.trans (l_succ (by omega)), ⟨?_, fun u hu => ?_⟩, ?_⟩⟩
          · have hp : (R (i + t) i != 0) = true := by
              rw [ht1] at h1
              simp only [bne_iff_ne, ne_eq] at h1 ⊢
              omega
            have hf : pivF R n i = t := fstI_at (p := fun t => R (i + t) i != 0) hno hp (by omega)
            rw [hf, hv4, hv3, w64_id (by omega) (by omega)]
          · show t + 1 ≤ n - i
            omega
          · show ((R (sh i u) i : Nat) : Int) = 0
            rw [sh_eq]
            by_cases q : u = t
            · rw [q]
              rw [ht1] at h1
              simpa using h1
            · rw [hz u (by omega)]; rfl
          · show n - i - (t + 1) < n - i - t
            omega
      · have hge := of_decide_eq_false hge
        obtain rfl : t = n - i := by omega
        have hf : pivF R n i = -1 := fstI_none hno
        rw [hf, hv4, hv3, w64_id (by omega) (by omega)]
    · have hneg := of_decide_eq_true hneg
      cases hgn : goodM A n n with
      | false => rfl
      | true =>
        have h := goodM_mono (i := i + 1) (by omega) hgn
        simp only [goodM, Bool.and_eq_true, hRe] at h
        have := of_decide_eq_true h.2
        omega
    · have hpos := of_decide_eq_false hpos
      have hp0 : 0 ≤ pivF R n i := by omega
      obtain ⟨k1, k2, k3⟩ := pivK_lt hlt hp0
      have hk : ((i : Int) + pivF R n i).toNat = pivK R n i := by unfold pivK; omega
      have hkz : (i : Int) + pivF R n i = (pivK R n i : Nat) := by unfold pivK; omega
      have hsw : ∀ j, SVeq (SV.arr 9 1 fun c => SV.int IntKind.u8 (if j = pivK R n i then (R i c : Int) else if j = i then (R (pivK R n i) c : Int) else (R j c : Int))) (SV.arr 9 1 fun c => SV.int IntKind.u8 (swapM R i (pivK R n i) j c : Nat)) := fun j => arr_eqv fun c hc => by
        unfold swapM
        by_cases q1 : j = pivK R n i
        · rw [if_pos q1, if_pos q1]
        · rw [if_neg q1, if_neg q1]
          by_cases q2 : j = i
          · rw [if_pos q2, if_pos q2]
          · rw [if_neg q2, if_neg q2]
      have hS := swapM_byte hR i (pivK R n i)
      have hSi : swapM R i (pivK R n i) i i ≠ 0 := by
        unfold swapM
        by_cases q : i = pivK R n i
        · rw [if_pos q]; rw [← q] at k3; exact k3
        · rw [if_neg q, if_pos rfl]; exact k3
      simp only [hk]
      refine ⟨⟨by omega, by omega, by omega, by omega, ⟨by omega, by omega, by omega, by omega, by omega, by omega, by omega, by omega, (), ⟨hmc, fun j _ => hsw j⟩, by show (0 : Int) ≤ pivF R n i; exact hp0⟩, by omega, by omega, by omega, by omega, by omega, by omega, by omega, by omega, (), ⟨hmc, fun j _ => hsw j⟩, by show (0 : Int) ≤ pivF R n i; exact hp0⟩, fun _ => ?_⟩
      obtain ⟨S, hSe⟩ : ∃ S, swapM R i (pivK R n i) = S := ⟨_, rfl⟩
      simp only [hSe] at hS hSi ⊢
      refine ⟨by omega, by omega, by omega, by omega, by omega, by omega, by omega, ⟨by omega, by have := hS i i; omega⟩, fun v3 hv3 v4 _ => ⟨by omega, by omega, by omega, ?_⟩⟩
      have e3 : v3 = ((gdiv 1 (S i i) : Nat) : Int) := by
        rw [hv3]
        unfold divI
        rw [if_neg (by omega)]
        rfl
      have l3 := gdiv_lt 1 (S i i)
      subst e3
      have hx : ∀ k, xorI 0 (mulI ((gdiv 1 (S i i) : Nat) : Int) ((S i k : Nat) : Int)) = ((unitR S i k : Nat) : Int) := fun k => by
        show ((Nat.xor 0 (gmul (gdiv 1 (S i i)) (S i k)) : Nat) : Int) = _
        rw [xor0']
        rfl
      simp only [hx, if_true]
      refine ⟨⟨0, rfl, arr_eqv fun k hk => by rw [if_neg (Nat.not_lt_zero k)], Nat.zero_le _⟩, fun l hl => ⟨fun hl9 => ?_, fun hl9 => ?_⟩⟩
      · have hl9 : l < 9 := by have := of_decide_eq_true hl9; omega
        refine ⟨by omega, by omega, by omega, by omega, by omega, ⟨by omega, by omega⟩, ⟨by omega, by have := hS i l; omega⟩, fun v5 hv5 => ⟨by omega, fun v6 hv6 => ⟨by omega, by omega, by omega, fun v7 hv7 => ⟨l + 1, hv7.trans (l_succ (by omega)), arr_eqv fun k hk => ?_, by omega, by omega⟩⟩⟩⟩
        have e6 : v6 = ((unitR S i l : Nat) : Int) := by
          rw [hv6, if_neg (Nat.lt_irrefl l), hv5]
          have h := xor8 (a := 0) (b := unitR S i l) (by omega) (unitR_lt hS i l)
          rw [xor0'] at h
          exact h
        rw [e6]
        by_cases q : k = l
        · rw [if_pos q, if_pos (by omega), q]
        · rw [if_neg q]
          by_cases q2 : k < l
          · rw [if_pos q2, if_pos (by omega)]
          · rw [if_neg q2, if_neg (by omega)]
      · have hl9 : l = 9 := by have := of_decide_eq_false hl9; omega
        subst hl9
        have hxk : ∀ k, k < 9 → (if k < 9 then ((unitR S i k : Nat) : Int) else 0) = ((unitR S i k : Nat) : Int) := fun k hk => if_pos hk
        refine ⟨by omega, by omega, by omega, fun v6 hv6 => ?_⟩
        subst hv6
        refine ⟨⟨(0, i), rfl, rfl, ⟨hmc, fun j hj => arr_eqv fun k hk => ?_⟩, Nat.zero_le _, hlt⟩, ?_⟩
        · simp only [hRe, hSe]
          unfold elimM
          by_cases q : j = i
          · rw [if_pos q, if_pos q, hxk k hk]
          · rw [if_neg q, if_neg q, if_neg (Nat.not_lt_zero j)]
        rintro ⟨j, i'⟩ ⟨hj, hi'⟩ hii
        dsimp only at hj hi' hii
        obtain rfl : i = i' := by omega
        simp only [hRe, hSe]
        have hEi : ∀ r, byteM (elimM S i r) := fun r => elimM_byte hS i r
        refine ⟨fun hjn => ?_, fun hjn => ?_⟩
        · have hjn : j < n := by have := of_decide_eq_true hjn; omega
          refine ⟨fun hne => ?_, fun heq v8 hv8 => ?_⟩
          · have hne : j ≠ i := by
              simp only [bne_iff_ne, ne_eq] at hne
              omega
            have eij : elimM S i j j i = S j i := by
              unfold elimM
              rw [if_neg hne, if_neg (Nat.lt_irrefl j)]
            have ejk : ∀ k, elimM S i j j k = S j k := fun k => by
              unfold elimM
              rw [if_neg hne, if_neg (Nat.lt_irrefl j)]
            simp only [eij, ejk]
            refine ⟨by omega, by omega, by omega, by omega, by omega, by omega, by omega, by omega, ⟨0, rfl, ⟨hmc, fun r hr => arr_eqv fun k hk => ?_⟩, Nat.zero_le _⟩, fun l hl => ⟨fun hl9 => ?_, fun hl9 v9 hv9 => ?_⟩⟩
            · by_cases q : r = j
              · rw [if_pos q, if_neg (Nat.not_lt_zero k), q, ejk]
              · rw [if_neg q]
            · have hl9 : l < 9 := by have := of_decide_eq_true hl9; omega
              have hu := unitR_lt hS i l
              rw [hxk l hl9]
              refine ⟨by omega, by omega, by omega, by omega, by omega, ⟨by omega, by have := hS j i; omega⟩, ⟨by omega, by omega⟩, fun v7 hv7 => ⟨by omega, by omega, fun v8 hv8 => ⟨by omega, by omega, by omega, by omega, fun v9 hv9 => ⟨l + 1, hv9.trans (l_succ (by omega)), ⟨hmc, fun r hr => arr_eqv fun k hk => ?_⟩, by omega, by omega⟩⟩⟩⟩
              have e8 : v8 = ((Nat.xor (S j l) (gmul (S j i) (unitR S i l)) : Nat) : Int) := by
                rw [hv8, if_neg (Nat.lt_irrefl l), hv7]
                exact xor8 (hS j l) (gmul_lt (hS j i))
              by_cases q : r = j
              · simp only [if_pos q]
                by_cases q1 : k = l
                · rw [if_pos q1, if_pos (by omega), q1, e8, if_pos hl9]
                  rfl
                · rw [if_neg q1]
                  by_cases q2 : k < l
                  · rw [if_pos q2, if_pos hk, if_pos (show k < l + 1 by omega)]
                  · rw [if_neg q2, if_neg (by omega)]
              · simp only [if_neg q]
            · have hl9 : l = 9 := by have := of_decide_eq_false hl9; omega
              subst hl9
              refine ⟨(j + 1, i), hv9.trans (l_succ (by omega)), rfl, ⟨hmc, fun r hr => arr_eqv fun k hk => ?_⟩, ⟨by dsimp only; omega, hlt⟩, by dsimp only; omega⟩
              simp only [hRe, hSe]
              by_cases q : r = j
              · rw [if_pos q, if_pos hk, if_pos hk]
                subst q
                unfold elimM
                rw [if_neg hne, if_pos (by omega)]
                rfl
              · rw [if_neg q]
                unfold elimM
                by_cases q1 : r = i
                · rw [if_pos q1, if_pos q1]
                · rw [if_neg q1, if_neg q1]
                  by_cases q2 : r < j
                  · rw [if_pos q2, if_pos (by omega)]
                  · rw [if_neg q2, if_neg (by omega)]
          · have heq : j = i := by
              have : ((j : Int) == (i : Int)) = true := by simpa using heq
              have := eq_of_beq this
              omega
            subst heq
            refine ⟨(j + 1, j), hv8.trans (l_succ (by omega)), rfl, ⟨hmc, fun r hr => arr_eqv fun k hk => ?_⟩, ⟨by dsimp only; omega, hlt⟩, by dsimp only; omega⟩
            simp only [hRe, hSe]
            unfold elimM
            by_cases q1 : r = j
            · rw [if_pos q1, if_pos q1]
            · rw [if_neg q1, if_neg q1]
              by_cases q2 : r < j
              · rw [if_pos q2, if_pos (by omega)]
              · rw [if_neg q2, if_neg (by omega)]
        · have hjn : j = n := by have := of_decide_eq_false hjn; omega
          subst hjn
          intro v8 hv8
          refine ⟨i + 1, hv8.trans (l_succ (by omega)), ⟨hmc, fun r hr => arr_eqv fun k hk => ?_⟩, ⟨by omega, ?_⟩, by omega⟩
          · have e : roundsM A j (i + 1) = elimM S i j := by
              show roundM (roundsM A j i) j i = _
              rw [hRe]
              unfold roundM
              rw [hSe]
            rw [e]
          · simp only [goodM, Bool.and_eq_true, hRe]
            exact ⟨hg, decide_eq_true hp0⟩
  · have hge : i = n := by have := of_decide_eq_false hge; omega
    subst hge
    refine ⟨⟨(0, 0, 0, 0), rfl, nil_eqv rfl rfl rfl, ⟨rfl, rfl, rfl⟩, Nat.zero_le _, Nat.le_refl _, by dsimp only; omega, fun _ => rfl⟩, fun y hy => ⟨fun hlt => ?_, fun hge => ?_⟩⟩
    · have hlt : y.1 < i := by have := of_decide_eq_true hlt; omega
      obtain ⟨y1, y2, y4, y3⟩ := hy
      refine ⟨by omega, by omega, by omega, by omega, by omega, by omega, fun q => q, by omega, by omega, fun c1 c2 c3 h3 h4 v2 hv2 => ⟨(y.1 + 1, c1, c2, c3), hv2.trans (l_succ (by omega)), ⟨rfl, rfl, rfl, rfl, ?_⟩, ⟨⟨rfl, rfl, ?_, Nat.le_refl _, h3, Nat.le_refl _⟩, fun k hk => ?_⟩, ⟨by dsimp only; omega, h3, h4, fun q => by cases q⟩, by dsimp only; omega⟩⟩
      · rw [decide_eq_false (fun h => h), Bool.and_false]; rfl
      · rw [decide_eq_false (fun h => h), Bool.and_false]; rfl
      · dsimp only at hk
        by_cases q : k < y.1
        · rw [if_pos q]
        · rw [if_neg q, show k = y.1 by omega, Int.toNat_natCast]
          rfl
    · have hge : y.1 = i := by have := of_decide_eq_false hge; omega
      obtain ⟨y1, y2, y4, y3⟩ := hy
      refine ⟨(y.2.1, y.2.2.1, y.2.2.2), ⟨rfl, rfl, hge, rfl, by rw [hge]⟩, ⟨rfl, rfl, by rw [hge], by omega, by dsimp only; omega, Nat.le_refl _⟩, hg, by dsimp only; omega, y4, fun q => y3 (by omega)⟩
end Galois
