/-
  OWN WORK. Block: the specification's Decode.
-/
import Derived.Test.YtoefjmachoakpaaGreatDoorCF
namespace Galois
open Go Go.Proofs Eng
set_option linter.unusedVariables false
set_option linter.unusedSimpArgs false
set_option maxHeartbeats 8000000
set_option maxRecDepth 100000

noncomputable def decodeR0 := ecC aMd (fun x => [x.2.1.n ≤ 1000000]) (fun _ (_ : Unit) => True) (fun x _ => .tup [.str (decL x.1 x.2.1.f x.2.1.n), .int .i64 (decN x.1 x.2.1.f x.2.1.n), .int .i64 (decE x.1 x.2.1.f x.2.1.n)]) (fun _ _ => []) 0
noncomputable def ERD : Env := ((((ERA.addP 25 contains).addP 30 differC).addP 29 mendedR).addP 26 locatorR)
theorem ERD_ok : EnvOk Tryz.prog ERD := ((((ERA_ok.addP inside_ok).addP differ_ok).addP mendedR_ok).addP locatorR_ok)
/-- The places with which it is tried, p of the bytes looked at. -/
def plA (b : List UInt8) (own : List Int) (e p : Nat) : List Int := own ++ (plL b (gL own) own.length e p).map fun q => ((q : Nat) : Int)
abbrev ownE (g : Nat) (y : Nat × Nat × Nat) (l : List Int) (z : Bool) : Ent := ⟨g, y.1, y.2.1, 1, l.length, fun k => .int .i64 (gL l k), true, false, y.2.2, 3, z, none⟩
def decRA (b : List UInt8) (er : Nat → Int) (n : Nat) : List An :=
  [.loop ⟨5, Nat × Nat × Nat × Nat, [8, 7], fun y => [.int .i64 (y.1 : Nat), .slice 300 y.2.1 y.2.2.1 [] 1 0 (fstL er y.1).length y.2.2.2 (Nat.beq (fstL er y.1).length 0)], [], fun y => [ownE 300 y.2 (fstL er y.1) (Nat.beq (fstL er y.1).length 0)], fun y => y.1 ≤ n ∧ noneTo (outP er b.length) y.1 = true ∧ (fstL er y.1).length ≤ y.2.2.2 ∧ y.2.2.2 ≤ 9223372036854775807 ∧ ((fstL er y.1).length = 0 → y.2.2.2 = 0), fun y => n - y.1⟩,
   .loop ⟨12, Nat, [9], fun e => [.int .i64 (e : Nat)], [], fun _ => [], fun e => e ≤ 5 ∧ decK b (fstL er n) (5 - e) e = decR b (fstL er n), fun e => 5 - e⟩,
   .loopD 18 (fun fr H => ⟨18, Nat × Nat × Nat × Nat, [13, 12], fun y => [.int .i64 (y.1 : Nat), .slice 301 y.2.1 y.2.2.1 [] 1 0 (plA b (fstL er n) (intOf (slotV fr 9)).toNat y.1).length y.2.2.2 false], [tagS (slotV fr 12)], fun y => [ownE 301 y.2 (plA b (fstL er n) (intOf (slotV fr 9)).toNat y.1) false], fun y => y.1 ≤ b.length ∧ (plA b (fstL er n) (intOf (slotV fr 9)).toNat y.1).length ≤ y.2.2.2 ∧ y.2.2.2 ≤ 9223372036854775807, fun y => b.length - y.1⟩),
   .draw 25 (.take 0 (.take 1 (.take 2 (.take 3 (.take 4 (.take 5 (.take 6 (.take 7 (.take 8 (.take 9 (.take 10 .fin))))))))))) []]
theorem fstL_len (er : Nat → Int) : ∀ n, (fstL er n).length ≤ n
  | 0 => Nat.le_refl _
  | n + 1 => by
    have ih := fstL_len er n
    unfold fstL
    split
    · omega
    · rw [List.length_append]; simp; exact ih
theorem fstL_yes {er : Nat → Int} {n : Nat} (h : inB (gL (fstL er n)) (fstL er n).length (er n) = true) : fstL er (n + 1) = fstL er n := if_pos h
theorem fstL_no {er : Nat → Int} {n : Nat} (h : inB (gL (fstL er n)) (fstL er n).length (er n) = false) : fstL er (n + 1) = fstL er n ++ [er n] := if_neg (by rw [h]; decide)
theorem plA_zero (b : List UInt8) (own : List Int) (e : Nat) : plA b own e 0 = own := by unfold plA plL; simp
theorem plA_succ (b : List UInt8) (own : List Int) (e p : Nat) : plA b own e (p + 1) = if plP b (gL own) own.length e p then plA b own e p ++ [((p : Nat) : Int)] else plA b own e p := by
  unfold plA
  unfold plL
  rw [plL_succ]
  split
  · rw [List.map_append, List.append_assoc]; rfl
  · rfl
theorem plA_len (b : List UInt8) (own : List Int) (e p : Nat) : (plA b own e p).length ≤ own.length + p := by
  unfold plA plL
  rw [List.length_append, List.length_map]
  have := List.length_filter_le (plP b (gL own) own.length e) (List.range p)
  rw [List.length_range] at this
  omega
theorem ev_one (x : Nat) : evalF [1] x = 1 := by
  show Nat.xor 0 (gmul (co [1] 0) (gpow x 0)) = 1
  rw [show gpow x 0 = 1 from rfl, gmul_one (co_lt _ _), xor0']
  rfl
theorem mdRC_eq {b : List UInt8} {pl : Nat → Int} {n : Nat} (h : mdOk b pl n = true) : mdRC b pl n = mdC b pl n := by
  unfold mdOk at h
  rw [Bool.and_eq_true] at h
  have h2 : mdC b pl n = ofN (fixF b pl n n) b.length := by simpa using h.2
  rw [h2]
  unfold mdRC
  rw [h.1, if_pos rfl]
theorem decodeR0_ok : EcOk Tryz.prog 8 decodeR0 := by
  refine ecC_run (fun _ => ERD_ok) Tryz.func8 rfl (by kernel_rfl) [] (fun x => decRA x.1 x.2.1.f x.2.1.n) (fun _ => Nat.le_of_ble_eq_true rfl) (fun ⟨b, ⟨eb, eo, n, c, z, er⟩, ()⟩ hp hw => ?_)
  obtain ⟨p1, _⟩ := hp
  dsimp only at p1
  have hn : n ≤ c ∧ c ≤ 9223372036854775807 := (hw _ (List.mem_cons_of_mem _ (List.mem_cons_self ..))).2
  refine vc_of (q :=
      ∀ (v1 : Int), v1 = (↑(List.length b) : Int) → ∀ (v2 : Int), v2 = (↑(List.length b) : Int) → ∀ (t1 : Bool), (t1 = if decide (v1 ≤ (8 : Int)) = true then true else decide (v2 > (231 : Int))) → (t1 = true → ∃ (x1 : Unit), ([] = decL b er n ∧ (0 : Int) = decN b er n ∧ (2 : Int) = decE b er n) ∧ True) ∧ (t1 = false → (∃ (x2 : Nat × Nat × Nat × Nat), (0 : Int) = (↑x2.1 : Int) ∧ SVeq (SV.slice 999999 0 0
      [] 0 0 0 0 true) (SV.slice 300 x2.2.1 x2.2.2.1 [] 1 0 (List.length (fstL er x2.1)) x2.2.2.2 (Nat.beq (List.length (fstL er x2.1)) 0)) ∧ (Nat.beq (List.length (fstL er x2.1)) 0 = true ∧ List.length (fstL er x2.1) = 0 ∧ x2.2.2.2 = 0) ∧ x2.1 ≤ n ∧ noneTo (outP er (List.length b)) x2.1 = true ∧ List.length (fstL er x2.1) ≤ x2.2.2.2 ∧ x2.2.2.2 ≤ 9223372036854775807 ∧ (List.length (fstL er x2.1) = 0 →
      x2.2.2.2 = 0)) ∧ ∀ (x3 : Nat × Nat × Nat × Nat), x3.1 ≤ n ∧ noneTo (outP er (List.length b)) x3.1 = true ∧ List.length (fstL er x3.1) ≤ x3.2.2.2 ∧ x3.2.2.2 ≤ 9223372036854775807 ∧ (List.length (fstL er x3.1) = 0 → x3.2.2.2 = 0) → ∀ (v3 : Int), v3 = (↑n : Int) → (decide ((↑x3.1 : Int) < v3) = true → (0 : Int) ≤ (↑x3.1 : Int) ∧ (↑x3.1 : Int) < (↑n : Int) ∧ (eb = eb ∧ eo = eo) ∧ Int.toNat (↑x3.1 :
      Int) < n ∧ (decide (er x3.1 < (0 : Int)) = false → (0 : Int) ≤ (↑x3.1 : Int)) ∧ (decide (er x3.1 < (0 : Int)) = false → (↑x3.1 : Int) < (↑n : Int)) ∧ (decide (er x3.1 < (0 : Int)) = false → eb = eb ∧ eo = eo) ∧ (decide (er x3.1 < (0 : Int)) = false → Int.toNat (↑x3.1 : Int) < n) ∧ ∀ (v4 : Int), v4 = (↑(List.length b) : Int) → ∀ (t2 : Bool), (t2 = if decide (er x3.1 < (0 : Int)) = true then true
      else decide (er x3.1 ≥ v4)) → (t2 = true → ∃ (x4 : Unit), ([] = decL b er n ∧ (0 : Int) = decN b er n ∧ (2 : Int) = decE b er n) ∧ True) ∧ (t2 = false → (0 : Int) ≤ (↑x3.1 : Int) ∧ (↑x3.1 : Int) < (↑n : Int) ∧ (eb = eb ∧ eo = eo) ∧ Int.toNat (↑x3.1 : Int) < n ∧ List.length (fstL er x3.1) ≤ List.length (fstL er x3.1) ∧ (∀ (k1 : Nat), k1 < List.length (fstL er x3.1) → true = true) ∧ (x3.2.1 = x3.2.1
      ∧ x3.2.2.1 = x3.2.2.1) ∧ ∀ (t3 : Bool), t3 = inB (gL (fstL er x3.1)) (List.length (fstL er x3.1)) (er x3.1) → ((!t3) = true → (0 : Int) ≤ (↑x3.1 : Int) ∧ (↑x3.1 : Int) < (↑n : Int) ∧ (eb = eb ∧ eo = eo) ∧ Int.toNat (↑x3.1 : Int) < n ∧ ∀ (b1 : Nat), (x3.2.1 = x3.2.1 ∧ x3.2.2.1 = x3.2.2.1) ∧ (Nat.beq (List.length (fstL er x3.1)) 0 = true → Nat.beq (List.length (fstL er x3.1)) 0 = true) ∧ 0 = 0 ∧
      List.length (fstL er x3.1) ≤ List.length (fstL er x3.1) ∧ x3.2.2.2 ≤ x3.2.2.2 ∧ (List.length (fstL er x3.1) + 1) * 8 ≤ 140737488355328 ∧ List.length (fstL er x3.1) + 1 ≤ 9223372036854775807 ∧ 1 ≤ 1 ∧ (b1 = b1 ∧ 0 = 0) ∧ ∀ (b2 b3 b4 : Nat), List.length (fstL er x3.1) + 1 ≤ b4 → b4 ≤ 9223372036854775807 → (Nat.beq (List.length (fstL er x3.1)) 0 = true → 1 = 0 → b4 = 0) → ∀ (v5 : Int), v5 =
      IntKind.i64.wrap ((↑x3.1 : Int) + (1 : Int)) → ∃ (x5 : Nat × Nat × Nat × Nat), v5 = (↑x5.1 : Int) ∧ (b2 = x5.2.1 ∧ b3 = x5.2.2.1 ∧ 0 = 0 ∧ List.length (fstL er x3.1) + 1 = List.length (fstL er x5.1) ∧ b4 = x5.2.2.2 ∧ (Nat.beq (List.length (fstL er x3.1)) 0 && decide (1 = 0)) = Nat.beq (List.length (fstL er x5.1)) 0) ∧ ((b2 = x5.2.1 ∧ b3 = x5.2.2.1 ∧ (Nat.beq (List.length (fstL er x3.1)) 0 && decide
      (1 = 0)) = Nat.beq (List.length (fstL er x5.1)) 0 ∧ List.length (fstL er x5.1) ≤ List.length (fstL er x3.1) + 1 ∧ List.length (fstL er x5.1) ≤ x5.2.2.2 ∧ x5.2.2.2 ≤ b4) ∧ ∀ (i1 : Nat), i1 < List.length (fstL er x5.1) → (if i1 < List.length (fstL er x3.1) then gL (fstL er x3.1) i1 else er x3.1) = gL (fstL er x5.1) i1) ∧ (x5.1 ≤ n ∧ noneTo (outP er (List.length b)) x5.1 = true ∧ List.length (fstL er
      x5.1) ≤ x5.2.2.2 ∧ x5.2.2.2 ≤ 9223372036854775807 ∧ (List.length (fstL er x5.1) = 0 → x5.2.2.2 = 0)) ∧ n - x5.1 < n - x3.1) ∧ ((!t3) = false → ∀ (v5 : Int), v5 = IntKind.i64.wrap ((↑x3.1 : Int) + (1 : Int)) → ∃ (x5 : Nat × Nat × Nat × Nat), v5 = (↑x5.1 : Int) ∧ (x3.2.1 = x5.2.1 ∧ x3.2.2.1 = x5.2.2.1 ∧ 0 = 0 ∧ List.length (fstL er x3.1) = List.length (fstL er x5.1) ∧ x3.2.2.2 = x5.2.2.2 ∧ Nat.beq
      (List.length (fstL er x3.1)) 0 = Nat.beq (List.length (fstL er x5.1)) 0) ∧ ((x3.2.1 = x5.2.1 ∧ x3.2.2.1 = x5.2.2.1 ∧ Nat.beq (List.length (fstL er x3.1)) 0 = Nat.beq (List.length (fstL er x5.1)) 0 ∧ List.length (fstL er x5.1) ≤ List.length (fstL er x3.1) ∧ List.length (fstL er x5.1) ≤ x5.2.2.2 ∧ x5.2.2.2 ≤ x3.2.2.2) ∧ ∀ (i1 : Nat), i1 < List.length (fstL er x5.1) → gL (fstL er x3.1) i1 = gL (fstL
      er x5.1) i1) ∧ (x5.1 ≤ n ∧ noneTo (outP er (List.length b)) x5.1 = true ∧ List.length (fstL er x5.1) ≤ x5.2.2.2 ∧ x5.2.2.2 ≤ 9223372036854775807 ∧ (List.length (fstL er x5.1) = 0 → x5.2.2.2 = 0)) ∧ n - x5.1 < n - x3.1))) ∧ (decide ((↑x3.1 : Int) < v3) = false → (∃ (x4 : Nat), (0 : Int) = (↑x4 : Int) ∧ x4 ≤ 5 ∧ decK b (fstL er n) (5 - x4) x4 = decR b (fstL er n)) ∧ ∀ (b1 : Nat), b1 ≤ 5 ∧ decK b
      (fstL er n) (5 - b1) b1 = decR b (fstL er n) → ∀ (v5 : Int), v5 = (↑(List.length (fstL er x3.1)) : Int) → ∀ (v6 : Int), v6 = IntKind.i64.wrap ((2 : Int) * (↑b1 : Int)) → ∀ (v7 : Int), v7 = IntKind.i64.wrap (v5 + v6) → (decide (v7 ≤ (8 : Int)) = true → List.length (fstL er x3.1) ≤ List.length (fstL er x3.1) ∧ (∀ (k1 : Nat), k1 < List.length (fstL er x3.1) → true = true) ∧ (x3.2.1 = x3.2.1 ∧ x3.2.2.1
      = x3.2.2.1) ∧ 9 ≤ List.length b ∧ List.length b ≤ 231 ∧ (0 : Int) ≤ (↑b1 : Int) ∧ (↑(List.length (fstL er x3.1)) : Int) + (2 : Int) * (↑b1 : Int) ≤ (8 : Int) ∧ (∀ (k2 : Nat), k2 < List.length (fstL er x3.1) → (0 : Int) ≤ gL (fstL er x3.1) k2 ∧ gL (fstL er x3.1) k2 < (↑(List.length b) : Int)) ∧ ∀ (s1 : List UInt8), (s1 = if wrGood b (gL (fstL er x3.1)) (List.length (fstL er x3.1)) b1 = true then
      locL b (gL (fstL er x3.1)) (List.length (fstL er x3.1)) b1 else [(1 : UInt8)]) → ∀ (t2 : Bool), t2 = wrGood b (gL (fstL er x3.1)) (List.length (fstL er x3.1)) b1 → ((!t2) = true → ∀ (v8 : Int), v8 = IntKind.i64.wrap ((↑b1 : Int) + (1 : Int)) → ∃ (x5 : Nat), v8 = (↑x5 : Int) ∧ (x5 ≤ 5 ∧ decK b (fstL er n) (5 - x5) x5 = decR b (fstL er n)) ∧ 5 - x5 < 5 - b1) ∧ ((!t2) = false → ∀ (b2 : Nat), (b2 = b2
      ∧ 0 = 0) ∧ (false = true → false = true) ∧ 0 = 0 ∧ 0 ≤ 0 ∧ 0 ≤ 0 ∧ (0 + List.length (fstL er x3.1)) * 8 ≤ 140737488355328 ∧ 0 + List.length (fstL er x3.1) ≤ 9223372036854775807 ∧ List.length (fstL er x3.1) ≤ List.length (fstL er x3.1) ∧ (x3.2.1 = x3.2.1 ∧ x3.2.2.1 = x3.2.2.1) ∧ ∀ (b3 b4 b5 : Nat), 0 + List.length (fstL er x3.1) ≤ b5 → b5 ≤ 9223372036854775807 → (false = true → List.length (fstL er
      x3.1) = 0 → b5 = 0) → (∃ (x5 : Nat × Nat × Nat × Nat), (0 : Int) = (↑x5.1 : Int) ∧ (b3 = x5.2.1 ∧ b4 = x5.2.2.1 ∧ 0 = 0 ∧ 0 + List.length (fstL er x3.1) = List.length (plA b (fstL er n) b1 x5.1) ∧ b5 = x5.2.2.2 ∧ (false && decide (List.length (fstL er x3.1) = 0)) = false) ∧ ((b3 = x5.2.1 ∧ b4 = x5.2.2.1 ∧ (false && decide (List.length (fstL er x3.1) = 0)) = false ∧ List.length (plA b (fstL er n) b1
      x5.1) ≤ 0 + List.length (fstL er x3.1) ∧ List.length (plA b (fstL er n) b1 x5.1) ≤ x5.2.2.2 ∧ x5.2.2.2 ≤ b5) ∧ ∀ (i1 : Nat), i1 < List.length (plA b (fstL er n) b1 x5.1) → (if i1 < 0 then (0 : Int) else gL (fstL er x3.1) (i1 - 0)) = gL (plA b (fstL er n) b1 x5.1) i1) ∧ x5.1 ≤ List.length b ∧ List.length (plA b (fstL er n) b1 x5.1) ≤ x5.2.2.2 ∧ x5.2.2.2 ≤ 9223372036854775807) ∧ ∀ (x6 : Nat × Nat ×
      Nat × Nat), x6.1 ≤ List.length b ∧ List.length (plA b (fstL er n) b1 x6.1) ≤ x6.2.2.2 ∧ x6.2.2.2 ≤ 9223372036854775807 → ∀ (v9 : Int), v9 = (↑(List.length b) : Int) → (decide ((↑x6.1 : Int) < v9) = true → List.length (fstL er x3.1) ≤ List.length (fstL er x3.1) ∧ (∀ (k3 : Nat), k3 < List.length (fstL er x3.1) → true = true) ∧ (x3.2.1 = x3.2.1 ∧ x3.2.2.1 = x3.2.2.1) ∧ ∀ (t3 : Bool), t3 = inB (gL
      (fstL er x3.1)) (List.length (fstL er x3.1)) (↑x6.1 : Int) → ∀ (t4 : Bool), (t4 = if (!t3) = true then decide ((↑b1 : Int) > (0 : Int)) else false) → ∀ (v10 : Int), v10 = (↑(List.length b) : Int) → ∀ (v11 : Int), v11 = IntKind.i64.wrap (v10 - (1 : Int)) → ∀ (v12 : Int), v12 = IntKind.i64.wrap (v11 - (↑x6.1 : Int)) → ∀ (v13 : Int), v13 = IntKind.i64.wrap ((0 : Int) - v12) → (t4 = true →
      (-9223372036854775808 : Int) ≤ v13 ∧ v13 ≤ 9223372036854775807) ∧ ∀ (v14 : Int), v14 = powI (2 : Int) v13 → (t4 = true → 0 ≤ v14 ∧ v14 ≤ 255) ∧ ∀ (v15 : Int), v15 = (↑(evalF s1 (Int.toNat v14)) : Int) → ∀ (t5 : Bool), (t5 = if t4 = true then v15 == (0 : Int) else false) → (t5 = true → ∀ (b6 : Nat), (x6.2.1 = x6.2.1 ∧ x6.2.2.1 = x6.2.2.1) ∧ (false = true → false = true) ∧ 0 = 0 ∧ List.length (plA b
      (fstL er n) b1 x6.1) ≤ List.length (plA b (fstL er n) b1 x6.1) ∧ x6.2.2.2 ≤ x6.2.2.2 ∧ (List.length (plA b (fstL er n) b1 x6.1) + 1) * 8 ≤ 140737488355328 ∧ List.length (plA b (fstL er n) b1 x6.1) + 1 ≤ 9223372036854775807 ∧ 1 ≤ 1 ∧ (b6 = b6 ∧ 0 = 0) ∧ ∀ (b7 b8 b9 : Nat), List.length (plA b (fstL er n) b1 x6.1) + 1 ≤ b9 → b9 ≤ 9223372036854775807 → (false = true → 1 = 0 → b9 = 0) → ∀ (v16 : Int),
      v16 = IntKind.i64.wrap ((↑x6.1 : Int) + (1 : Int)) → ∃ (x7 : Nat × Nat × Nat × Nat), v16 = (↑x7.1 : Int) ∧ (b7 = x7.2.1 ∧ b8 = x7.2.2.1 ∧ 0 = 0 ∧ List.length (plA b (fstL er n) b1 x6.1) + 1 = List.length (plA b (fstL er n) b1 x7.1) ∧ b9 = x7.2.2.2 ∧ (false && decide (1 = 0)) = false) ∧ ((b7 = x7.2.1 ∧ b8 = x7.2.2.1 ∧ (false && decide (1 = 0)) = false ∧ List.length (plA b (fstL er n) b1 x7.1) ≤
      List.length (plA b (fstL er n) b1 x6.1) + 1 ∧ List.length (plA b (fstL er n) b1 x7.1) ≤ x7.2.2.2 ∧ x7.2.2.2 ≤ b9) ∧ ∀ (i2 : Nat), i2 < List.length (plA b (fstL er n) b1 x7.1) → (if i2 < List.length (plA b (fstL er n) b1 x6.1) then gL (plA b (fstL er n) b1 x6.1) i2 else (↑x6.1 : Int)) = gL (plA b (fstL er n) b1 x7.1) i2) ∧ (x7.1 ≤ List.length b ∧ List.length (plA b (fstL er n) b1 x7.1) ≤ x7.2.2.2 ∧
      x7.2.2.2 ≤ 9223372036854775807) ∧ List.length b - x7.1 < List.length b - x6.1) ∧ (t5 = false → ∀ (v16 : Int), v16 = IntKind.i64.wrap ((↑x6.1 : Int) + (1 : Int)) → ∃ (x7 : Nat × Nat × Nat × Nat), v16 = (↑x7.1 : Int) ∧ (x6.2.1 = x7.2.1 ∧ x6.2.2.1 = x7.2.2.1 ∧ 0 = 0 ∧ List.length (plA b (fstL er n) b1 x6.1) = List.length (plA b (fstL er n) b1 x7.1) ∧ x6.2.2.2 = x7.2.2.2 ∧ false = false) ∧ ((x6.2.1 =
      x7.2.1 ∧ x6.2.2.1 = x7.2.2.1 ∧ false = false ∧ List.length (plA b (fstL er n) b1 x7.1) ≤ List.length (plA b (fstL er n) b1 x6.1) ∧ List.length (plA b (fstL er n) b1 x7.1) ≤ x7.2.2.2 ∧ x7.2.2.2 ≤ x6.2.2.2) ∧ ∀ (i2 : Nat), i2 < List.length (plA b (fstL er n) b1 x7.1) → gL (plA b (fstL er n) b1 x6.1) i2 = gL (plA b (fstL er n) b1 x7.1) i2) ∧ (x7.1 ≤ List.length b ∧ List.length (plA b (fstL er n) b1
      x7.1) ≤ x7.2.2.2 ∧ x7.2.2.2 ≤ 9223372036854775807) ∧ List.length b - x7.1 < List.length b - x6.1)) ∧ (decide ((↑x6.1 : Int) < v9) = false → ∀ (v10 : Int), v10 = (↑(List.length (plA b (fstL er n) b1 x6.1)) : Int) → ∀ (v11 : Int), v11 = (↑(List.length (fstL er x3.1)) : Int) → ∀ (v12 : Int), v12 = IntKind.i64.wrap (v11 + (↑b1 : Int)) → ((v10 != v12) = true → ∀ (v13 : Int), v13 = IntKind.i64.wrap ((↑b1
      : Int) + (1 : Int)) → ∃ (x7 : Nat), v13 = (↑x7 : Int) ∧ (x7 ≤ 5 ∧ decK b (fstL er n) (5 - x7) x7 = decR b (fstL er n)) ∧ 5 - x7 < 5 - b1) ∧ ((v10 != v12) = false → List.length (plA b (fstL er n) b1 x6.1) ≤ List.length (plA b (fstL er n) b1 x6.1) ∧ (∀ (k4 : Nat), k4 < List.length (plA b (fstL er n) b1 x6.1) → true = true) ∧ (x6.2.1 = x6.2.1 ∧ x6.2.2.1 = x6.2.2.1) ∧ 9 ≤ List.length b ∧ List.length b
      ≤ 231 ∧ List.length (plA b (fstL er n) b1 x6.1) ≤ 8 ∧ (∀ (k5 : Nat), k5 < List.length (plA b (fstL er n) b1 x6.1) → (0 : Int) ≤ gL (plA b (fstL er n) b1 x6.1) k5 ∧ gL (plA b (fstL er n) b1 x6.1) k5 < (↑(List.length b) : Int)) ∧ ∀ (s2 : List UInt8), s2 = mdRC b (gL (plA b (fstL er n) b1 x6.1)) (List.length (plA b (fstL er n) b1 x6.1)) → ∀ (t4 : Bool), t4 = mdOk b (gL (plA b (fstL er n) b1 x6.1))
      (List.length (plA b (fstL er n) b1 x6.1)) → (t4 = true → ∀ (v14 : Int), v14 = (↑(List.length s2) : Int) → ∀ (v15 : Int), v15 = IntKind.i64.wrap (v14 - (8 : Int)) → 0 ≤ v15 ∧ v15 ≤ (↑(List.length s2) : Int) ∧ (0 : Int) ≤ (0 : Int) ∧ 0 ≤ v15 ∧ List.length b ≤ List.length s2 ∧ ∀ (v16 : Int), v16 = (↑(difN b s2 (List.length b)) : Int) → ∃ (x7 : Unit), (List.drop (Int.toNat (0 : Int)) (List.take
      (Int.toNat v15) s2) = decL b er n ∧ v16 = decN b er n ∧ (0 : Int) = decE b er n) ∧ True) ∧ (t4 = false → ∀ (v15 : Int), v15 = IntKind.i64.wrap ((↑b1 : Int) + (1 : Int)) → ∃ (x7 : Nat), v15 = (↑x7 : Int) ∧ (x7 ≤ 5 ∧ decK b (fstL er n) (5 - x7) x7 = decR b (fstL er n)) ∧ 5 - x7 < 5 - b1))))) ∧ (decide (v7 ≤ (8 : Int)) = false → ∃ (x5 : Unit), ([] = decL b er n ∧ (0 : Int) = decN b er n ∧ (50 : Int) =
      decE b er n) ∧ True)))) (by kernel_rfl) ?_
  try simp only [eq_self, true_and, and_true, Nat.le_refl, implies_true, forall_const, Bool.false_eq_true, Bool.true_eq_false, reduceCtorEq, false_imp_iff, true_imp_iff, Int.toNat_zero, Int.toNat_natCast, Nat.zero_lt_one, Int.le_refl, allGet]
  have hbad : decB b er n = true → ∃ _ : Unit, [] = decL b er n ∧ 0 = decN b er n ∧ 2 = decE b er n := fun h => ⟨(), by unfold decL; rw [h]; rfl, by unfold decN; rw [h]; rfl, by unfold decE; rw [h]; rfl⟩
  intro v1 h1 v2 h2 t1 ht1
  refine ⟨fun h => hbad ?_, fun h => ?_⟩
  · unfold decB
    rw [h] at ht1
    by_cases q : v1 ≤ 8
    · rw [decide_eq_true (show b.length < 9 by omega)]; rfl
    · rw [if_neg (by rw [decide_eq_false q]; decide)] at ht1
      have := of_decide_eq_true ht1.symm
      rw [decide_eq_true (show 231 < b.length by omega)]
      cases decide (b.length < 9) <;> rfl
  have hl : 9 ≤ b.length ∧ b.length ≤ 231 := by
    rw [h] at ht1
    by_cases q : v1 ≤ 8
    · rw [if_pos (decide_eq_true q)] at ht1; cases ht1
    · rw [if_neg (by rw [decide_eq_false q]; decide)] at ht1
      have := of_decide_eq_false ht1.symm
      omega
  obtain ⟨b1, b2⟩ := hl
  clear ht1 h h1 h2
  refine ⟨⟨(0, 0, 0, 0), rfl, nil_eqv rfl rfl rfl, ⟨rfl, rfl, rfl⟩, Nat.zero_le _, rfl, Nat.le_refl _, by dsimp only; omega, fun _ => rfl⟩, ?_⟩
  rintro ⟨i, a1, a2, a3⟩ ⟨j1, j2, j3, j4, j5⟩ v3 h3
  dsimp only at j1 j2 j3 j4 j5 ⊢
  subst h3
  refine ⟨fun hlt => ?_, fun hge => ?_⟩
  · have hin : i < n := by have := of_decide_eq_true hlt; omega
    have hfl := fstL_len er i
    refine ⟨by omega, by omega, hin, fun _ => by omega, fun _ => by omega, fun _ => hin, fun v4 h4 t2 ht2 => ⟨fun h => hbad ?_, fun h => ?_⟩⟩
    · have ho : outP er b.length i = true := by
        unfold outP
        rw [h] at ht2
        by_cases q : er i < 0
        · rw [decide_eq_true q]; rfl
        · rw [if_neg (by rw [decide_eq_false q]; decide)] at ht2
          have := of_decide_eq_true ht2.symm
          rw [decide_eq_true (show (b.length : Int) ≤ er i by omega)]
          cases decide (er i < 0) <;> rfl
      unfold decB
      have hno : noneTo (outP er b.length) n = false := by
        cases q : noneTo (outP er b.length) n with
        | false => rfl
        | true => have := noneTo_iff.1 q i hin; rw [ho] at this; cases this
      rw [hno]
      cases decide (b.length < 9) <;> cases decide (231 < b.length) <;> rfl
    · have hx : 0 ≤ er i ∧ er i < b.length := by
        rw [h] at ht2
        by_cases q : er i < 0
        · rw [if_pos (decide_eq_true q)] at ht2; cases ht2
        · rw [if_neg (by rw [decide_eq_false q]; decide)] at ht2
          have := of_decide_eq_false ht2.symm
          omega
      have hno : noneTo (outP er b.length) (i + 1) = true := by
        simp only [noneTo, j2, Bool.true_and]
        unfold outP
        rw [decide_eq_false (by omega), decide_eq_false (by omega)]
        rfl
      refine ⟨by omega, by omega, hin, fun t3 ht3 => ⟨fun hb => ?_, fun hb v5 h5 => ?_⟩⟩
      · have hb : inB (gL (fstL er i)) (fstL er i).length (er i) = false := by rw [← ht3]; simpa using hb
        have eO := fstL_no hb
        have lO : (fstL er (i + 1)).length = (fstL er i).length + 1 := by rw [eO, List.length_append]; rfl
        refine ⟨by omega, by omega, hin, fun q => q, by omega, by omega, fun b4 b5 b6 s1 s2 v5 hv5 => ⟨(i + 1, b4, b5, b6), hv5.trans (l_succ (by omega)), ?_⟩⟩
        dsimp only
        rw [lO]
        refine ⟨⟨rfl, rfl, rfl, rfl, pt_beq _⟩, ⟨⟨rfl, rfl, pt_beq _, Nat.le_refl _, s1, Nat.le_refl _⟩, fun k hk => ?_⟩, ⟨by omega, hno, s1, s2, fun q => by omega⟩, by omega⟩
        rw [eO]
        by_cases q : k < (fstL er i).length
        · rw [if_pos q, gL_app1 q]
        · rw [if_neg q, show k = (fstL er i).length by omega, gL_app2]
      · have hb : inB (gL (fstL er i)) (fstL er i).length (er i) = true := by rw [← ht3]; simpa using hb
        have eO := fstL_yes hb
        refine ⟨(i + 1, a1, a2, a3), h5.trans (l_succ (by omega)), ?_⟩
        dsimp only
        rw [eO]
        exact ⟨⟨rfl, rfl, rfl, rfl, rfl⟩, ⟨⟨rfl, rfl, rfl, Nat.le_refl _, j3, Nat.le_refl _⟩, fun k hk => rfl⟩, ⟨by omega, hno, j3, j4, j5⟩, by omega⟩
  have hin : n = i := by have := of_decide_eq_false hge; omega
  subst hin
  clear hge
  have hr : ∀ k, k < n → 0 ≤ er k ∧ er k < (b.length : Int) := fun k hk => by
    have := noneTo_iff.1 j2 k hk
    unfold outP at this
    simp only [Bool.or_eq_false_iff, decide_eq_false_iff_not] at this
    omega
  have hB : decB b er n = false := by
    unfold decB
    rw [decide_eq_false (by omega), decide_eq_false (by omega), j2]
    rfl
  have hfo := fst_own b1 b2 hr
  have hdL : decL b er n = match decR b (fstL er n) with | some c => c.take (b.length - 8) | none => [] := by unfold decL; rw [hB, hfo]; rfl
  have hdN : decN b er n = match decR b (fstL er n) with | some c => ((difN b c b.length : Nat) : Int) | none => 0 := by unfold decN; rw [hB, hfo]; rfl
  have hdE : decE b er n = match decR b (fstL er n) with | some c => 0 | none => 50 := by unfold decE; rw [hB, hfo]; rfl
  have hin : ∀ v ∈ fstL er n, 0 ≤ v ∧ v < (b.length : Int) := fun v hv => by
    obtain ⟨j, hj, e⟩ := (fstL_mem er v n).1 hv
    rw [← e]
    exact hr j hj
  have hOl := fstL_len er n
  obtain ⟨O, hOe⟩ : ∃ O, fstL er n = O := ⟨_, rfl⟩
  simp only [hOe] at hin hOl hdL hdN hdE ⊢
  clear hbad hfo hOe j3 j4 j5
  refine ⟨⟨0, rfl, by omega, rfl⟩, ?_⟩
  rintro e ⟨he5, hdec⟩ v5 h5 v6 h6 v7 h7
  have e7 : v7 = (O.length : Int) + 2 * e := by rw [h7, h5, h6, w64_id (x := 2 * (e : Int)) (by omega) (by omega), w64_id (by omega) (by omega)]
  clear h5 h6 h7
  refine ⟨fun hle => ?_, fun hle => ?_⟩
  · have hle : O.length + 2 * e ≤ 8 := by have := of_decide_eq_true hle; omega
    have hdec2 : decR b O = match decTry b O e with | some c => some c | none => decK b O (5 - (e + 1)) (e + 1) := by
      rw [← hdec, show 5 - e = (5 - (e + 1)) + 1 by omega]
      show (if O.length + 2 * e ≤ 8 then _ else none) = _
      rw [if_pos hle]
      cases decTry b O e <;> rfl
    have hnext : decTry b O e = none → ∀ v : Int, v = IntKind.i64.wrap ((e : Int) + 1) → ∃ x : Nat, v = (x : Int) ∧ (x ≤ 5 ∧ decK b O (5 - x) x = decR b O) ∧ 5 - x < 5 - e := fun h v hv => ⟨e + 1, hv.trans (l_succ (by omega)), ⟨by omega, by rw [hdec2, h]⟩, by omega⟩
    refine ⟨b1, b2, by omega, by omega, fun k hk => hin _ (gL_mem hk), fun s1 hs1 t2 ht2 => ⟨fun hg => ?_, fun hg => ?_⟩⟩
    · have hg : wrGood b (gL O) O.length e = false := by rw [← ht2]; simpa using hg
      have ht : decTry b O e = none := by unfold decTry wrOk; rw [hg]; rfl
      exact hnext ht
    have hg : wrGood b (gL O) O.length e = true := by rw [← ht2]; simpa using hg
    rw [hg, if_pos rfl] at hs1
    clear ht2
    simp only [Nat.zero_add, Nat.not_lt_zero, if_false, Nat.sub_zero]
    refine ⟨by omega, by omega, fun c1 c2 c3 g1 g2 => ⟨⟨(0, c1, c2, c3), rfl, ⟨rfl, rfl, by rw [plA_zero], rfl, rfl⟩, ⟨⟨rfl, rfl, rfl, by rw [plA_zero]; exact Nat.le_refl _, by rw [plA_zero]; exact g1, Nat.le_refl _⟩, fun k hk => by rw [plA_zero]⟩, Nat.zero_le _, by rw [plA_zero]; exact g1, g2⟩, ?_⟩⟩
    rintro ⟨p, y1, y2, y3⟩ ⟨k1, k2, k3⟩ v9 h9
    dsimp only at k1 k2 k3 ⊢
    subst h9
    have hpl := plA_len b O e p
    refine ⟨fun hlt t3 ht3 t4 ht4 v10 h10 v11 h11 v12 h12 v13 h13 => ?_, fun hge v10 h10 v11 h11 v12 h12 => ?_⟩
    · have hlt : p < b.length := by have := of_decide_eq_true hlt; omega
      have e11 : v11 = (b.length : Int) - 1 := by rw [h11, h10, w64_id (by omega) (by omega)]
      have e12 : v12 = (b.length : Int) - 1 - p := by rw [h12, e11, w64_id (by omega) (by omega)]
      have e13 : v13 = (p : Int) + 1 - b.length := by rw [h13, e12, w64_id (by omega) (by omega)]; omega
      refine ⟨fun _ => ⟨by omega, by omega⟩, fun v14 h14 => ?_⟩
      have hpw := pwN_lt v13
      rw [powI_eq] at h14
      refine ⟨fun _ => ⟨by omega, by omega⟩, fun v15 h15 t5 ht5 => ?_⟩
      have h5t : t5 = plP b (gL O) O.length e p := by
        rw [ht5, ht4, ht3, h15, h14, Int.toNat_natCast, hs1]
        unfold plP
        rw [← e13]
        have hbe : ∀ N : Nat, (((N : Nat) : Int) == 0) = (N == 0) := fun N => by
          cases N with
          | zero => rfl
          | succ N => rfl
        rw [hbe]
        by_cases q : (e : Int) > 0
        · rw [decide_eq_true q]
          cases inB (gL O) O.length (p : Nat) <;> simp
        · have q0 : e = 0 := by omega
          rw [decide_eq_false q]
          subst q0
          have h1 : evalF (locL b (gL O) O.length 0) (pwN v13) = 1 := ev_one _
          rw [h1]
          cases inB (gL O) O.length (p : Nat) <;> simp
      clear ht5 ht4 h15 h14 ht3
      have hsc := plA_succ b O e p
      rw [← h5t] at hsc
      refine ⟨fun h => ?_, fun h v16 h16 => ?_⟩
      · rw [h, if_pos rfl] at hsc
        have hsl : (plA b O e (p + 1)).length = (plA b O e p).length + 1 := by rw [hsc, List.length_append]; rfl
        refine ⟨by omega, by omega, fun d1 d2 d3 g3 g4 v16 h16 => ⟨(p + 1, d1, d2, d3), h16.trans (l_succ (by omega)), ?_⟩⟩
        dsimp only
        rw [hsl]
        refine ⟨⟨rfl, rfl, rfl, rfl, rfl⟩, ⟨⟨rfl, rfl, rfl, Nat.le_refl _, g3, Nat.le_refl _⟩, fun k hk => ?_⟩, ⟨by omega, g3, g4⟩, by omega⟩
        rw [hsc]
        by_cases q : k < (plA b O e p).length
        · rw [if_pos q, gL_app1 q]
        · rw [if_neg q, show k = (plA b O e p).length by omega, gL_app2]
      · rw [h, if_neg (by decide)] at hsc
        refine ⟨(p + 1, y1, y2, y3), h16.trans (l_succ (by omega)), ?_⟩
        dsimp only
        rw [hsc]
        repeat' apply And.intro
        all_goals first | rfl | exact Nat.le_refl _ | assumption | omega | (intro k hk; rfl)
    · have hge : b.length = p := by have := of_decide_eq_false hge; omega
      subst hge
      have hA : plA b O e b.length = allL2 b O e := rfl
      simp only [hA] at h10 hpl k2 ⊢
      have hal := allL2_len b O e
      have hallin := allL2_in (b := b) (e := e) hin
      have e12 : v12 = ((O.length + e : Nat) : Int) := by rw [h12, h11, w64_id (by omega) (by omega)]; omega
      have hwr : wrOk b (gL O) O.length e = decide ((plL b (gL O) O.length e b.length).length = e) := by unfold wrOk; rw [hg, Bool.true_and]
      refine ⟨fun hne => ?_, fun heq => ?_⟩
      · have hne : v10 ≠ v12 := by simpa using hne
        have ht : decTry b O e = none := by
          unfold decTry
          rw [hwr, decide_eq_false (by omega)]
          rfl
        exact hnext ht
      have heq : v10 = v12 := by simpa using heq
      have hw : wrOk b (gL O) O.length e = true := by rw [hwr]; exact decide_eq_true (by omega)
      refine ⟨b1, b2, by omega, fun k hk => hallin _ (gL_mem hk), fun s2 hs2 t4 ht4 => ⟨fun hm v14 h14 v15 h15 => ?_, fun hm => ?_⟩⟩
      · have hm : mdOk b (gL (allL2 b O e)) (allL2 b O e).length = true := by rw [← ht4]; exact hm
        rw [mdRC_eq hm] at hs2
        have hs1l : s2.length = b.length := by rw [hs2]; exact mdOk_len hm
        have ht : decTry b O e = some s2 := by unfold decTry; rw [hw, hm, hs2]; rfl
        have hR : decR b O = some s2 := by rw [hdec2, ht]
        have e15 : v15 = ((b.length - 8 : Nat) : Int) := by rw [h15, h14, w64_id (by omega) (by omega)]; omega
        subst e15
        refine ⟨by omega, by omega, by omega, by omega, fun v16 h16 => ⟨(), ?_⟩⟩
        rw [hdL, hdN, hdE, hR]
        exact ⟨rfl, h16, rfl⟩
      · have hm : mdOk b (gL (allL2 b O e)) (allL2 b O e).length = false := by rw [← ht4]; exact hm
        have ht : decTry b O e = none := by unfold decTry; rw [hw, hm]; rfl
        exact hnext ht
  · have hle : ¬ O.length + 2 * e ≤ 8 := by have := of_decide_eq_false hle; omega
    have : decR b O = none := by
      rw [← hdec]
      cases hk : 5 - e with
      | zero => rfl
      | succ k =>
        show (if O.length + 2 * e ≤ 8 then _ else none) = _
        rw [if_neg hle]
    rw [hdL, hdN, hdE, this]
    exact ⟨(), rfl, rfl, rfl⟩
theorem decodeR_ok : PcOk Tryz.prog 8 decode := pc_of_ec decodeR0_ok (by intro args H; rcases args with _ | ⟨_, _ | ⟨_, _ | ⟨_, _⟩⟩⟩ <;> rfl) (fun x _ => ⟨Nat.le_trans (decL_len _ _ _) (by omega), trivial, trivial, trivial⟩)
end Galois
