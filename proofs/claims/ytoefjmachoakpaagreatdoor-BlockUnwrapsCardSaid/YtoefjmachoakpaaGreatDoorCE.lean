/-
  OWN WORK. Block: the specification's solve, in place; mended.
-/
import Derived.Test.YtoefjmachoakpaaGreatDoorCD
namespace Galois
open Go Go.Proofs Eng
set_option linter.unusedVariables false
set_option linter.unusedSimpArgs false
set_option maxHeartbeats 8000000
set_option maxRecDepth 100000

/-- Where the rows lie. -/
abbrev RP := Nat → Nat × Nat × Nat
abbrev rsRow (g gf w k : Nat) (A : Nat × Nat × Nat) (P : RP) : Ent := ⟨g, A.1, A.2.1, 1, k, fun i => .slice gf (P i).1 (P i).2.1 [.elt i 0] 1 0 w (P i).2.2 false, true, false, A.2.2, 54, Nat.beq k 0, none⟩
abbrev rsFam (gf w k : Nat) (F : Mat) (P : RP) : Ent := ⟨gf, 0, 0, 0, k, fun i => .arr w 1 fun c => .int .u8 (F i c : Nat), true, false, 0, 5, false, some fun i => ((P i).1, (P i).2.1)⟩
abbrev rsS (g k : Nat) (A : Nat × Nat × Nat) : SV := .slice g A.1 A.2.1 [] 1 0 k A.2.2 (Nat.beq k 0)
/-- No two rows lie in one block. -/
def disP (n : Nat) (P : RP) : Prop := ∀ i j, i < n → j < n → i ≠ j → (P i).1 ≠ (P j).1
def swR (M : Mat) (n i : Nat) : Mat := swapM (roundsM M n i) i (pivK (roundsM M n i) n i)
/-- What is said of solve's places. -/
def solveRA (M : Mat) (n : Nat) : List An :=
  [.loopD 3 (fun fr H => ⟨3, Nat × RP, [5], fun y => [.int .i64 (y.1 : Nat)], [300, 301], fun y => [{ entG H 300 with get := fun i => .slice 301 (y.2 i).1 (y.2 i).2.1 [.elt i 0] 1 0 (n + 1) (y.2 i).2.2 false }, rsFam 301 (n + 1) n (roundsM M n y.1) y.2], fun y => y.1 ≤ n ∧ goodM M n y.1 = true ∧ disP n y.2, fun y => n - y.1⟩),
   .loopD 6 (fun fr H => ⟨6, Nat, [6], fun k => [.int .i64 (k : Nat)], [], fun _ => [], fun k => k ≤ n ∧ (intOf (slotV fr 5)).toNat ≤ k ∧ ∀ u, (intOf (slotV fr 5)).toNat ≤ u → u < k → roundsM M n (intOf (slotV fr 5)).toNat u (intOf (slotV fr 5)).toNat = 0, fun k => n - k⟩),
   .draw 10 (.take 0 (.take 1 (.take 2 (.take 3 (.take 4 (.take 5 (.take 6 (.take 8 (.take 9 (.take 10 (.br 7 (.br 11 (.take 12 (.br 13 (.take 14 (.br 15 .fin .stop)) .stop)) .stop) (.br 11 (.br 7 (.take 12 (.br 13 (.take 14 (.br 15 .fin .stop)) .stop)) .stop) .stop)))))))))))) [0],
   .joinD 11 (fun fr H => ⟨11, RP, [], fun _ => [], [300, 301], fun P => [{ entG H 300 with get := fun i => .slice 301 (P i).1 (P i).2.1 [.elt i 0] 1 0 (n + 1) (P i).2.2 false }, rsFam 301 (n + 1) n (swR M n (intOf (slotV fr 5)).toNat) P], fun P => 0 ≤ pivF (roundsM M n (intOf (slotV fr 5)).toNat) n (intOf (slotV fr 5)).toNat ∧ disP n P, fun _ => 0⟩) 400,
   .loopD 13 (fun fr H => ⟨13, Nat, [9], fun c => [.int .i64 (c : Nat)], [301], fun c => [{ entG H 301 with get := fun r => .arr (n + 1) 1 fun t => .int .u8 ((if r = (intOf (slotV fr 5)).toNat ∧ t < c then unitR (swR M n (intOf (slotV fr 5)).toNat) (intOf (slotV fr 5)).toNat t else swR M n (intOf (slotV fr 5)).toNat r t : Nat)) }], fun c => c ≤ n + 1, fun c => n + 1 - c⟩),
   .draw 15 (.take 0 (.take 1 (.take 2 (.take 3 (.take 4 (.take 5 (.take 6 (.take 7 (.take 8 (.take 9 (.take 10 (.take 12 (.br 11 (.take 13 (.take 14 (.br 15 .fin .stop))) .stop))))))))))))) [100301],
   .loopD 17 (fun fr H => ⟨17, Nat, [10], fun r => [.int .i64 (r : Nat)], [301], fun r => [{ entG H 301 with get := fun j => .arr (n + 1) 1 fun t => .int .u8 (elimM (swR M n (intOf (slotV fr 5)).toNat) (intOf (slotV fr 5)).toNat r j t : Nat) }], fun r => r ≤ n, fun r => n - r⟩),
   .loopD 21 (fun fr H => ⟨21, Nat, [12], fun c => [.int .i64 (c : Nat)], [301], fun c => [{ entG H 301 with get := fun j => .arr (n + 1) 1 fun t => .int .u8 ((if j = (intOf (slotV fr 10)).toNat ∧ t < c then elimM (swR M n (intOf (slotV fr 5)).toNat) (intOf (slotV fr 5)).toNat ((intOf (slotV fr 10)).toNat + 1) j t else elimM (swR M n (intOf (slotV fr 5)).toNat) (intOf (slotV fr 5)).toNat (intOf (slotV fr 10)).toNat j t : Nat)) }], fun c => c ≤ n + 1 ∧ ((intOf (slotV fr 10)).toNat = (intOf (slotV fr 5)).toNat → c = 0), fun c => n + 1 - c⟩),
   .draw 23 (.take 0 (.take 1 (.take 2 (.take 3 (.take 4 (.take 5 (.take 6 (.take 7 (.take 8 (.take 9 (.take 10 (.take 12 (.take 13 (.take 14 (.take 15 (.take 16 (.take 17 (.take 18 (.br 11 (.br 19 (.take 20 (.take 21 (.take 22 (.br 23 .fin .stop)))) .stop) (.br 19 (.take 20 (.br 11 (.take 21 (.take 22 (.br 23 .fin .stop))) .stop)) .stop)))))))))))))))))))) [100301],
   .loop ⟨26, Nat × Nat × Nat × Nat, [14, 13], fun y => [.int .i64 (y.1 : Nat), .slice 303 y.2.1 y.2.2.1 [] 1 0 y.1 y.2.2.2 (Nat.beq y.1 0)], [], fun y => [⟨303, y.2.1, y.2.2.1, 1, y.1, fun k => .int .u8 (solN M n k : Nat), true, false, y.2.2.2, 5, Nat.beq y.1 0, none⟩], fun y => y.1 ≤ n ∧ y.1 ≤ y.2.2.2 ∧ y.2.2.2 ≤ 9223372036854775807 ∧ (y.1 = 0 → y.2.2.2 = 0), fun y => n - y.1⟩]
/-- Two rows change their places. -/
def swP (P : RP) (i k : Nat) : RP := fun j => if j = k then P i else if j = i then P k else P j
theorem sw_row (P : RP) (w i k j : Nat) : eqv (if j = k then SV.slice 301 (P i).1 (P i).2.1 [PS.elt i 0] 1 0 w (P i).2.2 false else if j = i then SV.slice 301 (P k).1 (P k).2.1 [PS.elt k 0] 1 0 w (P k).2.2 false else SV.slice 301 (P j).1 (P j).2.1 [PS.elt j 0] 1 0 w (P j).2.2 false) (SV.slice 301 (swP P i k j).1 (swP P i k j).2.1 [PS.elt j 0] 1 0 w (swP P i k j).2.2 false) := by
  unfold swP
  by_cases q1 : j = k
  · rw [if_pos q1, if_pos q1]; exact ⟨rfl, rfl, rfl, rfl, rfl, rfl⟩
  · rw [if_neg q1, if_neg q1]
    by_cases q2 : j = i
    · rw [if_pos q2, if_pos q2]; exact ⟨rfl, rfl, rfl, rfl, rfl, rfl⟩
    · rw [if_neg q2, if_neg q2]; exact ⟨rfl, rfl, rfl, rfl, rfl, rfl⟩
theorem sw_fam {M : Mat} {n i k : Nat} (P : RP) (hi : i < n) (hk : k < n) (hp : pivK (roundsM M n i) n i = k) (j : Nat) (hj : j < n) : ∃ x, x < n ∧ ((P x).1, (P x).2.1) = ((swP P i k j).1, (swP P i k j).2.1) ∧ ∀ c, c < n + 1 → ((roundsM M n i x c : Nat) : Int) = ((swR M n i j c : Nat) : Int) := by
  unfold swP swR swapM
  rw [hp]
  by_cases q1 : j = k
  · exact ⟨i, hi, by rw [if_pos q1], fun c _ => by rw [if_pos q1]⟩
  · by_cases q2 : j = i
    · exact ⟨k, hk, by rw [if_neg q1, if_pos q2], fun c _ => by rw [if_neg q1, if_pos q2]⟩
    · exact ⟨j, hj, by rw [if_neg q1, if_neg q2], fun c _ => by rw [if_neg q1, if_neg q2]⟩
theorem sw_dis {n i k : Nat} {P : RP} (h : disP n P) (hi : i < n) (hk : k < n) : disP n (swP P i k) := by
  intro a b ha hb hne
  unfold swP
  by_cases a1 : a = k
  · rw [if_pos a1]
    by_cases b1 : b = k
    · omega
    · rw [if_neg b1]
      by_cases b2 : b = i
      · rw [if_pos b2]; exact h _ _ hi hk (by omega)
      · rw [if_neg b2]; exact h _ _ hi hb (by omega)
  · rw [if_neg a1]
    by_cases a2 : a = i
    · rw [if_pos a2]
      by_cases b1 : b = k
      · rw [if_pos b1]; exact h _ _ hk hi (by omega)
      · rw [if_neg b1]
        by_cases b2 : b = i
        · omega
        · rw [if_neg b2]; exact h _ _ hk hb (by omega)
    · rw [if_neg a2]
      by_cases b1 : b = k
      · rw [if_pos b1]; exact h _ _ ha hi (by omega)
      · rw [if_neg b1]
        by_cases b2 : b = i
        · rw [if_pos b2]; exact h _ _ ha hk (by omega)
        · rw [if_neg b2]; exact h _ _ ha hb hne
theorem swR_byte {M : Mat} (h : byteM M) (n i : Nat) : byteM (swR M n i) := swapM_byte (roundsM_byte h n i) _ _
theorem el_self (S : Mat) (i r t : Nat) : elimM S i r i t = unitR S i t := by unfold elimM; rw [if_pos rfl]
theorem el_ge {S : Mat} {i r j : Nat} (h : j ≠ i) (hr : ¬ j < r) (t : Nat) : elimM S i r j t = S j t := by unfold elimM; rw [if_neg h, if_neg hr]
theorem el_lt {S : Mat} {i r j : Nat} (h : j ≠ i) (hr : j < r) (t : Nat) : elimM S i r j t = Nat.xor (S j t) (gmul (S j i) (unitR S i t)) := by unfold elimM; rw [if_neg h, if_pos hr]
theorem el_step {S : Mat} {i r j : Nat} (h : j ≠ r ∨ j = i) (t : Nat) : elimM S i (r + 1) j t = elimM S i r j t := by
  by_cases q : j = i
  · subst q; rw [el_self, el_self]
  · have h : j ≠ r := by omega
    by_cases q2 : j < r
    · rw [el_lt q q2, el_lt q (by omega)]
    · rw [el_ge q q2, el_ge q (by omega)]
def mdRC (b : List UInt8) (pl : Nat → Int) (n : Nat) : List UInt8 := if mdGood b pl n then ofN (fixF b pl n n) b.length else []
noncomputable def mendedR0 := ecC aMd mdPre (fun _ (_ : Unit) => True) (fun x _ => .tup [.str (mdRC x.1 x.2.1.f x.2.1.n), .bool (mdOk x.1 x.2.1.f x.2.1.n)]) (fun _ _ => []) 0
noncomputable def mendedR := pcOf aMd mdPre (fun x => .tup [.str (mdRC x.1 x.2.1.f x.2.1.n), .bool (mdOk x.1 x.2.1.f x.2.1.n)])
noncomputable def ERM (M : Mat) (n : Nat) : Env := (ERA.addP 55 wholeC).inl 52 Tryz.f52 fun _ _ => solveRA M n
theorem ERM_ok (M : Mat) (n : Nat) : EnvOk Tryz.prog (ERM M n) := (ERA_ok.addP whole_ok).inl _ Tryz.func52 rfl (by kernel_rfl)
def mendRA (b : List UInt8) (pl : Nat → Int) (n : Nat) : List An :=
  [.loop ⟨4, Nat × (Nat × Nat × Nat) × RP, [8, 7], fun y => [.int .i64 (y.1 : Nat), rsS 300 y.1 y.2.1], [], fun y => [rsRow 300 301 (n + 1) y.1 y.2.1 y.2.2, rsFam 301 (n + 1) y.1 (mendM b pl n) y.2.2], fun y => y.1 ≤ n ∧ y.1 ≤ y.2.1.2.2 ∧ y.2.1.2.2 ≤ 9223372036854775807 ∧ (y.1 = 0 → y.2.1.2.2 = 0) ∧ disP y.1 y.2.2, fun y => n - y.1⟩, .apart 5,
   .loopD 8 (fun fr H => ⟨8, Nat × Nat × Nat × Nat, [10, 9], fun y => [.int .i64 (y.1 : Nat), .slice 302 y.2.1 y.2.2.1 [] 1 0 y.1 y.2.2.2 (Nat.beq y.1 0)], [], fun y => [⟨302, y.2.1, y.2.2.1, 1, y.1, fun c => .int .u8 (mendM b pl n (intOf (slotV fr 8)).toNat c : Nat), true, false, y.2.2.2, 5, Nat.beq y.1 0, none⟩], fun y => y.1 ≤ n ∧ y.1 ≤ y.2.2.2 ∧ y.2.2.2 ≤ 9223372036854775807 ∧ (y.1 = 0 → y.2.2.2 = 0), fun y => n - y.1⟩),
   .loopD 17 (fun fr H => ⟨17, Nat, [14], fun i => [.int .i64 (i : Nat)], [tagS (slotV fr 13)], fun i => [{ entG H (tagS (slotV fr 13)) with get := fun k => .int .u8 (fixF b pl n i k : Nat) }], fun i => i ≤ n, fun i => n - i⟩),
   .draw 19 (.take 0 (.take 1 (.take 2 (.take 3 (.take 4 (.take 5 (.take 6 (.take 7 (.take 8 (.take 9 (.take 10 (.take 12 (.take 13 (.take 14 (.take 15 (.br 11 (.take 16 (.take 17 (.br 18 .fin .stop))) .stop)))))))))))))))) [13],
   .draw 20 (.take 0 (.take 1 (.take 2 (.take 3 (.take 4 (.take 5 (.take 6 .fin))))))) []]
theorem take_ofN (F : Nat → Nat) {m n : Nat} (h : m ≤ n) : (ofN F n).take m = ofN F m := by
  unfold ofN Byt.of
  rw [← List.map_take, List.take_range, Nat.min_eq_left h]
theorem mendedR0_ok : EcOk Tryz.prog 29 mendedR0 := by
  refine ecC_run (fun x => ERM_ok (mendM x.1 x.2.1.f x.2.1.n) x.2.1.n) Tryz.func29 rfl (by kernel_rfl) [] (fun x => mendRA x.1 x.2.1.f x.2.1.n) (fun _ => Nat.le_of_ble_eq_true rfl) (fun ⟨b, ⟨eb, eo, n, c, z, pl⟩, ()⟩ hp hw => ?_)
  obtain ⟨p1, p2, p3, p4, _⟩ := hp
  dsimp only at p1 p2 p3 p4
  have hn : n ≤ c ∧ c ≤ 9223372036854775807 := (hw _ (List.mem_cons_of_mem _ (List.mem_cons_self ..))).2
  refine vc_of (q :=
      ∀ (v1 : Int), v1 = (↑n : Int) → (∃ (x1 : Nat × (Nat × Nat × Nat) × (Nat → Nat × Nat × Nat)), (0 : Int) = (↑x1.1 : Int) ∧ SVeq (SV.slice 999999 0 0 [] 0 0 0 0 true) (SV.slice 300 x1.2.1.1 (x1.2.1.2.1) [] 1 0 x1.1 (x1.2.1.2.2) (Nat.beq x1.1 0)) ∧ (Nat.beq x1.1 0 = true ∧ x1.1 = 0 ∧ x1.2.1.2.2 = 0) ∧ (∀ (i1 : Nat), i1 < x1.1 → False) ∧ x1.1 ≤ n ∧ x1.1 ≤ x1.2.1.2.2 ∧ x1.2.1.2.2 ≤ 9223372036854775807 ∧
      (x1.1 = 0 → x1.2.1.2.2 = 0) ∧ disP x1.1 x1.2.2) ∧ ∀ (x2 : Nat × (Nat × Nat × Nat) × (Nat → Nat × Nat × Nat)), x2.1 ≤ n ∧ x2.1 ≤ x2.2.1.2.2 ∧ x2.2.1.2.2 ≤ 9223372036854775807 ∧ (x2.1 = 0 → x2.2.1.2.2 = 0) ∧ disP x2.1 x2.2.2 → (decide ((↑x2.1 : Int) < v1) = true → (∃ (x3 : Nat × Nat × Nat × Nat), (0 : Int) = (↑x3.1 : Int) ∧ SVeq (SV.slice 999999 0 0 [] 0 0 0 0 true) (SV.slice 302 x3.2.1 x3.2.2.1 [] 1
      0 x3.1 x3.2.2.2 (Nat.beq x3.1 0)) ∧ (Nat.beq x3.1 0 = true ∧ x3.1 = 0 ∧ x3.2.2.2 = 0) ∧ x3.1 ≤ n ∧ x3.1 ≤ x3.2.2.2 ∧ x3.2.2.2 ≤ 9223372036854775807 ∧ (x3.1 = 0 → x3.2.2.2 = 0)) ∧ ∀ (x4 : Nat × Nat × Nat × Nat), x4.1 ≤ n ∧ x4.1 ≤ x4.2.2.2 ∧ x4.2.2.2 ≤ 9223372036854775807 ∧ (x4.1 = 0 → x4.2.2.2 = 0) → (decide ((↑x4.1 : Int) < v1) = true → ∀ (v2 : Int), v2 = (↑(List.length b) : Int) → ∀ (v3 : Int), v3
      = IntKind.i64.wrap (v2 - (1 : Int)) → (0 : Int) ≤ (↑x4.1 : Int) ∧ (↑x4.1 : Int) < (↑n : Int) ∧ (eb = eb ∧ eo = eo) ∧ Int.toNat (↑x4.1 : Int) < n ∧ ∀ (v4 : Int), v4 = IntKind.i64.wrap (v3 - pl x4.1) → ∀ (v5 : Int), v5 = IntKind.i64.wrap ((↑x2.1 : Int) * v4) → ((-9223372036854775808 : Int) ≤ v5 ∧ v5 ≤ 9223372036854775807) ∧ ∀ (v6 : Int), v6 = powI (2 : Int) v5 → ∀ (b1 : Nat), (x4.2.1 = x4.2.1 ∧
      x4.2.2.1 = x4.2.2.1) ∧ (Nat.beq x4.1 0 = true → Nat.beq x4.1 0 = true) ∧ 0 = 0 ∧ x4.1 ≤ x4.1 ∧ x4.2.2.2 ≤ x4.2.2.2 ∧ (x4.1 + 1) * 1 ≤ 140737488355328 ∧ x4.1 + 1 ≤ 9223372036854775807 ∧ 1 ≤ 1 ∧ (b1 = b1 ∧ 0 = 0) ∧ ∀ (b2 b3 b4 : Nat), x4.1 + 1 ≤ b4 → b4 ≤ 9223372036854775807 → (Nat.beq x4.1 0 = true → 1 = 0 → b4 = 0) → ∀ (v7 : Int), v7 = IntKind.i64.wrap ((↑x4.1 : Int) + (1 : Int)) → ∃ (x5 : Nat ×
      Nat × Nat × Nat), v7 = (↑x5.1 : Int) ∧ (b2 = x5.2.1 ∧ b3 = x5.2.2.1 ∧ 0 = 0 ∧ x4.1 + 1 = x5.1 ∧ b4 = x5.2.2.2 ∧ (Nat.beq x4.1 0 && decide (1 = 0)) = Nat.beq x5.1 0) ∧ ((b2 = x5.2.1 ∧ b3 = x5.2.2.1 ∧ (Nat.beq x4.1 0 && decide (1 = 0)) = Nat.beq x5.1 0 ∧ x5.1 ≤ x4.1 + 1 ∧ x5.1 ≤ x5.2.2.2 ∧ x5.2.2.2 ≤ b4) ∧ ∀ (i2 : Nat), i2 < x5.1 → (if i2 < x4.1 then (↑(mendM b pl n x2.1 i2) : Int) else v6) =
      (↑(mendM b pl n x2.1 i2) : Int)) ∧ (x5.1 ≤ n ∧ x5.1 ≤ x5.2.2.2 ∧ x5.2.2.2 ≤ 9223372036854775807 ∧ (x5.1 = 0 → x5.2.2.2 = 0)) ∧ n - x5.1 < n - x4.1) ∧ (decide ((↑x4.1 : Int) < v1) = false → List.length b ≤ 1000000 ∧ ∀ (s1 : List UInt8), s1 = revL b → ((-9223372036854775808 : Int) ≤ (↑x2.1 : Int) ∧ (↑x2.1 : Int) ≤ (9223372036854775807 : Int)) ∧ ∀ (v3 : Int), v3 = powI (2 : Int) (↑x2.1 : Int) → (0 ≤
      v3 ∧ v3 ≤ 255) ∧ ∀ (v4 : Int), v4 = (↑(evalF s1 (Int.toNat v3)) : Int) → ∀ (b1 : Nat), (x4.2.1 = x4.2.1 ∧ x4.2.2.1 = x4.2.2.1) ∧ (Nat.beq x4.1 0 = true → Nat.beq x4.1 0 = true) ∧ 0 = 0 ∧ x4.1 ≤ x4.1 ∧ x4.2.2.2 ≤ x4.2.2.2 ∧ (x4.1 + 1) * 1 ≤ 140737488355328 ∧ x4.1 + 1 ≤ 9223372036854775807 ∧ 1 ≤ 1 ∧ (b1 = b1 ∧ 0 = 0) ∧ ∀ (b2 b3 b4 : Nat), x4.1 + 1 ≤ b4 → b4 ≤ 9223372036854775807 → (Nat.beq x4.1 0 =
      true → 1 = 0 → b4 = 0) → ∀ (b5 : Nat), (x2.2.1.1 = x2.2.1.1 ∧ x2.2.1.2.1 = x2.2.1.2.1) ∧ (Nat.beq x2.1 0 = true → Nat.beq x2.1 0 = true) ∧ 0 = 0 ∧ x2.1 ≤ x2.1 ∧ x2.2.1.2.2 ≤ x2.2.1.2.2 ∧ (x2.1 + 1) * 24 ≤ 140737488355328 ∧ x2.1 + 1 ≤ 9223372036854775807 ∧ 1 ≤ 1 ∧ (b5 = b5 ∧ 0 = 0) ∧ ∀ (b6 b7 b8 : Nat), x2.1 + 1 ≤ b8 → b8 ≤ 9223372036854775807 → (Nat.beq x2.1 0 = true → 1 = 0 → b8 = 0) → (false =
      false → false = false → ∀ (i : Nat), i < x2.1 → (n + 1) * 1 ≠ 0 → (x2.2.2 i).1 ≠ b5) → (false = false → false = false → ∀ (i : Nat), i < x2.1 → (n + 1) * 1 ≠ 0 → (x2.2.2 i).1 ≠ b1) → (false = false → (Nat.beq x4.1 0 && decide (1 = 0)) = false → ∀ (i : Nat), i < x2.1 → (n + 1) * 1 ≠ 0 → (x2.2.2 i).1 ≠ b2) → (false = false → (Nat.beq x2.1 0 && decide (1 = 0)) = false → ∀ (i : Nat), i < x2.1 → (n + 1)
      * 1 ≠ 0 → (x2.2.2 i).1 ≠ b6) → ∀ (v5 : Int), v5 = IntKind.i64.wrap ((↑x2.1 : Int) + (1 : Int)) → ∃ (x5 : Nat × (Nat × Nat × Nat) × (Nat → Nat × Nat × Nat)), v5 = (↑x5.1 : Int) ∧ (b6 = x5.2.1.1 ∧ b7 = x5.2.1.2.1 ∧ 0 = 0 ∧ x2.1 + 1 = x5.1 ∧ b8 = x5.2.1.2.2 ∧ (Nat.beq x2.1 0 && decide (1 = 0)) = Nat.beq x5.1 0) ∧ ((b6 = x5.2.1.1 ∧ b7 = x5.2.1.2.1 ∧ (Nat.beq x2.1 0 && decide (1 = 0)) = Nat.beq x5.1 0 ∧
      x5.1 ≤ x2.1 + 1 ∧ x5.1 ≤ x5.2.1.2.2 ∧ x5.2.1.2.2 ≤ b8) ∧ ∀ (i2 : Nat), i2 < x5.1 → eqv (if i2 < x2.1 then SV.slice 301 ((x2.2.2 i2).1) (((x2.2.2 i2).2.1)) [PS.elt i2 0] 1 0 (n + 1) (((x2.2.2 i2).2.2)) false else SV.slice 302 b2 b3 [] 1 0 (x4.1 + 1) b4 (Nat.beq x4.1 0 && decide (1 = 0))) (SV.slice 301 ((x5.2.2 i2).1) (((x5.2.2 i2).2.1)) [PS.elt i2 0] 1 0 (n + 1) (((x5.2.2 i2).2.2)) false)) ∧ (∀ (i3
      : Nat), i3 < x5.1 → (∃ (x6 : Nat), x6 < x2.1 ∧ ((x2.2.2 x6).1, ((x2.2.2 x6).2.1)) = ((x5.2.2 i3).1, ((x5.2.2 i3).2.1)) ∧ n + 1 = n + 1 ∧ ∀ (k1 : Nat), k1 < n + 1 → (↑(mendM b pl n x6 k1) : Int) = (↑(mendM b pl n i3 k1) : Int)) ∨ (false = false ∧ (b1, 0) = ((x5.2.2 i3).1, ((x5.2.2 i3).2.1)) ∧ 1 = n + 1 ∧ ∀ (k2 : Nat), k2 < 1 → v4 = (↑(mendM b pl n i3 k2) : Int)) ∨ (Nat.beq x4.1 0 && decide (1 = 0))
      = false ∧ (b2, b3) = ((x5.2.2 i3).1, ((x5.2.2 i3).2.1)) ∧ x4.1 + 1 = n + 1 ∧ ∀ (k3 : Nat), k3 < x4.1 + 1 → (if k3 < x4.1 then (↑(mendM b pl n x2.1 k3) : Int) else v4) = (↑(mendM b pl n i3 k3) : Int)) ∧ (x5.1 ≤ n ∧ x5.1 ≤ x5.2.1.2.2 ∧ x5.2.1.2.2 ≤ 9223372036854775807 ∧ (x5.1 = 0 → x5.2.1.2.2 = 0) ∧ disP x5.1 x5.2.2) ∧ n - x5.1 < n - x2.1)) ∧ (decide ((↑x2.1 : Int) < v1) = false → ∀ (v2 : Int), v2 =
      (↑x2.1 : Int) → (∃ (x5 : Nat × (Nat → Nat × Nat × Nat)), (0 : Int) = (↑x5.1 : Int) ∧ ((x2.2.1.1 = x2.2.1.1 ∧ x2.2.1.2.1 = x2.2.1.2.1 ∧ Nat.beq x2.1 0 = Nat.beq x2.1 0 ∧ x2.1 ≤ x2.1 ∧ x2.1 ≤ x2.2.1.2.2 ∧ x2.2.1.2.2 ≤ x2.2.1.2.2) ∧ ∀ (i2 : Nat), i2 < x2.1 → (x2.2.2 i2).1 = (x5.2 i2).1 ∧ ((x2.2.2 i2).2.1) = ((x5.2 i2).2.1) ∧ 0 = 0 ∧ n + 1 = n + 1 ∧ ((x2.2.2 i2).2.2) = ((x5.2 i2).2.2) ∧ false = false)
      ∧ (∀ (i3 : Nat), i3 < n → ∃ (x6 : Nat), x6 < x2.1 ∧ ((x2.2.2 x6).1, ((x2.2.2 x6).2.1)) = ((x5.2 i3).1, ((x5.2 i3).2.1)) ∧ n + 1 = n + 1 ∧ ∀ (k1 : Nat), k1 < n + 1 → (↑(mendM b pl n x6 k1) : Int) = (↑(roundsM (mendM b pl n) n x5.1 i3 k1) : Int)) ∧ x5.1 ≤ n ∧ goodM (mendM b pl n) n x5.1 = true ∧ disP n x5.2) ∧ ∀ (x6 : Nat × (Nat → Nat × Nat × Nat)), x6.1 ≤ n ∧ goodM (mendM b pl n) n x6.1 = true ∧
      disP n x6.2 → (decide ((↑x6.1 : Int) < v2) = true → (∃ (x7 : Nat), (↑x6.1 : Int) = (↑x7 : Int) ∧ x7 ≤ n ∧ Int.toNat (↑x6.1 : Int) ≤ x7 ∧ ∀ (b1 : Nat), Int.toNat (↑x6.1 : Int) ≤ b1 → b1 < x7 → roundsM (mendM b pl n) n x6.1 b1 x6.1 = 0) ∧ ∀ (b2 : Nat), (b2 ≤ n ∧ Int.toNat (↑x6.1 : Int) ≤ b2 ∧ ∀ (u : Nat), Int.toNat (↑x6.1 : Int) ≤ u → u < b2 → roundsM (mendM b pl n) n x6.1 u x6.1 = 0) → (decide ((↑b2
      : Int) < v2) = true → (0 : Int) ≤ (↑b2 : Int)) ∧ (decide ((↑b2 : Int) < v2) = true → (↑b2 : Int) < (↑x2.1 : Int)) ∧ (decide ((↑b2 : Int) < v2) = true → x2.2.1.1 = x2.2.1.1 ∧ x2.2.1.2.1 = x2.2.1.2.1) ∧ (decide ((↑b2 : Int) < v2) = true → b2 < x2.1) ∧ (decide ((↑b2 : Int) < v2) = true → (0 : Int) ≤ (↑x6.1 : Int)) ∧ (decide ((↑b2 : Int) < v2) = true → (↑x6.1 : Int) < (↑(n + 1) : Int)) ∧ (decide ((↑b2
      : Int) < v2) = true → ((x6.2 b2).1, ((x6.2 b2).2).1) = ((x6.2 b2).1, ((x6.2 b2).2).1)) ∧ (decide ((↑b2 : Int) < v2) = true → b2 < n) ∧ (decide ((↑b2 : Int) < v2) = true → Int.toNat (↑x6.1 : Int) < n + 1) ∧ ∀ (t1 : Bool), (t1 = if decide ((↑b2 : Int) < v2) = true then (↑(roundsM (mendM b pl n) n x6.1 b2 x6.1) : Int) == (0 : Int) else false) → (t1 = true → ∀ (v3 : Int), v3 = IntKind.i64.wrap ((↑b2 :
      Int) + (1 : Int)) → ∃ (x8 : Nat), v3 = (↑x8 : Int) ∧ (x8 ≤ n ∧ Int.toNat (↑x6.1 : Int) ≤ x8 ∧ ∀ (b3 : Nat), Int.toNat (↑x6.1 : Int) ≤ b3 → b3 < x8 → roundsM (mendM b pl n) n x6.1 b3 x6.1 = 0) ∧ n - x8 < n - b2) ∧ (t1 = false → (((↑b2 : Int) == v2) = true → ∀ (t2 : Bool), t2 = false → ((!t2) = true → ∃ (x8 : Unit), ([] = mdRC b pl n ∧ false = mdOk b pl n) ∧ True) ∧ ((!t2) = false → ∀ (b3 b4 : Nat),
      List.length b ≤ b4 → b4 ≤ 9223372036854775807 → (∃ (x9 : Nat), (0 : Int) = (↑x9 : Int) ∧ ((b3 = b3 ∧ 0 = 0 ∧ false = false ∧ List.length b ≤ List.length b ∧ List.length b ≤ b4 ∧ b4 ≤ b4) ∧ ∀ (i4 : Nat), i4 < List.length b → (↑(UInt8.toNat (List.getD b i4 0)) : Int) = (↑(fixF b pl n x9 i4) : Int)) ∧ Nat.le x9 n) ∧ ∀ (b5 : Nat), b5 ≤ n → (decide ((↑b5 : Int) < v1) = true → (0 : Int) ≤ (↑b5 : Int) ∧
      (↑b5 : Int) < (↑n : Int) ∧ (eb = eb ∧ eo = eo) ∧ b5 < n ∧ (0 : Int) ≤ (↑b5 : Int) ∧ (↑b5 : Int) < (↑n : Int) ∧ (eb = eb ∧ eo = eo) ∧ b5 < n ∧ (0 : Int) ≤ pl b5 ∧ pl b5 < (↑(List.length b) : Int) ∧ (0 : Int) ≤ (↑b5 : Int) ∧ (↑b5 : Int) < (↑(0 : Nat) : Int) ∧ False) ∧ (decide ((↑b5 : Int) < v1) = false → List.length b ≤ List.length b ∧ (∀ (k1 : Nat), k1 < List.length b → true = true) ∧ (b3 = b3 ∧ 0 =
      0) ∧ ∀ (s1 : List UInt8), s1 = Byt.of (fun (k : Nat) ↦ (↑(fixF b pl n b5 k) : Int)) (List.length b) → List.length b ≤ List.length b ∧ (∀ (k2 : Nat), k2 < List.length b → true = true) ∧ (b3 = b3 ∧ 0 = 0) ∧ ∀ (s2 : List UInt8), s2 = Byt.of (fun (k : Nat) ↦ (↑(fixF b pl n b5 k) : Int)) (List.length b) → 9 ≤ List.length s2 ∧ List.length s2 ≤ 231 ∧ ∀ (t3 : Bool), t3 = (encL (List.take (List.length s2 -
      8) s2) == s2) → ∃ (x10 : Unit), (s1 = mdRC b pl n ∧ t3 = mdOk b pl n) ∧ True))) ∧ (((↑b2 : Int) == v2) = false → ((0 : Int) ≤ (↑b2 : Int) ∧ (↑b2 : Int) < (↑x2.1 : Int) ∧ (0 : Int) ≤ (↑x6.1 : Int) ∧ (↑x6.1 : Int) < (↑x2.1 : Int) ∧ ((x2.2.1.1 = x2.2.1.1 ∧ x2.2.1.2.1 = x2.2.1.2.1) ∧ b2 < x2.1 ∧ ((x2.2.1.1 = x2.2.1.1 ∧ x2.2.1.2.1 = x2.2.1.2.1) ∧ Int.toNat (↑x6.1 : Int) < x2.1 ∧ (0 : Int) ≤ (↑x6.1 :
      Int) ∧ (↑x6.1 : Int) < (↑x2.1 : Int) ∧ ((x2.2.1.1 = x2.2.1.1 ∧ x2.2.1.2.1 = x2.2.1.2.1) ∧ Int.toNat (↑x6.1 : Int) < x2.1 ∧ (0 : Int) ≤ (↑b2 : Int) ∧ (↑b2 : Int) < (↑x2.1 : Int) ∧ ((x2.2.1.1 = x2.2.1.1 ∧ x2.2.1.2.1 = x2.2.1.2.1) ∧ b2 < x2.1 ∧ ∃ (x8 : Nat → Nat × Nat × Nat), ((x2.2.1.1 = x2.2.1.1 ∧ x2.2.1.2.1 = x2.2.1.2.1 ∧ Nat.beq x2.1 0 = Nat.beq x2.1 0 ∧ x2.1 ≤ x2.1 ∧ x2.1 ≤ x2.2.1.2.2 ∧
      x2.2.1.2.2 ≤ x2.2.1.2.2) ∧ ∀ (i4 : Nat), i4 < x2.1 → eqv (if i4 = b2 then SV.slice 301 ((x6.2 x6.1).1) (((x6.2 x6.1).2).1) [PS.elt x6.1 0] 1 0 (n + 1) (((x6.2 x6.1).2).2) false else if i4 = Int.toNat (↑x6.1 : Int) then SV.slice 301 ((x6.2 b2).1) (((x6.2 b2).2).1) [PS.elt b2 0] 1 0 (n + 1) (((x6.2 b2).2).2) false else SV.slice 301 ((x6.2 i4).1) (((x6.2 i4).2.1)) [PS.elt i4 0] 1 0 (n + 1) (((x6.2
      i4).2.2)) false) (SV.slice 301 ((x8 i4).1) (((x8 i4).2.1)) [PS.elt i4 0] 1 0 (n + 1) (((x8 i4).2.2)) false)) ∧ (∀ (i5 : Nat), i5 < n → ∃ (x9 : Nat), x9 < n ∧ ((x6.2 x9).1, ((x6.2 x9).2.1)) = ((x8 i5).1, ((x8 i5).2.1)) ∧ n + 1 = n + 1 ∧ ∀ (k1 : Nat), k1 < n + 1 → (↑(roundsM (mendM b pl n) n x6.1 x9 k1) : Int) = (↑(swR (mendM b pl n) n x6.1 i5 k1) : Int)) ∧ (0 : Int) ≤ pivF (roundsM (mendM b pl n) n
      x6.1) n x6.1 ∧ disP n x8) ∧ True) ∧ True) ∧ True) ∧ ((x2.2.1.1 = x2.2.1.1 ∧ x2.2.1.2.1 = x2.2.1.2.1) ∧ Int.toNat (↑x6.1 : Int) < x2.1 ∧ ((x2.2.1.1 = x2.2.1.1 ∧ x2.2.1.2.1 = x2.2.1.2.1) ∧ b2 < x2.1 ∧ (0 : Int) ≤ (↑x6.1 : Int) ∧ (↑x6.1 : Int) < (↑x2.1 : Int) ∧ ((x2.2.1.1 = x2.2.1.1 ∧ x2.2.1.2.1 = x2.2.1.2.1) ∧ Int.toNat (↑x6.1 : Int) < x2.1 ∧ (0 : Int) ≤ (↑b2 : Int) ∧ (↑b2 : Int) < (↑x2.1 : Int) ∧
      ((x2.2.1.1 = x2.2.1.1 ∧ x2.2.1.2.1 = x2.2.1.2.1) ∧ b2 < x2.1 ∧ ∃ (x9 : Nat → Nat × Nat × Nat), ((x2.2.1.1 = x2.2.1.1 ∧ x2.2.1.2.1 = x2.2.1.2.1 ∧ Nat.beq x2.1 0 = Nat.beq x2.1 0 ∧ x2.1 ≤ x2.1 ∧ x2.1 ≤ x2.2.1.2.2 ∧ x2.2.1.2.2 ≤ x2.2.1.2.2) ∧ ∀ (i6 : Nat), i6 < x2.1 → eqv (if i6 = b2 then SV.slice 301 ((x6.2 x6.1).1) (((x6.2 x6.1).2).1) [PS.elt x6.1 0] 1 0 (n + 1) (((x6.2 x6.1).2).2) false else if i6
      = Int.toNat (↑x6.1 : Int) then SV.slice 301 ((x6.2 b2).1) (((x6.2 b2).2).1) [PS.elt b2 0] 1 0 (n + 1) (((x6.2 b2).2).2) false else SV.slice 301 ((x6.2 i6).1) (((x6.2 i6).2.1)) [PS.elt i6 0] 1 0 (n + 1) (((x6.2 i6).2.2)) false) (SV.slice 301 ((x9 i6).1) (((x9 i6).2.1)) [PS.elt i6 0] 1 0 (n + 1) (((x9 i6).2.2)) false)) ∧ (∀ (i7 : Nat), i7 < n → ∃ (x10 : Nat), x10 < n ∧ ((x6.2 x10).1, ((x6.2
      x10).2.1)) = ((x9 i7).1, ((x9 i7).2.1)) ∧ n + 1 = n + 1 ∧ ∀ (k1 : Nat), k1 < n + 1 → (↑(roundsM (mendM b pl n) n x6.1 x10 k1) : Int) = (↑(swR (mendM b pl n) n x6.1 i7 k1) : Int)) ∧ (0 : Int) ≤ pivF (roundsM (mendM b pl n) n x6.1) n x6.1 ∧ disP n x9) ∧ True) ∧ True) ∧ True) ∧ True) ∧ ∀ (x10 : Nat → Nat × Nat × Nat), (0 : Int) ≤ pivF (roundsM (mendM b pl n) n x6.1) n x6.1 ∧ disP n x10 → (0 : Int) ≤
      (↑x6.1 : Int) ∧ (↑x6.1 : Int) < (↑x2.1 : Int) ∧ (x2.2.1.1 = x2.2.1.1 ∧ x2.2.1.2.1 = x2.2.1.2.1) ∧ Int.toNat (↑x6.1 : Int) < x2.1 ∧ (0 : Int) ≤ (↑x6.1 : Int) ∧ (↑x6.1 : Int) < (↑(n + 1) : Int) ∧ ((x10 x6.1).1, ((x10 x6.1).2).1) = ((x10 x6.1).1, ((x10 x6.1).2).1) ∧ Int.toNat (↑x6.1 : Int) < n ∧ Int.toNat (↑x6.1 : Int) < n + 1 ∧ ((0 : Int) ≤ (1 : Int) ∧ (1 : Int) ≤ (255 : Int)) ∧ ((0 : Int) ≤ (↑(swR
      (mendM b pl n) n x6.1 x6.1 x6.1) : Int) ∧ (↑(swR (mendM b pl n) n x6.1 x6.1 x6.1) : Int) ≤ (255 : Int)) ∧ ∀ (v4 : Int), v4 = divI (1 : Int) (↑(swR (mendM b pl n) n x6.1 x6.1 x6.1) : Int) → ∀ (v5 : Int), v5 = errB ((↑(swR (mendM b pl n) n x6.1 x6.1 x6.1) : Int) == (0 : Int)) → (∃ (x11 : Nat), (0 : Int) = (↑x11 : Int) ∧ (∀ (i8 : Nat), i8 < n → ∃ (x12 : Nat), x12 < n ∧ ((x10 x12).1, ((x10 x12).2.1)) =
      ((x10 i8).1, ((x10 i8).2.1)) ∧ n + 1 = n + 1 ∧ ∀ (k1 : Nat), k1 < n + 1 → (↑(swR (mendM b pl n) n x6.1 x12 k1) : Int) = (↑(if i8 = Int.toNat (↑x6.1 : Int) ∧ k1 < x11 then unitR (swR (mendM b pl n) n x6.1) x6.1 k1 else swR (mendM b pl n) n x6.1 i8 k1) : Int)) ∧ Nat.le x11 (n + 1)) ∧ ∀ (b3 : Nat), b3 ≤ n + 1 → (decide ((↑b3 : Int) ≤ v2) = true → (0 : Int) ≤ (↑x6.1 : Int) ∧ (↑x6.1 : Int) < (↑x2.1 :
      Int) ∧ (x2.2.1.1 = x2.2.1.1 ∧ x2.2.1.2.1 = x2.2.1.2.1) ∧ Int.toNat (↑x6.1 : Int) < x2.1 ∧ (0 : Int) ≤ (↑x6.1 : Int) ∧ (↑x6.1 : Int) < (↑x2.1 : Int) ∧ (x2.2.1.1 = x2.2.1.1 ∧ x2.2.1.2.1 = x2.2.1.2.1) ∧ Int.toNat (↑x6.1 : Int) < x2.1 ∧ (0 : Int) ≤ (↑b3 : Int) ∧ (↑b3 : Int) < (↑(n + 1) : Int) ∧ (((x10 x6.1).1, ((x10 x6.1).2).1) = ((x10 x6.1).1, ((x10 x6.1).2).1) ∧ Int.toNat (↑x6.1 : Int) < n ∧ b3 < n +
      1 ∧ ((0 : Int) ≤ (↑(if Int.toNat (↑x6.1 : Int) = Int.toNat (↑x6.1 : Int) ∧ b3 < b3 then unitR (swR (mendM b pl n) n x6.1) x6.1 b3 else swR (mendM b pl n) n x6.1 x6.1 b3) : Int) ∧ (↑(if Int.toNat (↑x6.1 : Int) = Int.toNat (↑x6.1 : Int) ∧ b3 < b3 then unitR (swR (mendM b pl n) n x6.1) x6.1 b3 else swR (mendM b pl n) n x6.1 x6.1 b3) : Int) ≤ (255 : Int)) ∧ (0 ≤ v4 ∧ v4 ≤ 255) ∧ ∀ (v6 : Int), v6 = mulI
      (↑(if Int.toNat (↑x6.1 : Int) = Int.toNat (↑x6.1 : Int) ∧ b3 < b3 then unitR (swR (mendM b pl n) n x6.1) x6.1 b3 else swR (mendM b pl n) n x6.1 x6.1 b3) : Int) v4 → (0 : Int) ≤ (↑b3 : Int) ∧ (↑b3 : Int) < (↑(n + 1) : Int) ∧ (((x10 x6.1).1, ((x10 x6.1).2).1) = ((x10 x6.1).1, ((x10 x6.1).2).1) ∧ Int.toNat (↑x6.1 : Int) < n ∧ (∀ (b4 : Nat), b4 < n → b4 ≠ Int.toNat (↑x6.1 : Int) → (x10 b4).1 ≠ (x10
      x6.1).1) ∧ b3 < n + 1 ∧ ∀ (v7 : Int), v7 = IntKind.i64.wrap ((↑b3 : Int) + (1 : Int)) → ∃ (x12 : Nat), v7 = (↑x12 : Int) ∧ (∀ (i9 : Nat), i9 < n → ∃ (x13 : Nat), x13 < n ∧ ((x10 x13).1, ((x10 x13).2.1)) = ((x10 i9).1, ((x10 i9).2.1)) ∧ Eng.eqvA (if x13 = Int.toNat (↑x6.1 : Int) then SV.arr (n + 1) 1 fun (k : Nat) ↦ SV.int IntKind.u8 (if k = b3 then v6 else (↑(if Int.toNat (↑x6.1 : Int) = Int.toNat
      (↑x6.1 : Int) ∧ k < b3 then unitR (swR (mendM b pl n) n x6.1) x6.1 k else swR (mendM b pl n) n x6.1 x6.1 k) : Int)) else SV.arr (n + 1) 1 fun (t : Nat) ↦ SV.int IntKind.u8 (↑(if x13 = Int.toNat (↑x6.1 : Int) ∧ t < b3 then unitR (swR (mendM b pl n) n x6.1) x6.1 t else swR (mendM b pl n) n x6.1 x13 t) : Int)) (SV.arr (n + 1) 1 fun (t : Nat) ↦ SV.int IntKind.u8 (↑(if i9 = Int.toNat (↑x6.1 : Int) ∧ t <
      x12 then unitR (swR (mendM b pl n) n x6.1) x6.1 t else swR (mendM b pl n) n x6.1 i9 t) : Int))) ∧ x12 ≤ n + 1 ∧ n + 1 - x12 < n + 1 - b3) ∧ True) ∧ True) ∧ (decide ((↑b3 : Int) ≤ v2) = false → (∃ (x12 : Nat), (0 : Int) = (↑x12 : Int) ∧ (∀ (i9 : Nat), i9 < n → ∃ (x13 : Nat), x13 < n ∧ ((x10 x13).1, ((x10 x13).2.1)) = ((x10 i9).1, ((x10 i9).2.1)) ∧ n + 1 = n + 1 ∧ ∀ (k1 : Nat), k1 < n + 1 → (↑(if x13
      = Int.toNat (↑x6.1 : Int) ∧ k1 < b3 then unitR (swR (mendM b pl n) n x6.1) x6.1 k1 else swR (mendM b pl n) n x6.1 x13 k1) : Int) = (↑(elimM (swR (mendM b pl n) n x6.1) x6.1 x12 i9 k1) : Int)) ∧ Nat.le x12 n) ∧ ∀ (b4 : Nat), b4 ≤ n → (decide ((↑b4 : Int) < v2) = true → (0 : Int) ≤ (↑b4 : Int) ∧ (↑b4 : Int) < (↑x2.1 : Int) ∧ (x2.2.1.1 = x2.2.1.1 ∧ x2.2.1.2.1 = x2.2.1.2.1) ∧ b4 < x2.1 ∧ (0 : Int) ≤
      (↑x6.1 : Int) ∧ (↑x6.1 : Int) < (↑(n + 1) : Int) ∧ ((x10 b4).1, ((x10 b4).2).1) = ((x10 b4).1, ((x10 b4).2).1) ∧ b4 < n ∧ Int.toNat (↑x6.1 : Int) < n + 1 ∧ (∃ (x13 : Nat), (0 : Int) = (↑x13 : Int) ∧ (∀ (i10 : Nat), i10 < n → ∃ (x14 : Nat), x14 < n ∧ ((x10 x14).1, ((x10 x14).2.1)) = ((x10 i10).1, ((x10 i10).2.1)) ∧ n + 1 = n + 1 ∧ ∀ (k1 : Nat), k1 < n + 1 → (↑(elimM (swR (mendM b pl n) n x6.1) x6.1
      b4 x14 k1) : Int) = (↑(if i10 = b4 ∧ k1 < x13 then elimM (swR (mendM b pl n) n x6.1) x6.1 (b4 + 1) i10 k1 else elimM (swR (mendM b pl n) n x6.1) x6.1 b4 i10 k1) : Int)) ∧ x13 ≤ n + 1 ∧ (b4 = Int.toNat (↑x6.1 : Int) → x13 = 0)) ∧ ∀ (b5 : Nat), b5 ≤ n + 1 ∧ (b4 = Int.toNat (↑x6.1 : Int) → b5 = 0) → ∀ (t3 : Bool), (t3 = if ((↑b4 : Int) != (↑x6.1 : Int)) = true then decide ((↑b5 : Int) ≤ v2) else
      false) → (t3 = true → (0 : Int) ≤ (↑b4 : Int) ∧ (↑b4 : Int) < (↑x2.1 : Int) ∧ (x2.2.1.1 = x2.2.1.1 ∧ x2.2.1.2.1 = x2.2.1.2.1) ∧ b4 < x2.1 ∧ (0 : Int) ≤ (↑b4 : Int) ∧ (↑b4 : Int) < (↑x2.1 : Int) ∧ (x2.2.1.1 = x2.2.1.1 ∧ x2.2.1.2.1 = x2.2.1.2.1) ∧ b4 < x2.1 ∧ (0 : Int) ≤ (↑b5 : Int) ∧ (↑b5 : Int) < (↑(n + 1) : Int) ∧ (0 : Int) ≤ (↑x6.1 : Int) ∧ (↑x6.1 : Int) < (↑x2.1 : Int) ∧ (x2.2.1.1 = x2.2.1.1 ∧
      x2.2.1.2.1 = x2.2.1.2.1) ∧ Int.toNat (↑x6.1 : Int) < x2.1 ∧ (0 : Int) ≤ (↑b5 : Int) ∧ (↑b5 : Int) < (↑(n + 1) : Int) ∧ (((x10 b4).1, ((x10 b4).2).1) = ((x10 b4).1, ((x10 b4).2).1) ∧ b4 < n ∧ b5 < n + 1 ∧ (((x10 x6.1).1, ((x10 x6.1).2).1) = ((x10 x6.1).1, ((x10 x6.1).2).1) ∧ Int.toNat (↑x6.1 : Int) < n ∧ b5 < n + 1 ∧ ((0 : Int) ≤ (↑(elimM (swR (mendM b pl n) n x6.1) x6.1 b4 b4 x6.1) : Int) ∧
      (↑(elimM (swR (mendM b pl n) n x6.1) x6.1 b4 b4 x6.1) : Int) ≤ (255 : Int)) ∧ ((0 : Int) ≤ (↑(if Int.toNat (↑x6.1 : Int) = b4 ∧ b5 < b5 then elimM (swR (mendM b pl n) n x6.1) x6.1 (b4 + 1) x6.1 b5 else elimM (swR (mendM b pl n) n x6.1) x6.1 b4 x6.1 b5) : Int) ∧ (↑(if Int.toNat (↑x6.1 : Int) = b4 ∧ b5 < b5 then elimM (swR (mendM b pl n) n x6.1) x6.1 (b4 + 1) x6.1 b5 else elimM (swR (mendM b pl n) n
      x6.1) x6.1 b4 x6.1 b5) : Int) ≤ (255 : Int)) ∧ ∀ (v7 : Int), v7 = mulI (↑(elimM (swR (mendM b pl n) n x6.1) x6.1 b4 b4 x6.1) : Int) (↑(if Int.toNat (↑x6.1 : Int) = b4 ∧ b5 < b5 then elimM (swR (mendM b pl n) n x6.1) x6.1 (b4 + 1) x6.1 b5 else elimM (swR (mendM b pl n) n x6.1) x6.1 b4 x6.1 b5) : Int) → ∀ (v8 : Int), v8 = IntKind.u8.wrap (↑(BitVec.toNat (BitVec.ofInt (IntKind.u8.bits) (↑(if b4 = b4 ∧
      b5 < b5 then elimM (swR (mendM b pl n) n x6.1) x6.1 (b4 + 1) b4 b5 else elimM (swR (mendM b pl n) n x6.1) x6.1 b4 b4 b5) : Int) ^^^ BitVec.ofInt (IntKind.u8.bits) v7)) : Int) → (0 : Int) ≤ (↑b5 : Int) ∧ (↑b5 : Int) < (↑(n + 1) : Int) ∧ (((x10 b4).1, ((x10 b4).2).1) = ((x10 b4).1, ((x10 b4).2).1) ∧ b4 < n ∧ (∀ (b6 : Nat), b6 < n → b6 ≠ b4 → (x10 b6).1 ≠ (x10 b4).1) ∧ b5 < n + 1 ∧ ∀ (v9 : Int), v9 =
      IntKind.i64.wrap ((↑b5 : Int) + (1 : Int)) → ∃ (x14 : Nat), v9 = (↑x14 : Int) ∧ (∀ (i11 : Nat), i11 < n → ∃ (x15 : Nat), x15 < n ∧ ((x10 x15).1, ((x10 x15).2.1)) = ((x10 i11).1, ((x10 i11).2.1)) ∧ Eng.eqvA (if x15 = b4 then SV.arr (n + 1) 1 fun (k : Nat) ↦ SV.int IntKind.u8 (if k = b5 then v8 else (↑(if b4 = b4 ∧ k < b5 then elimM (swR (mendM b pl n) n x6.1) x6.1 (b4 + 1) b4 k else elimM (swR
      (mendM b pl n) n x6.1) x6.1 b4 b4 k) : Int)) else SV.arr (n + 1) 1 fun (t : Nat) ↦ SV.int IntKind.u8 (↑(if x15 = b4 ∧ t < b5 then elimM (swR (mendM b pl n) n x6.1) x6.1 (b4 + 1) x15 t else elimM (swR (mendM b pl n) n x6.1) x6.1 b4 x15 t) : Int)) (SV.arr (n + 1) 1 fun (t : Nat) ↦ SV.int IntKind.u8 (↑(if i11 = b4 ∧ t < x14 then elimM (swR (mendM b pl n) n x6.1) x6.1 (b4 + 1) i11 t else elimM (swR
      (mendM b pl n) n x6.1) x6.1 b4 i11 t) : Int))) ∧ (x14 ≤ n + 1 ∧ (b4 = Int.toNat (↑x6.1 : Int) → x14 = 0)) ∧ n + 1 - x14 < n + 1 - b5) ∧ True) ∧ True) ∧ (((x10 x6.1).1, ((x10 x6.1).2).1) = ((x10 x6.1).1, ((x10 x6.1).2).1) ∧ Int.toNat (↑x6.1 : Int) < n ∧ b5 < n + 1 ∧ ((0 : Int) ≤ (↑(elimM (swR (mendM b pl n) n x6.1) x6.1 b4 b4 x6.1) : Int) ∧ (↑(elimM (swR (mendM b pl n) n x6.1) x6.1 b4 b4 x6.1) :
      Int) ≤ (255 : Int)) ∧ ((0 : Int) ≤ (↑(if Int.toNat (↑x6.1 : Int) = b4 ∧ b5 < b5 then elimM (swR (mendM b pl n) n x6.1) x6.1 (b4 + 1) x6.1 b5 else elimM (swR (mendM b pl n) n x6.1) x6.1 b4 x6.1 b5) : Int) ∧ (↑(if Int.toNat (↑x6.1 : Int) = b4 ∧ b5 < b5 then elimM (swR (mendM b pl n) n x6.1) x6.1 (b4 + 1) x6.1 b5 else elimM (swR (mendM b pl n) n x6.1) x6.1 b4 x6.1 b5) : Int) ≤ (255 : Int)) ∧ ∀ (v8 :
      Int), v8 = mulI (↑(elimM (swR (mendM b pl n) n x6.1) x6.1 b4 b4 x6.1) : Int) (↑(if Int.toNat (↑x6.1 : Int) = b4 ∧ b5 < b5 then elimM (swR (mendM b pl n) n x6.1) x6.1 (b4 + 1) x6.1 b5 else elimM (swR (mendM b pl n) n x6.1) x6.1 b4 x6.1 b5) : Int) → (((x10 b4).1, ((x10 b4).2).1) = ((x10 b4).1, ((x10 b4).2).1) ∧ b4 < n ∧ b5 < n + 1 ∧ ∀ (v9 : Int), v9 = IntKind.u8.wrap (↑(BitVec.toNat (BitVec.ofInt
      (IntKind.u8.bits) (↑(if b4 = b4 ∧ b5 < b5 then elimM (swR (mendM b pl n) n x6.1) x6.1 (b4 + 1) b4 b5 else elimM (swR (mendM b pl n) n x6.1) x6.1 b4 b4 b5) : Int) ^^^ BitVec.ofInt (IntKind.u8.bits) v8)) : Int) → (0 : Int) ≤ (↑b5 : Int) ∧ (↑b5 : Int) < (↑(n + 1) : Int) ∧ (((x10 b4).1, ((x10 b4).2).1) = ((x10 b4).1, ((x10 b4).2).1) ∧ b4 < n ∧ (∀ (b6 : Nat), b6 < n → b6 ≠ b4 → (x10 b6).1 ≠ (x10 b4).1)
      ∧ b5 < n + 1 ∧ ∀ (v10 : Int), v10 = IntKind.i64.wrap ((↑b5 : Int) + (1 : Int)) → ∃ (x14 : Nat), v10 = (↑x14 : Int) ∧ (∀ (i11 : Nat), i11 < n → ∃ (x15 : Nat), x15 < n ∧ ((x10 x15).1, ((x10 x15).2.1)) = ((x10 i11).1, ((x10 i11).2.1)) ∧ Eng.eqvA (if x15 = b4 then SV.arr (n + 1) 1 fun (k : Nat) ↦ SV.int IntKind.u8 (if k = b5 then v9 else (↑(if b4 = b4 ∧ k < b5 then elimM (swR (mendM b pl n) n x6.1)
      x6.1 (b4 + 1) b4 k else elimM (swR (mendM b pl n) n x6.1) x6.1 b4 b4 k) : Int)) else SV.arr (n + 1) 1 fun (t : Nat) ↦ SV.int IntKind.u8 (↑(if x15 = b4 ∧ t < b5 then elimM (swR (mendM b pl n) n x6.1) x6.1 (b4 + 1) x15 t else elimM (swR (mendM b pl n) n x6.1) x6.1 b4 x15 t) : Int)) (SV.arr (n + 1) 1 fun (t : Nat) ↦ SV.int IntKind.u8 (↑(if i11 = b4 ∧ t < x14 then elimM (swR (mendM b pl n) n x6.1) x6.1
      (b4 + 1) i11 t else elimM (swR (mendM b pl n) n x6.1) x6.1 b4 i11 t) : Int))) ∧ (x14 ≤ n + 1 ∧ (b4 = Int.toNat (↑x6.1 : Int) → x14 = 0)) ∧ n + 1 - x14 < n + 1 - b5) ∧ True) ∧ True) ∧ True) ∧ (t3 = false → ∀ (v9 : Int), v9 = IntKind.i64.wrap ((↑b4 : Int) + (1 : Int)) → ∃ (x14 : Nat), v9 = (↑x14 : Int) ∧ (∀ (i11 : Nat), i11 < n → ∃ (x15 : Nat), x15 < n ∧ ((x10 x15).1, ((x10 x15).2.1)) = ((x10 i11).1,
      ((x10 i11).2.1)) ∧ n + 1 = n + 1 ∧ ∀ (k1 : Nat), k1 < n + 1 → (↑(if x15 = b4 ∧ k1 < b5 then elimM (swR (mendM b pl n) n x6.1) x6.1 (b4 + 1) x15 k1 else elimM (swR (mendM b pl n) n x6.1) x6.1 b4 x15 k1) : Int) = (↑(elimM (swR (mendM b pl n) n x6.1) x6.1 x14 i11 k1) : Int)) ∧ x14 ≤ n ∧ n - x14 < n - b4)) ∧ (decide ((↑b4 : Int) < v2) = false → ∀ (v7 : Int), v7 = IntKind.i64.wrap ((↑x6.1 : Int) + (1 :
      Int)) → ∃ (x14 : Nat × (Nat → Nat × Nat × Nat)), v7 = (↑x14.1 : Int) ∧ ((x2.2.1.1 = x2.2.1.1 ∧ x2.2.1.2.1 = x2.2.1.2.1 ∧ Nat.beq x2.1 0 = Nat.beq x2.1 0 ∧ x2.1 ≤ x2.1 ∧ x2.1 ≤ x2.2.1.2.2 ∧ x2.2.1.2.2 ≤ x2.2.1.2.2) ∧ ∀ (i11 : Nat), i11 < x2.1 → (x10 i11).1 = (x14.2 i11).1 ∧ ((x10 i11).2.1) = ((x14.2 i11).2.1) ∧ 0 = 0 ∧ n + 1 = n + 1 ∧ ((x10 i11).2.2) = ((x14.2 i11).2.2) ∧ false = false) ∧ (∀ (i12 :
      Nat), i12 < n → ∃ (x15 : Nat), x15 < n ∧ ((x10 x15).1, ((x10 x15).2.1)) = ((x14.2 i12).1, ((x14.2 i12).2.1)) ∧ n + 1 = n + 1 ∧ ∀ (k1 : Nat), k1 < n + 1 → (↑(elimM (swR (mendM b pl n) n x6.1) x6.1 b4 x15 k1) : Int) = (↑(roundsM (mendM b pl n) n x14.1 i12 k1) : Int)) ∧ (x14.1 ≤ n ∧ goodM (mendM b pl n) n x14.1 = true ∧ disP n x14.2) ∧ n - x14.1 < n - x6.1))))) ∧ (decide ((↑x6.1 : Int) < v2) = false →
      (∃ (x8 : Nat × Nat × Nat × Nat), (0 : Int) = (↑x8.1 : Int) ∧ SVeq (SV.slice 999999 0 0 [] 0 0 0 0 true) (SV.slice 303 x8.2.1 x8.2.2.1 [] 1 0 x8.1 x8.2.2.2 (Nat.beq x8.1 0)) ∧ (Nat.beq x8.1 0 = true ∧ x8.1 = 0 ∧ x8.2.2.2 = 0) ∧ x8.1 ≤ n ∧ x8.1 ≤ x8.2.2.2 ∧ x8.2.2.2 ≤ 9223372036854775807 ∧ (x8.1 = 0 → x8.2.2.2 = 0)) ∧ ∀ (x9 : Nat × Nat × Nat × Nat), x9.1 ≤ n ∧ x9.1 ≤ x9.2.2.2 ∧ x9.2.2.2 ≤
      9223372036854775807 ∧ (x9.1 = 0 → x9.2.2.2 = 0) → (decide ((↑x9.1 : Int) < v2) = true → (0 : Int) ≤ (↑x9.1 : Int) ∧ (↑x9.1 : Int) < (↑x2.1 : Int) ∧ (x2.2.1.1 = x2.2.1.1 ∧ x2.2.1.2.1 = x2.2.1.2.1) ∧ Int.toNat (↑x9.1 : Int) < x2.1 ∧ 0 ≤ v2 ∧ v2 < (↑(n + 1) : Int) ∧ ((x6.2 x9.1).1, ((x6.2 x9.1).2).1) = ((x6.2 x9.1).1, ((x6.2 x9.1).2).1) ∧ Int.toNat (↑x9.1 : Int) < n ∧ Int.toNat v2 < n + 1 ∧ ∀ (b3 :
      Nat), (x9.2.1 = x9.2.1 ∧ x9.2.2.1 = x9.2.2.1) ∧ (Nat.beq x9.1 0 = true → Nat.beq x9.1 0 = true) ∧ 0 = 0 ∧ x9.1 ≤ x9.1 ∧ x9.2.2.2 ≤ x9.2.2.2 ∧ (x9.1 + 1) * 1 ≤ 140737488355328 ∧ x9.1 + 1 ≤ 9223372036854775807 ∧ 1 ≤ 1 ∧ (b3 = b3 ∧ 0 = 0) ∧ ∀ (b4 b5 b6 : Nat), x9.1 + 1 ≤ b6 → b6 ≤ 9223372036854775807 → (Nat.beq x9.1 0 = true → 1 = 0 → b6 = 0) → ∀ (v3 : Int), v3 = IntKind.i64.wrap ((↑x9.1 : Int) + (1 :
      Int)) → ∃ (x10 : Nat × Nat × Nat × Nat), v3 = (↑x10.1 : Int) ∧ (b4 = x10.2.1 ∧ b5 = x10.2.2.1 ∧ 0 = 0 ∧ x9.1 + 1 = x10.1 ∧ b6 = x10.2.2.2 ∧ (Nat.beq x9.1 0 && decide (1 = 0)) = Nat.beq x10.1 0) ∧ ((b4 = x10.2.1 ∧ b5 = x10.2.2.1 ∧ (Nat.beq x9.1 0 && decide (1 = 0)) = Nat.beq x10.1 0 ∧ x10.1 ≤ x9.1 + 1 ∧ x10.1 ≤ x10.2.2.2 ∧ x10.2.2.2 ≤ b6) ∧ ∀ (i4 : Nat), i4 < x10.1 → (if i4 < x9.1 then (↑(solN
      (mendM b pl n) n i4) : Int) else (↑(roundsM (mendM b pl n) n x6.1 x9.1 (Int.toNat v2)) : Int)) = (↑(solN (mendM b pl n) n i4) : Int)) ∧ (x10.1 ≤ n ∧ x10.1 ≤ x10.2.2.2 ∧ x10.2.2.2 ≤ 9223372036854775807 ∧ (x10.1 = 0 → x10.2.2.2 = 0)) ∧ n - x10.1 < n - x9.1) ∧ (decide ((↑x9.1 : Int) < v2) = false → ∀ (t1 : Bool), t1 = true → ((!t1) = true → ∃ (x10 : Unit), ([] = mdRC b pl n ∧ false = mdOk b pl n) ∧
      True) ∧ ((!t1) = false → ∀ (b4 b5 : Nat), List.length b ≤ b5 → b5 ≤ 9223372036854775807 → (∃ (x11 : Nat), (0 : Int) = (↑x11 : Int) ∧ ((b4 = b4 ∧ 0 = 0 ∧ false = false ∧ List.length b ≤ List.length b ∧ List.length b ≤ b5 ∧ b5 ≤ b5) ∧ ∀ (i4 : Nat), i4 < List.length b → (↑(UInt8.toNat (List.getD b i4 0)) : Int) = (↑(fixF b pl n x11 i4) : Int)) ∧ Nat.le x11 n) ∧ ∀ (b6 : Nat), b6 ≤ n → (decide ((↑b6 :
      Int) < v1) = true → (0 : Int) ≤ (↑b6 : Int) ∧ (↑b6 : Int) < (↑n : Int) ∧ (eb = eb ∧ eo = eo) ∧ b6 < n ∧ (0 : Int) ≤ (↑b6 : Int) ∧ (↑b6 : Int) < (↑n : Int) ∧ (eb = eb ∧ eo = eo) ∧ b6 < n ∧ (0 : Int) ≤ pl b6 ∧ pl b6 < (↑(List.length b) : Int) ∧ (0 : Int) ≤ (↑b6 : Int) ∧ (↑b6 : Int) < (↑x9.1 : Int) ∧ (x9.2.1 = x9.2.1 ∧ x9.2.2.1 = x9.2.2.1) ∧ b6 < x9.1 ∧ ((b4 = b4 ∧ 0 = 0) ∧ Int.toNat (pl b6) <
      List.length b ∧ ∀ (v3 : Int), v3 = IntKind.u8.wrap (↑(BitVec.toNat (BitVec.ofInt (IntKind.u8.bits) (↑(fixF b pl n b6 (Int.toNat (pl b6))) : Int) ^^^ BitVec.ofInt (IntKind.u8.bits) (↑(solN (mendM b pl n) n b6) : Int))) : Int) → (0 : Int) ≤ pl b6 ∧ pl b6 < (↑(List.length b) : Int) ∧ ((b4 = b4 ∧ 0 = 0) ∧ Int.toNat (pl b6) < List.length b ∧ ∀ (v4 : Int), v4 = IntKind.i64.wrap ((↑b6 : Int) + (1 : Int))
      → ∃ (x12 : Nat), v4 = (↑x12 : Int) ∧ ((b4 = b4 ∧ 0 = 0 ∧ false = false ∧ List.length b ≤ List.length b ∧ List.length b ≤ b5 ∧ b5 ≤ b5) ∧ ∀ (i5 : Nat), i5 < List.length b → (if i5 = Int.toNat (pl b6) then v3 else (↑(fixF b pl n b6 i5) : Int)) = (↑(fixF b pl n x12 i5) : Int)) ∧ x12 ≤ n ∧ n - x12 < n - b6) ∧ True) ∧ True) ∧ (decide ((↑b6 : Int) < v1) = false → List.length b ≤ List.length b ∧ (∀ (k1 :
      Nat), k1 < List.length b → true = true) ∧ (b4 = b4 ∧ 0 = 0) ∧ ∀ (s1 : List UInt8), s1 = Byt.of (fun (k : Nat) ↦ (↑(fixF b pl n b6 k) : Int)) (List.length b) → List.length b ≤ List.length b ∧ (∀ (k2 : Nat), k2 < List.length b → true = true) ∧ (b4 = b4 ∧ 0 = 0) ∧ ∀ (s2 : List UInt8), s2 = Byt.of (fun (k : Nat) ↦ (↑(fixF b pl n b6 k) : Int)) (List.length b) → 9 ≤ List.length s2 ∧ List.length s2 ≤ 231
      ∧ ∀ (t2 : Bool), t2 = (encL (List.take (List.length s2 - 8) s2) == s2) → ∃ (x12 : Unit), (s1 = mdRC b pl n ∧ t2 = mdOk b pl n) ∧ True)))))) (by kernel_rfl) ?_
  try simp only [eq_self, true_and, and_true, Nat.le_refl, implies_true, forall_const, Bool.false_eq_true, Bool.true_eq_false, reduceCtorEq, false_imp_iff, true_imp_iff, Int.toNat_zero, Int.toNat_natCast, Nat.zero_lt_one, Int.le_refl, allGet]
  have hMb := mendM_byte b pl n
  intro v1 h1
  subst h1
  refine ⟨⟨(0, (0, 0, 0), fun _ => (0, 0, 0)), rfl, nil_eqv rfl rfl rfl, ⟨rfl, rfl, rfl⟩, fun i hi => absurd hi (Nat.not_lt_zero _), Nat.zero_le _, Nat.le_refl _, by dsimp only; omega, fun _ => rfl, fun i j hi => absurd hi (Nat.not_lt_zero _)⟩, fun y hy => ⟨fun hlt => ?_, fun hge v2 h2 => ?_⟩⟩
  · have hlt : y.1 < n := by have := of_decide_eq_true hlt; omega
    obtain ⟨y1, y2, y3, y4, y5⟩ := hy
    refine ⟨⟨(0, 0, 0, 0), rfl, nil_eqv rfl rfl rfl, ⟨rfl, rfl, rfl⟩, Nat.zero_le _, Nat.le_refl _, by dsimp only; omega, fun _ => rfl⟩, fun w hw => ⟨fun hin => ?_, fun hin => ?_⟩⟩
    · have hin : w.1 < n := by have := of_decide_eq_true hin; omega
      obtain ⟨w1, w2, w3, w4⟩ := hw
      obtain ⟨g1, g2⟩ := p4 w.1 hin
      intro v2 h2 v3 h3
      refine ⟨by omega, by omega, by omega, fun v4 h4 v5 h5 => ?_⟩
      have e3 : v3 = (b.length : Int) - 1 := by rw [h3, h2, w64_id (by omega) (by omega)]
      have e4 : v4 = (b.length : Int) - 1 - pl w.1 := by rw [h4, e3, w64_id (by omega) (by omega)]
      have m1 : (y.1 : Int) * v4 ≤ 8 * 230 := Int.mul_le_mul (by omega) (by omega) (by omega) (by omega)
      have m0 : 0 ≤ (y.1 : Int) * v4 := Int.mul_nonneg (by omega) (by omega)
      have e5 : v5 = (y.1 : Int) * ((b.length : Int) - 1 - pl w.1) := by rw [h5, w64_id (by omega) (by omega), e4]
      rw [e4] at m0 m1
      refine ⟨⟨by omega, by omega⟩, fun v6 h6 => ⟨fun q => q, by omega, by omega, fun b2 b3 b4 c1 c2 v7 h7 => ⟨(w.1 + 1, b2, b3, b4), h7.trans (l_succ (by omega)), ⟨rfl, rfl, rfl, rfl, pt_beq _⟩, ⟨⟨rfl, rfl, pt_beq _, Nat.le_refl _, c1, Nat.le_refl _⟩, fun t ht => ?_⟩, ⟨by dsimp only; omega, c1, c2, fun q => by cases q⟩, by dsimp only; omega⟩⟩⟩
      dsimp only at ht
      by_cases q : t < w.1
      · rw [if_pos q]
      · have q : t = w.1 := by omega
        rw [if_neg (by omega), h6, powI_eq, e5, q]
        unfold mendM
        rw [if_pos hlt, if_pos hin]
    · have hin : w.1 = n := by have := of_decide_eq_false hin; omega
      obtain ⟨w1, w2, w3, w4⟩ := hw
      have hpl := pwN_lt (y.1 : Nat)
      refine ⟨by omega, fun s1 hs1 => ⟨⟨by omega, by omega⟩, fun v3 h3 => ?_⟩⟩
      rw [powI_eq] at h3
      refine ⟨⟨by omega, by omega⟩, fun v4 h4 b1 => ⟨fun q => q, by omega, by omega, fun b2 b3 b4 c1 c2 b5 => ⟨fun q => q, by omega, by omega, fun b6 b7 b8 c3 c4 _ _ hap _ v5 h5 => ?_⟩⟩⟩
      have e4 : v4 = ((mendM b pl n y.1 n : Nat) : Int) := by
        rw [h4, h3, hs1, Int.toNat_natCast]
        unfold mendM
        rw [if_pos hlt, if_neg (Nat.lt_irrefl n), if_pos rfl]
        rfl
      have hap := hap (by rw [pt_beq]; rfl)
      rw [hin] at c1 ⊢
      refine ⟨(y.1 + 1, (b6, b7, b8), fun i => if i < y.1 then y.2.2 i else (b2, b3, b4)), h5.trans (l_succ (by omega)), ⟨rfl, rfl, rfl, rfl, pt_beq _⟩, ⟨⟨rfl, rfl, pt_beq _, Nat.le_refl _, c3, Nat.le_refl _⟩, fun i hi => ?_⟩, fun i hi => ?_, ⟨by dsimp only; omega, c3, c4, fun q => (by cases q), fun i j hi hj hne => ?_⟩, by dsimp only; omega⟩
      · dsimp only at hi ⊢
        by_cases q : i < y.1
        · rw [if_pos q, if_pos q]; exact ⟨rfl, rfl, rfl, rfl, rfl, rfl⟩
        · rw [if_neg q, if_neg q]; exact fam_sveq (pt_beq _)
      · dsimp only at hi ⊢
        by_cases q : i < y.1
        · exact .inl ⟨i, q, by rw [if_pos q], fun c hc => rfl⟩
        · refine .inr (.inr ⟨pt_beq _, by rw [if_neg q], rfl, fun c hc => ?_⟩)
          have q : i = y.1 := by omega
          rw [q]
          by_cases q2 : c < n
          · rw [if_pos q2]
          · rw [if_neg q2, e4, show c = n by omega]
      · dsimp only at hi hj ⊢
        by_cases q : i < y.1
        · rw [if_pos q]
          by_cases q2 : j < y.1
          · rw [if_pos q2]; exact y5 i j q q2 hne
          · rw [if_neg q2]; exact hap i q (by omega)
        · rw [if_neg q]
          by_cases q2 : j < y.1
          · rw [if_pos q2]; exact fun e => hap j q2 (by omega) e.symm
          · omega
  · have hgd : mdGood b pl n = goodM (mendM b pl n) n n := rfl
    have hso : ∀ k, solN (mendM b pl n) n k = roundsM (mendM b pl n) n n k n := fun _ => rfl
    obtain ⟨M, hM⟩ : ∃ M, mendM b pl n = M := ⟨_, rfl⟩
    simp only [hM] at hMb hgd hso ⊢
    obtain ⟨k, A, P⟩ := y
    obtain ⟨y1, y2, y3, y4, y5⟩ := hy
    dsimp only at y1 y2 y3 y4 y5 hge h2 ⊢
    have hk : n = k := by have := of_decide_eq_false hge; omega
    subst hk
    subst h2
    clear hge
    refine ⟨⟨(0, P), rfl, ⟨y2, fun i hi => ⟨rfl, rfl, rfl⟩⟩, fun i hi => ⟨i, hi, rfl, fun c hc => rfl⟩, Nat.zero_le _, rfl, y5⟩, ?_⟩
    rintro ⟨i, P⟩ ⟨hi, hg, hd⟩
    dsimp only at hi hg hd ⊢
    refine ⟨fun hlt => ?_, fun hge => ?_⟩
    · have hin : i < n := by have := of_decide_eq_true hlt; omega
      clear hlt
      refine ⟨⟨i, rfl, by omega, Nat.le_refl _, fun u h1 h2 => by omega⟩, ?_⟩
      rintro k ⟨k1, k2, k3⟩
      have ob : decide ((k : Int) < (n : Int)) = true → k < n := fun q => by have := of_decide_eq_true q; omega
      refine ⟨fun q => by omega, fun q => (by have := ob q; omega), ob, fun q => by omega, fun q => by omega, ob, fun q => by omega, fun t1 ht1 => ⟨fun h v3 h3 => ?_, fun h => ?_⟩⟩
      · have hk : k < n ∧ roundsM M n i k i = 0 := by
          rw [h] at ht1
          by_cases q : (k : Int) < n
          · rw [if_pos (decide_eq_true q)] at ht1
            have := ht1.symm
            simp only [beq_iff_eq] at this
            omega
          · rw [if_neg (by rw [decide_eq_false q]; decide)] at ht1; cases ht1
        refine ⟨k + 1, h3.trans (l_succ (by omega)), ⟨by omega, by omega, fun u h1 h2 => ?_⟩, by omega⟩
        by_cases q : u = k
        · rw [q]; exact hk.2
        · exact k3 u h1 (by omega)
      have hno : ∀ t, t ≤ k - i → noneTo (fun t => roundsM M n i (i + t) i != 0) t = true := fun t ht => noneTo_iff.2 fun u hu => by simp [k3 (i + u) (by omega) (by omega)]
      refine ⟨fun hkN => ?_, fun hkN => ?_⟩
      · have hkN : k = n := by
          simp only [beq_iff_eq] at hkN
          omega
        have hgn : goodM M n n = false := by
          cases hgn : goodM M n n with
          | false => rfl
          | true =>
            have h := goodM_mono (i := i + 1) (by omega) hgn
            simp only [goodM, Bool.and_eq_true] at h
            have h := of_decide_eq_true h.2
            have hf : pivF (roundsM M n i) n i = -1 := fstI_none (hno _ (by omega))
            omega
        refine fun t2 ht2 => ⟨fun _ => ⟨(), ?_, ?_⟩, fun q => (by rw [ht2] at q; cases q)⟩
        · unfold mdRC; rw [hgd, hgn]; rfl
        · unfold mdOk; rw [hgd, hgn]; rfl
      have hkN : k < n ∧ roundsM M n i k i ≠ 0 := by
        have h1 : k ≠ n := fun q => by rw [q] at hkN; simp at hkN
        refine ⟨by omega, fun q => ?_⟩
        rw [h, if_pos (decide_eq_true (show (k : Int) < n by omega)), q] at ht1
        simp at ht1
      obtain ⟨kN, kR⟩ := hkN
      have hf : pivF (roundsM M n i) n i = ((k - i : Nat) : Int) := fstI_at (p := fun t => roundsM M n i (i + t) i != 0) (hno _ (Nat.le_refl _)) (by rw [show i + (k - i) = k by omega]; simp [kR]) (by omega)
      have hpk : pivK (roundsM M n i) n i = k := by unfold pivK; omega
      have hp0 : 0 ≤ pivF (roundsM M n i) n i := by omega
      have hSi : swR M n i i i ≠ 0 := by
        unfold swR swapM
        rw [hpk]
        by_cases q : i = k
        · rw [if_pos q]; rw [← q] at kR; exact kR
        · rw [if_neg q, if_pos rfl]; exact kR
      clear ht1 h hkN hno k3 ob
      refine ⟨⟨by omega, by omega, by omega, by omega, ⟨by omega, by omega, by omega, by omega, by omega, by omega, by omega, by omega, swP P i k, ⟨y2, fun j _ => sw_row P _ i k j⟩, fun j hj => sw_fam P hin kN hpk j hj, hp0, sw_dis hd hin kN⟩, by omega, by omega, by omega, by omega, by omega, by omega, by omega, by omega, swP P i k, ⟨y2, fun j _ => sw_row P _ i k j⟩, fun j hj => sw_fam P hin kN hpk j hj, hp0, sw_dis hd hin kN⟩, ?_⟩
      clear hd hf hpk kR k1 k2
      rintro P ⟨-, hd⟩
      have hS := swR_byte hMb n i
      have hrd : roundsM M n (i + 1) = elimM (swR M n i) i n := rfl
      have hgd : goodM M n (i + 1) = true := by
        simp only [goodM, Bool.and_eq_true]
        exact ⟨hg, decide_eq_true hp0⟩
      obtain ⟨S, hSe⟩ : ∃ S, swR M n i = S := ⟨_, rfl⟩
      simp only [hSe] at hS hSi hrd ⊢
      have hb := fun r t => hS r t
      refine ⟨by omega, by omega, by omega, by omega, by omega, by omega, by omega, ⟨by omega, by omega⟩, ⟨by omega, by have := hb i i; omega⟩, fun v4 h4 v5 _ => ?_⟩
      have e4 : v4 = ((gdiv 1 (S i i) : Nat) : Int) := by
        rw [h4]
        unfold divI
        rw [if_neg (by omega)]
        rfl
      have l4 := gdiv_lt 1 (S i i)
      clear h4
      subst e4
      refine ⟨⟨0, rfl, fun j hj => ⟨j, hj, rfl, fun c hc => by rw [if_neg (by omega)]⟩, Nat.zero_le _⟩, fun c hc => ⟨fun hcn => ?_, fun hcn => ?_⟩⟩
      · have hcn : c ≤ n := by have := of_decide_eq_true hcn; omega
        have hbc := hb i c
        simp only [Nat.lt_irrefl, and_false, if_false]
        refine ⟨by omega, by omega, by omega, by omega, by omega, by omega, by omega, by omega, by omega, by omega, ⟨by omega, by omega⟩, ⟨by omega, by omega⟩, fun v6 h6 => ⟨by omega, by omega, by omega, fun j hj hne => hd j i hj hin hne, by omega, fun v7 h7 => ⟨c + 1, h7.trans (l_succ (by omega)), fun j hj => ⟨j, hj, rfl, ?_⟩, by omega, by omega⟩⟩⟩
        have e6 : v6 = ((unitR S i c : Nat) : Int) := by
          rw [h6]
          show ((gmul (S i c) (gdiv 1 (S i i)) : Nat) : Int) = _
          rw [gmul_comm hbc l4]
          rfl
        by_cases q : j = i
        · rw [if_pos q]
          refine ⟨rfl, fun t ht => ?_⟩
          show (if t = c then v6 else _) = _
          by_cases q2 : t = c
          · rw [if_pos q2, if_pos ⟨q, by omega⟩, e6, q2]
          · rw [if_neg q2]
            by_cases q3 : t < c
            · rw [if_pos (by first | exact q3 | exact ⟨rfl, q3⟩), if_pos ⟨q, by omega⟩]
            · rw [if_neg (by omega), if_neg (by omega), q]
        · rw [if_neg q]
          refine ⟨rfl, fun t ht => ?_⟩
          show ((_ : Nat) : Int) = _
          rw [if_neg (by omega), if_neg (by omega)]
      have hcn : c = n + 1 := by have := of_decide_eq_false hcn; omega
      subst hcn
      refine ⟨⟨0, rfl, fun j hj => ⟨j, hj, rfl, fun t ht => ?_⟩, Nat.zero_le _⟩, fun r hr => ⟨fun hrn => ?_, fun hrn v6 h6 => ?_⟩⟩
      · by_cases q : j = i
        · rw [if_pos ⟨q, ht⟩, q, el_self]
        · rw [if_neg (fun h => q h.1), el_ge q (Nat.not_lt_zero _)]
      · have hrn : r < n := by have := of_decide_eq_true hrn; omega
        refine ⟨by omega, by omega, by omega, by omega, by omega, by omega, by omega, ⟨0, rfl, fun j hj => ⟨j, hj, rfl, fun t ht => by rw [if_neg (by omega)]⟩, Nat.zero_le _, fun _ => rfl⟩, ?_⟩
        rintro c ⟨hc, hc0⟩ t3 ht3
        have hEb := fun j t => elimM_byte hS i r j t
        refine ⟨fun h3 => ?_, fun h3 v7 h7 => ⟨r + 1, h7.trans (l_succ (by omega)), fun j hj => ⟨j, hj, rfl, fun t ht => ?_⟩, by omega, by omega⟩⟩
        · have hri : r ≠ i ∧ c ≤ n := by
            rw [h3] at ht3
            by_cases q : ((r : Int) != (i : Int)) = true
            · rw [if_pos q] at ht3
              have := of_decide_eq_true ht3.symm
              simp only [bne_iff_ne, ne_eq] at q
              omega
            · rw [if_neg q] at ht3; cases ht3
          obtain ⟨hri, hcn⟩ := hri
          clear ht3
          have key : ∀ v7 : Int, v7 = mulI ((elimM S i r r i : Nat) : Int) ((elimM S i r i c : Nat) : Int) → ∀ v8 : Int, v8 = IntKind.u8.wrap ((BitVec.ofInt IntKind.u8.bits ((elimM S i r r c : Nat) : Int) ^^^ BitVec.ofInt IntKind.u8.bits v7).toNat : Int) → v8 = ((elimM S i (r + 1) r c : Nat) : Int) := fun v7 h7 v8 h8 => by
            rw [el_ge hri (Nat.lt_irrefl r), el_self] at h7
            rw [el_ge hri (Nat.lt_irrefl r)] at h8
            rw [el_lt hri (Nat.lt_succ_self r), h8, h7]
            exact xor8 (hb r c) (gmul_lt (hb r i))
          have fin : ∀ v8 : Int, v8 = ((elimM S i (r + 1) r c : Nat) : Int) → ∀ j, j < n → eqvA (if j = r then SV.arr (n + 1) 1 fun t => SV.int IntKind.u8 (if t = c then v8 else ((if t < c then elimM S i (r + 1) r t else elimM S i r r t : Nat) : Int)) else SV.arr (n + 1) 1 fun t => SV.int IntKind.u8 ((if j = r ∧ t < c then elimM S i (r + 1) j t else elimM S i r j t : Nat) : Int)) (SV.arr (n + 1) 1 fun t => SV.int IntKind.u8 ((if j = r ∧ t < c + 1 then elimM S i (r + 1) j t else elimM S i r j t : Nat) : Int)) := fun v8 h8 j hj => by
            by_cases q : j = r
            · rw [if_pos q]
              refine ⟨rfl, fun t ht => ?_⟩
              show (if t = c then v8 else _) = _
              by_cases q2 : t = c
              · rw [if_pos q2, if_pos ⟨q, by omega⟩, h8, q2, q]
              · rw [if_neg q2]
                by_cases q3 : t < c
                · rw [if_pos q3, if_pos ⟨q, by omega⟩, q]
                · rw [if_neg q3, if_neg (by omega), q]
            · rw [if_neg q]
              refine ⟨rfl, fun t ht => ?_⟩
              show ((_ : Nat) : Int) = _
              rw [if_neg (fun h => q h.1), if_neg (fun h => q h.1)]
          have b1 := hEb r i
          have b2 := hEb i c
          simp only [Nat.lt_irrefl, and_false, if_false, true_and]
          refine ⟨by omega, by omega, by omega, by omega, by omega, by omega, by omega, by omega, by omega, by omega, by omega, by omega, by omega, ⟨by omega, by omega, by omega, by omega, ⟨by omega, by omega⟩, ⟨by omega, by omega⟩, fun v7 h7 v8 h8 => ⟨by omega, by omega, by omega, fun j hj hne => hd j r hj hrn hne, by omega, fun v9 h9 => ⟨c + 1, h9.trans (l_succ (by omega)), fun j hj => ⟨j, hj, rfl, fin v8 (key v7 h7 v8 h8) j hj⟩, ⟨by omega, fun q => absurd q hri⟩, by omega⟩⟩⟩, by omega, by omega, ⟨by omega, by omega⟩, ⟨by omega, by omega⟩, fun v7 h7 => ⟨by omega, by omega, fun v8 h8 => ⟨by omega, by omega, by omega, fun j hj hne => hd j r hj hrn hne, by omega, fun v9 h9 => ⟨c + 1, h9.trans (l_succ (by omega)), fun j hj => ⟨j, hj, rfl, fin v8 (key v7 h7 v8 h8) j hj⟩, ⟨by omega, fun q => absurd q hri⟩, by omega⟩⟩⟩⟩
        · by_cases q : j = r
          · by_cases q2 : r = i
            · rw [if_neg (by have := hc0 q2; omega), el_step (.inr (by omega))]
            · have hcn : c = n + 1 := by
                rw [h3] at ht3
                rw [if_pos (by simp only [bne_iff_ne, ne_eq]; omega)] at ht3
                have := of_decide_eq_false ht3.symm
                omega
              rw [if_pos ⟨q, by omega⟩]
          · rw [if_neg (fun h => q h.1), el_step (.inl q)]
      · have hrn : r = n := by have := of_decide_eq_false hrn; omega
        subst hrn
        exact ⟨(i + 1, P), h6.trans (l_succ (by omega)), ⟨y2, fun j hj => ⟨rfl, rfl, rfl⟩⟩, fun j hj => ⟨j, hj, rfl, fun t ht => by rw [hrd]⟩, ⟨by dsimp only; omega, hgd, hd⟩, by dsimp only; omega⟩
    · have hge : n = i := by have := of_decide_eq_false hge; omega
      subst hge
      refine ⟨⟨(0, 0, 0, 0), rfl, nil_eqv rfl rfl rfl, ⟨rfl, rfl, rfl⟩, Nat.zero_le _, Nat.le_refl _, by dsimp only; omega, fun _ => rfl⟩, fun y hy => ⟨fun hlt => ?_, fun hge => ?_⟩⟩
      · have hlt : y.1 < n := by have := of_decide_eq_true hlt; omega
        obtain ⟨z1, z2, z3, z4⟩ := hy
        refine ⟨by omega, by omega, hlt, by omega, by omega, hlt, by omega, fun q => q, by omega, by omega, fun c1 c2 c3 h3 h4 v3 hv3 => ⟨(y.1 + 1, c1, c2, c3), hv3.trans (l_succ (by omega)), ⟨rfl, rfl, rfl, rfl, pt_beq _⟩, ⟨⟨rfl, rfl, pt_beq _, Nat.le_refl _, h3, Nat.le_refl _⟩, fun t ht => ?_⟩, ⟨by dsimp only; omega, h3, h4, fun q => by cases q⟩, by dsimp only; omega⟩⟩
        dsimp only at ht
        by_cases q : t < y.1
        · rw [if_pos q]
        · rw [if_neg q, show t = y.1 by omega, Int.toNat_natCast]
          rfl
      · obtain ⟨m, a1, a2, a3⟩ := y
        obtain ⟨z1, z2, z3, z4⟩ := hy
        dsimp only at z1 z2 z3 z4 hge ⊢
        have hm : n = m := by have := of_decide_eq_false hge; omega
        subst hm
        intro t1 ht1
        refine ⟨fun q => (by rw [ht1] at q; cases q), fun _ b5 c1 c2 => ⟨⟨0, rfl, ⟨c1, fun k hk => rfl⟩, Nat.zero_le _⟩, fun k hk => ⟨fun hkn => ?_, fun hkn s1 hs1 s2 hs2 => ?_⟩⟩⟩
        · have hkn : k < n := by have := of_decide_eq_true hkn; omega
          obtain ⟨g1, g2⟩ := p4 k hkn
          refine ⟨by omega, by omega, hkn, by omega, by omega, hkn, g1, g2, by omega, by omega, hkn, by omega, fun v3 h3 => ⟨g1, g2, by omega, fun v4 h4 => ⟨k + 1, h4.trans (l_succ (by omega)), ⟨c1, fun j hj => ?_⟩, by omega, by omega⟩⟩⟩
          rw [xor8 (fixF_lt b pl n k _) (solN_lt hMb n k)] at h3
          show _ = ((if (j : Int) = pl k then Nat.xor (fixF b pl n k j) (solN (mendM b pl n) n k) else fixF b pl n k j : Nat) : Int)
          rw [hM]
          by_cases q : j = (pl k).toNat
          · rw [if_pos q, if_pos (by omega), h3, q]
          · rw [if_neg q, if_neg (by omega)]
        · have hkn : n = k := by have := of_decide_eq_false hkn; omega
          subst hkn
          have l2 : s2.length = b.length := by rw [hs2]; exact ofN_len _ _
          have e2 : s2 = ofN (fixF b pl n n) b.length := hs2
          refine ⟨by omega, by omega, fun t3 ht3 => ⟨(), ?_, ?_⟩⟩
          · unfold mdRC; rw [hgd, hg, hs1]; rfl
          · unfold mdOk mdC
            rw [hgd, hg, ht3, l2, e2, take_ofN _ (by omega)]
            rfl
theorem mdRC_len (b : List UInt8) (pl : Nat → Int) (n : Nat) : (mdRC b pl n).length ≤ b.length := by
  unfold mdRC
  split
  · rw [ofN_len]; exact Nat.le_refl _
  · exact Nat.zero_le _
theorem mendedR_ok : PcOk Tryz.prog 29 mendedR := pc_of_ec mendedR0_ok (by intro args H; rcases args with _ | ⟨_, _ | ⟨_, _ | ⟨_, _⟩⟩⟩ <;> rfl) (fun x h => ⟨by
  have h2 : x.1.length ≤ 231 := h.2.1
  have := mdRC_len x.1 x.2.1.f x.2.1.n
  show (mdRC x.1 x.2.1.f x.2.1.n).length ≤ 9223372036854775807
  omega, trivial, trivial⟩)
end Galois
