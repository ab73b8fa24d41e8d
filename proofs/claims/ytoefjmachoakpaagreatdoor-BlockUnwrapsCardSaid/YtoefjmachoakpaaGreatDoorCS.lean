/-
  OWN WORK. Block: Pick; spoil.
-/
import Derived.Test.YtoefjmachoakpaaGreatDoorBF
namespace Galois
open Go Go.Proofs Eng
set_option linter.unusedVariables false
set_option linter.unusedSimpArgs false
set_option maxHeartbeats 8000000
set_option maxRecDepth 100000

def pickF (x n : Int) : Int := if IntKind.i64.wrap (x.tmod n) < 0 then IntKind.i64.wrap (IntKind.i64.wrap (x.tmod n) + n) else IntKind.i64.wrap (x.tmod n)
abbrev aPick : ArgL (Int × Int × Unit) := .cons (.elt (.int .i64)) (.cons (.elt (.int .i64)) .nil)
def pick := pcOf aPick (fun x => [0 < x.2.1, x.2.1 ≤ 1000000]) (fun x => .int .i64 (pickF x.1 x.2.1))
theorem pick_ok : PcOk Tryz.prog 33 pick := by
  refine pcOf_run (fun _ => E0_ok) Tryz.func33 rfl (by kernel_rfl) (fun _ => trivial) (fun _ => []) (fun _ => Nat.le_of_ble_eq_true rfl) (fun ⟨x, n, ()⟩ hp hw0 => ?_)
  refine vc_of (q :=
      n ≠ (0 : Int) ∧ ∀ (v1 : Int), v1 = Int.tmod x n → (decide (v1 < (0 : Int)) = true → ∀ (v2 : Int), v2 = IntKind.i64.wrap (v1 + n) → v2 = pickF x n) ∧ (decide (v1 < (0 : Int)) = false → v1 = pickF x n)) (by kernel_rfl) ?_
  simp
  have this : 0 < n := hp.1
  have hn : n ≤ 1000000 := hp.2.1
  have h1 : x.tmod n < n := Int.tmod_lt_of_pos x this
  have h2 : -n < x.tmod n := Int.lt_tmod_of_pos x this
  have hh : IntKind.i64.wrap (x.tmod n) = x.tmod n := w64_id (by omega) (by omega)
  refine ⟨by omega, fun h => ?_, fun h => ?_⟩
  · simp only [pickF, hh]; rw [if_pos h]
  · simp only [pickF, hh]; rw [if_neg (by omega)]
theorem pick_range (x : Int) {n : Int} (h0 : 0 < n) (hn : n ≤ 1000000) : 0 ≤ pickF x n ∧ pickF x n < n := by
  have h1 : x.tmod n < n := Int.tmod_lt_of_pos x h0
  have h2 : -n < x.tmod n := Int.lt_tmod_of_pos x h0
  unfold pickF
  rw [w64_id (x := x.tmod n) (by omega) (by omega)]
  split
  · rw [w64_id (by omega) (by omega)]; omega
  · omega
abbrev ErrD := Int × Int × Bool × Unit
abbrev aSpoil : ArgL (List UInt8 × RowD ErrD × Unit) := .cons (.elt .str) (.cons (.row (.agg (.cons (.int .i64) (.cons (.int .u8) (.cons .bool .nil))))) .nil)
/-- The place of an error in a word of length n. -/
def erP (f : Nat → ErrD) (n i : Nat) : Int := pickF (f i).1 n
/-- The bytes behind the first i errors. -/
def spW (w : List UInt8) (f : Nat → ErrD) : Nat → Nat → Nat
  | 0 => co w
  | i + 1 => fun k => if k = (erP f w.length i).toNat then Nat.xor (spW w f i k) ((f i).2.1).toNat else spW w f i k
/-- The places that are told, of the first i. -/
def spO (f : Nat → ErrD) (n : Nat) : Nat → List Int
  | 0 => []
  | i + 1 => if (f i).2.2.1 then spO f n i ++ [erP f n i] else spO f n i
theorem spW_lt (w : List UInt8) (f : Nat → ErrD) : ∀ i, (∀ t, t < i → 0 ≤ (f t).2.1 ∧ (f t).2.1 ≤ 255) → ∀ k, spW w f i k < 256
  | 0, _, k => co_lt w k
  | i + 1, h, k => by
    have ih := spW_lt w f i (fun t ht => h t (by omega)) k
    have hi := h i (by omega)
    show (if k = (erP f w.length i).toNat then Nat.xor (spW w f i k) ((f i).2.1).toNat else spW w f i k) < 256
    split
    · exact xor_lt ih (by omega)
    · exact ih
theorem spO_len (f : Nat → ErrD) (n : Nat) : ∀ i, (spO f n i).length ≤ i
  | 0 => Nat.le_refl _
  | i + 1 => by
    have ih := spO_len f n i
    show (if (f i).2.2.1 then spO f n i ++ [erP f n i] else spO f n i).length ≤ i + 1
    split
    · rw [List.length_append]; simp; exact ih
    · omega
def spN (x : List UInt8 × RowD ErrD × Unit) : List Int := spO x.2.1.f x.1.length x.2.1.n
abbrev spE (x : List UInt8 × RowD ErrD × Unit) (y : Nat × Nat × Nat) : Ent := ⟨1, y.1, y.2.1, 1, (spN x).length, fun k => .int .i64 (gL (spN x) k), true, false, y.2.2, 3, Nat.beq (spN x).length 0, none⟩
def spoil := ecC aSpoil (fun x => [1 ≤ x.1.length, x.1.length ≤ 100000, x.2.1.n ≤ 100000, ∀ i, i < x.2.1.n → 0 ≤ (x.2.1.f i).2.1 ∧ (x.2.1.f i).2.1 ≤ 255]) (fun x (y : Nat × Nat × Nat) => (spN x).length ≤ y.2.2 ∧ y.2.2 ≤ 9223372036854775807 ∧ ((spN x).length = 0 → y.2.2 = 0))
  (fun x y => .tup [.str (ofN (spW x.1 x.2.1.f x.2.1.n) x.1.length), .slice 1 y.1 y.2.1 [] 1 0 (spN x).length y.2.2 (Nat.beq (spN x).length 0)]) (fun x y => [spE x y]) 1
def EBs : Env := E0.addP 33 pick
theorem EBs_ok : EnvOk Tryz.prog EBs := E0_ok.addP pick_ok
def spoilA (x : List UInt8 × RowD ErrD × Unit) : List An :=
  [.loopD 4 (fun fr H => ⟨4, Nat × Nat × Nat × Nat, [8, 7], fun y => [.int .i64 (y.1 : Nat), .slice 300 y.2.1 y.2.2.1 [] 1 0 (spO x.2.1.f x.1.length y.1).length y.2.2.2 (Nat.beq (spO x.2.1.f x.1.length y.1).length 0)], [1], fun y => [{ entG H 1 with get := fun k => .int .u8 (spW x.1 x.2.1.f y.1 k : Nat) }, ⟨300, y.2.1, y.2.2.1, 1, (spO x.2.1.f x.1.length y.1).length, fun k => .int .i64 (gL (spO x.2.1.f x.1.length y.1) k), true, false, y.2.2.2, 3, Nat.beq (spO x.2.1.f x.1.length y.1).length 0, none⟩], fun y => y.1 ≤ x.2.1.n ∧ (spO x.2.1.f x.1.length y.1).length ≤ y.2.2.2 ∧ y.2.2.2 ≤ 9223372036854775807 ∧ ((spO x.2.1.f x.1.length y.1).length = 0 → y.2.2.2 = 0), fun y => x.2.1.n - y.1⟩),
   .draw 7 ((.take 0 (.take 1 (.take 2 (.take 3 (.take 4 (.take 6 (.take 7 (.take 8 (.take 9 (.take 10 (.br 5 (.take 11 (.take 12 (.br 13 .fin .stop))) .stop)))))))))))) [6, 100001]]
theorem spoil_ok : EcOk Tryz.prog 11 spoil := by
  refine ecC_run (fun _ => EBs_ok) Tryz.func11 rfl (by kernel_rfl) [] (fun x => spoilA x) (fun _ => Nat.le_of_ble_eq_true rfl) (fun ⟨w, ⟨eb, eo, n, cp, z, f⟩, ()⟩ hp hw => ?_)
  refine vc_of (q :=
      ∀ (b1 b2 : Nat), List.length w ≤ b2 → b2 ≤ 9223372036854775807 → (∃ (x1 : Nat × Nat × Nat × Nat), (0 : Int) = (↑x1.1 : Int) ∧ SVeq (SV.slice 999999 0 0 [] 0 0 0 0 true) (SV.slice 300 x1.2.1 x1.2.2.1 [] 1 0 (List.length (spO f (List.length w) x1.1)) x1.2.2.2 (Nat.beq (List.length (spO f (List.length w) x1.1)) 0)) ∧ ((b1 = b1 ∧ 0 = 0 ∧ false = false ∧ List.length w ≤ List.length w ∧ List.length w ≤
      b2 ∧ b2 ≤ b2) ∧ ∀ (i1 : Nat), i1 < List.length w → (↑(UInt8.toNat (List.getD w i1 0)) : Int) = (↑(spW w f x1.1 i1) : Int)) ∧ (Nat.beq (List.length (spO f (List.length w) x1.1)) 0 = true ∧ List.length (spO f (List.length w) x1.1) = 0 ∧ x1.2.2.2 = 0) ∧ x1.1 ≤ n ∧ List.length (spO f (List.length w) x1.1) ≤ x1.2.2.2 ∧ x1.2.2.2 ≤ 9223372036854775807 ∧ (List.length (spO f (List.length w) x1.1) = 0 →
      x1.2.2.2 = 0)) ∧ ∀ (x2 : Nat × Nat × Nat × Nat), x2.1 ≤ n ∧ List.length (spO f (List.length w) x2.1) ≤ x2.2.2.2 ∧ x2.2.2.2 ≤ 9223372036854775807 ∧ (List.length (spO f (List.length w) x2.1) = 0 → x2.2.2.2 = 0) → ∀ (v1 : Int), v1 = (↑n : Int) → (decide ((↑x2.1 : Int) < v1) = true → (0 : Int) ≤ (↑x2.1 : Int) ∧ (↑x2.1 : Int) < (↑n : Int) ∧ (eb = eb ∧ eo = eo) ∧ Int.toNat (↑x2.1 : Int) < n ∧ ∀ (v2 :
      Int), v2 = (↑(List.length w) : Int) → 0 < v2 ∧ v2 ≤ 1000000 ∧ ∀ (v3 : Int), v3 = pickF ((f (Int.toNat (↑x2.1 : Int))).1) v2 → 0 ≤ v3 ∧ v3 < (↑(List.length w) : Int) ∧ (0 : Int) ≤ (↑x2.1 : Int) ∧ (↑x2.1 : Int) < (↑n : Int) ∧ (eb = eb ∧ eo = eo) ∧ Int.toNat (↑x2.1 : Int) < n ∧ ((b1 = b1 ∧ 0 = 0) ∧ Int.toNat v3 < List.length w ∧ ∀ (v4 : Int), v4 = IntKind.u8.wrap (↑(BitVec.toNat (BitVec.ofInt
      (IntKind.u8.bits) (↑(spW w f x2.1 (Int.toNat v3)) : Int) ^^^ BitVec.ofInt (IntKind.u8.bits) (((f (Int.toNat (↑x2.1 : Int))).2).1))) : Int) → 0 ≤ v3 ∧ v3 < (↑(List.length w) : Int) ∧ ((b1 = b1 ∧ 0 = 0) ∧ Int.toNat v3 < List.length w ∧ (0 : Int) ≤ (↑x2.1 : Int) ∧ (↑x2.1 : Int) < (↑n : Int) ∧ (eb = eb ∧ eo = eo) ∧ Int.toNat (↑x2.1 : Int) < n ∧ ((((f (Int.toNat (↑x2.1 : Int))).2).2).1 = true → ∀ (b3 :
      Nat), (x2.2.1 = x2.2.1 ∧ x2.2.2.1 = x2.2.2.1) ∧ (Nat.beq (List.length (spO f (List.length w) x2.1)) 0 = true → Nat.beq (List.length (spO f (List.length w) x2.1)) 0 = true) ∧ 0 = 0 ∧ List.length (spO f (List.length w) x2.1) ≤ List.length (spO f (List.length w) x2.1) ∧ x2.2.2.2 ≤ x2.2.2.2 ∧ (List.length (spO f (List.length w) x2.1) + 1) * 8 ≤ 140737488355328 ∧ List.length (spO f (List.length w) x2.1)
      + 1 ≤ 9223372036854775807 ∧ 1 ≤ 1 ∧ (b3 = b3 ∧ 0 = 0) ∧ ∀ (b4 b5 b6 : Nat), List.length (spO f (List.length w) x2.1) + 1 ≤ b6 → b6 ≤ 9223372036854775807 → (Nat.beq (List.length (spO f (List.length w) x2.1)) 0 = true → 1 = 0 → b6 = 0) → ∀ (v5 : Int), v5 = IntKind.i64.wrap ((↑x2.1 : Int) + (1 : Int)) → ∃ (x3 : Nat × Nat × Nat × Nat), v5 = (↑x3.1 : Int) ∧ (b4 = x3.2.1 ∧ b5 = x3.2.2.1 ∧ 0 = 0 ∧
      List.length (spO f (List.length w) x2.1) + 1 = List.length (spO f (List.length w) x3.1) ∧ b6 = x3.2.2.2 ∧ (Nat.beq (List.length (spO f (List.length w) x2.1)) 0 && decide (1 = 0)) = Nat.beq (List.length (spO f (List.length w) x3.1)) 0) ∧ ((b1 = b1 ∧ 0 = 0 ∧ false = false ∧ List.length w ≤ List.length w ∧ List.length w ≤ b2 ∧ b2 ≤ b2) ∧ ∀ (i2 : Nat), i2 < List.length w → (if i2 = Int.toNat v3 then v4
      else (↑(spW w f x2.1 i2) : Int)) = (↑(spW w f x3.1 i2) : Int)) ∧ ((b4 = x3.2.1 ∧ b5 = x3.2.2.1 ∧ (Nat.beq (List.length (spO f (List.length w) x2.1)) 0 && decide (1 = 0)) = Nat.beq (List.length (spO f (List.length w) x3.1)) 0 ∧ List.length (spO f (List.length w) x3.1) ≤ List.length (spO f (List.length w) x2.1) + 1 ∧ List.length (spO f (List.length w) x3.1) ≤ x3.2.2.2 ∧ x3.2.2.2 ≤ b6) ∧ ∀ (i3 : Nat),
      i3 < List.length (spO f (List.length w) x3.1) → (if i3 < List.length (spO f (List.length w) x2.1) then gL (spO f (List.length w) x2.1) i3 else v3) = gL (spO f (List.length w) x3.1) i3) ∧ (x3.1 ≤ n ∧ List.length (spO f (List.length w) x3.1) ≤ x3.2.2.2 ∧ x3.2.2.2 ≤ 9223372036854775807 ∧ (List.length (spO f (List.length w) x3.1) = 0 → x3.2.2.2 = 0)) ∧ n - x3.1 < n - x2.1) ∧ ((((f (Int.toNat (↑x2.1 :
      Int))).2).2).1 = false → ∀ (v5 : Int), v5 = IntKind.i64.wrap ((↑x2.1 : Int) + (1 : Int)) → ∃ (x3 : Nat × Nat × Nat × Nat), v5 = (↑x3.1 : Int) ∧ (x2.2.1 = x3.2.1 ∧ x2.2.2.1 = x3.2.2.1 ∧ 0 = 0 ∧ List.length (spO f (List.length w) x2.1) = List.length (spO f (List.length w) x3.1) ∧ x2.2.2.2 = x3.2.2.2 ∧ Nat.beq (List.length (spO f (List.length w) x2.1)) 0 = Nat.beq (List.length (spO f (List.length w)
      x3.1)) 0) ∧ ((b1 = b1 ∧ 0 = 0 ∧ false = false ∧ List.length w ≤ List.length w ∧ List.length w ≤ b2 ∧ b2 ≤ b2) ∧ ∀ (i2 : Nat), i2 < List.length w → (if i2 = Int.toNat v3 then v4 else (↑(spW w f x2.1 i2) : Int)) = (↑(spW w f x3.1 i2) : Int)) ∧ ((x2.2.1 = x3.2.1 ∧ x2.2.2.1 = x3.2.2.1 ∧ Nat.beq (List.length (spO f (List.length w) x2.1)) 0 = Nat.beq (List.length (spO f (List.length w) x3.1)) 0 ∧
      List.length (spO f (List.length w) x3.1) ≤ List.length (spO f (List.length w) x2.1) ∧ List.length (spO f (List.length w) x3.1) ≤ x3.2.2.2 ∧ x3.2.2.2 ≤ x2.2.2.2) ∧ ∀ (i3 : Nat), i3 < List.length (spO f (List.length w) x3.1) → gL (spO f (List.length w) x2.1) i3 = gL (spO f (List.length w) x3.1) i3) ∧ (x3.1 ≤ n ∧ List.length (spO f (List.length w) x3.1) ≤ x3.2.2.2 ∧ x3.2.2.2 ≤ 9223372036854775807 ∧
      (List.length (spO f (List.length w) x3.1) = 0 → x3.2.2.2 = 0)) ∧ n - x3.1 < n - x2.1)) ∧ True) ∧ True) ∧ (decide ((↑x2.1 : Int) < v1) = false → List.length w ≤ List.length w ∧ (∀ (k1 : Nat), k1 < List.length w → true = true) ∧ (b1 = b1 ∧ 0 = 0) ∧ ∀ (s1 : List UInt8), s1 = Byt.of (fun (k : Nat) ↦ (↑(spW w f x2.1 k) : Int)) (List.length w) → ∃ (x3 : Nat × Nat × Nat), (s1 = ofN (spW w f n)
      (List.length w) ∧ x2.2.1 = x3.1 ∧ x2.2.2.1 = x3.2.1 ∧ 0 = 0 ∧ List.length (spO f (List.length w) x2.1) = List.length (spN (w, Eng.RowD.mk eb eo n cp z f, ())) ∧ x2.2.2.2 = x3.2.2 ∧ Nat.beq (List.length (spO f (List.length w) x2.1)) 0 = Nat.beq (List.length (spN (w, Eng.RowD.mk eb eo n cp z f, ()))) 0) ∧ ((x2.2.1 = x3.1 ∧ x2.2.2.1 = x3.2.1 ∧ Nat.beq (List.length (spO f (List.length w) x2.1)) 0 =
      Nat.beq (List.length (spN (w, Eng.RowD.mk eb eo n cp z f, ()))) 0 ∧ List.length (spN (w, Eng.RowD.mk eb eo n cp z f, ())) ≤ List.length (spO f (List.length w) x2.1) ∧ List.length (spN (w, Eng.RowD.mk eb eo n cp z f, ())) ≤ x3.2.2 ∧ x3.2.2 ≤ x2.2.2.2) ∧ ∀ (i2 : Nat), i2 < List.length (spN (w, Eng.RowD.mk eb eo n cp z f, ())) → gL (spO f (List.length w) x2.1) i2 = gL (spN (w, Eng.RowD.mk eb eo n cp z
      f, ())) i2) ∧ List.length (spN (w, Eng.RowD.mk eb eo n cp z f, ())) ≤ x3.2.2 ∧ x3.2.2 ≤ 9223372036854775807 ∧ (List.length (spN (w, Eng.RowD.mk eb eo n cp z f, ())) = 0 → x3.2.2 = 0))) (by kernel_rfl) ?_
  try simp only [eq_self, true_and, and_true, Nat.le_refl, implies_true, forall_const, Bool.false_eq_true, Bool.true_eq_false, reduceCtorEq, false_imp_iff, true_imp_iff, Int.toNat_zero, Int.toNat_natCast, Nat.zero_lt_one, Int.le_refl, allGet]
  obtain ⟨p1, p2, p3, p4, -⟩ := hp
  dsimp only at p1 p2 p3 p4
  refine fun b2 hb1 hb2 => ⟨⟨(0, 0, 0, 0), rfl, nil_eqv rfl rfl rfl, ⟨hb1, fun k hk => rfl⟩, ⟨rfl, rfl, rfl⟩, Nat.zero_le _, Nat.le_refl _, by dsimp only; omega, fun _ => rfl⟩, ?_⟩
  rintro ⟨i, a1, a2, cap⟩ ⟨j1, j2, j3, j4⟩ v1 hv1
  dsimp only at j1 j2 j3 j4 ⊢
  refine ⟨fun hlt => ?_, fun hge s1 hs1 => ?_⟩
  · have hlt := of_decide_eq_true hlt
    have hin : i < n := by omega
    obtain ⟨q1, q2⟩ := p4 i hin
    have hO := spO_len f w.length i
    refine ⟨by omega, by omega, hin, fun v2 hv2 => ⟨by omega, by omega, fun v3 hv3 => ?_⟩⟩
    subst hv2
    have e3 : v3 = erP f w.length i := hv3
    obtain ⟨r1, r2⟩ := pick_range (f i).1 (n := (w.length : Int)) (by omega) (by omega)
    rw [← hv3] at r1 r2
    refine ⟨r1, r2, by omega, by omega, hin, by omega, fun v4 hv4 => ?_⟩
    have e4 : v4 = ((Nat.xor (spW w f i v3.toNat) ((f i).2.1).toNat : Nat) : Int) := by
      rw [hv4, ← xor8 (spW_lt w f i (fun t ht => p4 t (by omega)) _) (show ((f i).2.1).toNat < 256 by omega), Int.toNat_of_nonneg q1]
    clear hv4 hv3
    have hrow : ∀ k, (if k = v3.toNat then v4 else ((spW w f i k : Nat) : Int)) = ((spW w f (i + 1) k : Nat) : Int) := fun k => by
      show _ = (((if k = (erP f w.length i).toNat then Nat.xor (spW w f i k) ((f i).2.1).toNat else spW w f i k) : Nat) : Int)
      rw [← e3]
      by_cases q : k = v3.toNat
      · rw [if_pos q, if_pos q, e4, q]
      · rw [if_neg q, if_neg q]
    refine ⟨r1, r2, by omega, by omega, by omega, hin, fun hb => ?_, fun hb v5 hv5 => ?_⟩
    · have eO : spO f w.length (i + 1) = spO f w.length i ++ [erP f w.length i] := if_pos hb
      have lO : (spO f w.length (i + 1)).length = (spO f w.length i).length + 1 := by rw [eO, List.length_append]; rfl
      refine ⟨fun q => q, by omega, by omega, fun b4 b5 b6 s1 s2 v5 hv5 => ⟨(i + 1, b4, b5, b6), by rw [hv5, w64_id (by omega) (by omega)]; dsimp only; omega, ?_⟩⟩
      dsimp only
      rw [lO]
      refine ⟨⟨rfl, rfl, rfl, rfl, pt_beq _⟩, ⟨hb1, fun k hk => hrow k⟩, ⟨⟨rfl, rfl, pt_beq _, Nat.le_refl _, s1, Nat.le_refl _⟩, fun k hk => ?_⟩, ⟨by omega, s1, s2, fun q => by omega⟩, by omega⟩
      rw [eO]
      unfold gL
      simp only [List.getD_eq_getElem?_getD]
      by_cases q : k < (spO f w.length i).length
      · rw [if_pos q, List.getElem?_append_left q]
      · rw [if_neg q, List.getElem?_append_right (by omega), show k - (spO f w.length i).length = 0 by omega]
        exact e3
    · have eO : spO f w.length (i + 1) = spO f w.length i := if_neg (by rw [hb]; decide)
      refine ⟨(i + 1, a1, a2, cap), by rw [hv5, w64_id (by omega) (by omega)]; dsimp only; omega, ?_⟩
      dsimp only
      rw [eO]
      exact ⟨⟨rfl, rfl, rfl, rfl, rfl⟩, ⟨hb1, fun k hk => hrow k⟩, ⟨⟨rfl, rfl, rfl, Nat.le_refl _, j2, Nat.le_refl _⟩, fun k hk => rfl⟩, ⟨by omega, j2, j3, j4⟩, by omega⟩
  · have hge := of_decide_eq_false hge
    obtain rfl : i = n := by omega
    exact ⟨(a1, a2, cap), ⟨hs1, rfl, rfl, rfl, rfl, rfl⟩, ⟨⟨rfl, rfl, rfl, Nat.le_refl _, j2, Nat.le_refl _⟩, fun k hk => rfl⟩, j2, j3, j4⟩
end Galois
