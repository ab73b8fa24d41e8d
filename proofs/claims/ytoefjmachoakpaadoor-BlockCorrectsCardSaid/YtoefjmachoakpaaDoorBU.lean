/-
  OWN WORK. Block: the law BlockCorrects.
-/
import Derived.Test.YtoefjmachoakpaaDoorBS
import Derived.Test.YtoefjmachoakpaaDoorBT
namespace Galois
open Go Go.Proofs Eng
set_option linter.unusedVariables false
set_option linter.unusedSimpArgs false
set_option maxHeartbeats 8000000
set_option maxRecDepth 100000

noncomputable def EL3 : Env := EL1.addE 12 spoil
theorem EL3_ok : EnvOk Tryd.prog EL3 := EL1_ok.addE spoil_ok
abbrev ErrIn (x : ErrD) : Prop := inKind .i64 x.1 ∧ inKind .u8 x.2.1 ∧ True ∧ True
/-- The spoiled word. -/
noncomputable def spB (x : List UInt8 × RowD ErrD × Unit) : List UInt8 := ofN (spW (encL x.1) x.2.1.f x.2.1.n) (encL x.1).length
noncomputable def spP (x : List UInt8 × RowD ErrD × Unit) : List Int := spO x.2.1.f (encL x.1).length x.2.1.n
noncomputable def corrA (x : List UInt8 × RowD ErrD × Unit) : List An :=
  [.loopD 11 (fun fr H => ⟨11, Nat, [12, 9, 10, 11], fun p => [.int .i64 (p : Nat), .int .i64 (difN (spB x) (encL x.1) p : Nat), .int .i64 (besN (spB x) (encL x.1) (spP x) p : Nat), .int .i64 (ownN (spP x) p : Nat)], [], fun _ => [], fun p => p ≤ (encL x.1).length, fun p => (encL x.1).length - p⟩),
   .loopD 15 (fun fr H => ⟨15, Nat, [14, 13], fun j => [.int .i64 (j : Nat), .bool (inB (gL (spP x)) j (intOf (slotV fr 12)))], [], fun _ => [], fun j => j ≤ (spP x).length, fun j => (spP x).length - j⟩),
   .draw 20 ((.take 0 (.take 1 (.take 2 (.take 3 (.take 4 (.take 5 (.take 6 .fin)))))))) []]
theorem u8_in {x : Int} (h : inKind .u8 x) : 0 ≤ x ∧ x ≤ 255 := by
  have h' : (decide _ && decide _) = true := h
  simpa [IntKind.min, IntKind.max, IntKind.bits, IntKind.signed] using h'
theorem spO_in (f : Nat → ErrD) {L : Nat} (h1 : 1 ≤ L) (h2 : L ≤ 1000000) : ∀ i, ∀ v ∈ spO f L i, 0 ≤ v ∧ v < (L : Int)
  | 0, v, h => by cases h
  | i + 1, v, h => by
    have ih := spO_in f h1 h2 i v
    have h : v ∈ (if (f i).2.2.1 then spO f L i ++ [erP f L i] else spO f L i) := h
    split at h
    · rcases List.mem_append.1 h with h | h
      · exact ih h
      · rw [List.mem_singleton] at h
        rw [h]
        exact pick_range _ (by omega) (by omega)
    · exact ih h
theorem inB_succ (f : Nat → Int) (n : Nat) (v : Int) : inB f (n + 1) v = (inB f n v || v == f n) := by
  unfold inB
  show (!(noneTo (fun k => v == f k) n && !(v == f n))) = _
  cases noneTo (fun k => v == f k) n <;> cases (v == f n) <;> rfl
theorem ownN_succ (own : List Int) (p : Nat) : ownN own (p + 1) = if lsB own p then ownN own p + 1 else ownN own p := rfl
theorem besN_succ (b c : List UInt8) (own : List Int) (p : Nat) : besN b c own (p + 1) = if co b p ≠ co c p ∧ lsB own p = false then besN b c own p + 1 else besN b c own p := rfl
theorem besN_zero (b c : List UInt8) (own : List Int) : besN b c own 0 = 0 := rfl
theorem ownN_zero (own : List Int) : ownN own 0 = 0 := rfl
attribute [local irreducible] difN besN ownN encL encE
theorem corr_walk : ∀ (x : List UInt8 × RowD ErrD × Unit) (hR : x.1.length ≤ 140737488351232 ∧ (x.2.1.n ≤ x.2.1.c ∧ x.2.1.c * 16 ≤ 140737488351232 ∧ ∀ i, i < x.2.1.n → ErrIn (x.2.1.f i)) ∧ True) (hw : ∀ v ∈ aSpoil.svs 0 x, v.wf), exCode EL3 Tryd.f4.ntmps (corrA x) (match Tryd.f4.body with | some c => c | none => .skip) (argFr 0 (aSpoil.svs 0 x)) (aSpoil.hp 0 x) aSpoil.tags (atEnd EL3 Tryd.f4.results.toList fun r _ _ => eqv r (.bool true)) := by
  refine fun ⟨a, ⟨eb, eo, n, cp, z, f⟩, ()⟩ hR hw => ?_
  refine vc_of (q :=
      ∀ (v1 : Int), v1 = (↑(List.length a) : Int) → ∀ (v2 : Int), v2 = (↑n : Int) → ∀ (t1 : Bool), (t1 = if Decidable.decide (v1 > (223 : Int)) = Bool.true then Bool.true else Decidable.decide (v2 > (20 : Int))) → (t1 = Bool.true → ∀ (t2 : Bool), t2 = Bool.true → t2 = Bool.true) ∧ (t1 = Bool.false → ∀ (s1 : List UInt8), s1 = encL a → ∀ (v3 : Int), v3 = encE a → ((v3 != (0 : Int)) = Bool.true → ∀ (v4 :
      Int), v4 = (↑(List.length a) : Int) → ∀ (t3 : Bool), t3 = Bool.true → ∀ (t4 : Bool), (t4 = if (v4 == (0 : Int)) = Bool.true then t3 else Bool.false) → t4 = Bool.true) ∧ ((v3 != (0 : Int)) = Bool.false → ∀ (v5 : Int), v5 = (↑(List.length s1) : Int) → ∀ (v6 : Int), v6 = (↑(List.length a) : Int) → ∀ (v7 : Int), v7 = Go.IntKind.wrap Go.IntKind.i64 (v6 + (8 : Int)) → ((v5 != v7) = Bool.true → Bool.false
      = Bool.true) ∧ ((v5 != v7) = Bool.false → n ≤ n ∧ (∀ (k1 : Nat), k1 < n → Bool.true = Bool.true) ∧ (eb = eb ∧ eo = eo) ∧ ∀ (x'1 : List UInt8 × Eng.RowD (Int × Int × Bool × Unit) × Unit), x'1 = (s1, Eng.RowD.mk eb eo n cp z f, ()) → (1 : Nat) ≤ List.length (Prod.fst x'1) ∧ List.length (Prod.fst x'1) ≤ (100000 : Nat) ∧ Eng.RowD.n (Prod.fst (Prod.snd x'1)) ≤ (100000 : Nat) ∧ (∀ (i1 : Nat), i1 <
      Eng.RowD.n (Prod.fst (Prod.snd x'1)) → (0 : Int) ≤ Prod.fst (Prod.snd (Eng.RowD.f (Prod.fst (Prod.snd x'1)) i1)) ∧ Prod.fst (Prod.snd (Eng.RowD.f (Prod.fst (Prod.snd x'1)) i1)) ≤ (255 : Int)) ∧ ∀ (y1 : Nat × Nat × Nat), List.length (spN x'1) ≤ Prod.snd (Prod.snd y1) ∧ Prod.snd (Prod.snd y1) ≤ (9223372036854775807 : Nat) ∧ (List.length (spN x'1) = (0 : Nat) → Prod.snd (Prod.snd y1) = (0 : Nat)) → ∀
      (s2 : List UInt8), s2 = ofN (spW (Prod.fst x'1) (Eng.RowD.f (Prod.fst (Prod.snd x'1))) (Eng.RowD.n (Prod.fst (Prod.snd x'1)))) (List.length (Prod.fst x'1)) → (∃ (x1 : Nat), (0 : Int) = (↑x1 : Int) ∧ (0 : Int) = (↑(difN (spB (a, Eng.RowD.mk eb eo n cp z f, ())) (encL a) x1) : Int) ∧ (0 : Int) = (↑(besN (spB (a, Eng.RowD.mk eb eo n cp z f, ())) (encL a) (spP (a, Eng.RowD.mk eb eo n cp z f, ())) x1) :
      Int) ∧ (0 : Int) = (↑(ownN (spP (a, Eng.RowD.mk eb eo n cp z f, ())) x1) : Int) ∧ Nat.le x1 (List.length (encL a))) ∧ ∀ (b1 : Nat), b1 ≤ List.length (encL a) → ∀ (v8 : Int), v8 = (↑(List.length s1) : Int) → (Decidable.decide ((↑b1 : Int) < v8) = Bool.true → (∃ (x2 : Nat), (0 : Int) = (↑x2 : Int) ∧ Bool.false = inB (gL (spP (a, Eng.RowD.mk eb eo n cp z f, ()))) x2 (↑b1 : Int) ∧ Nat.le x2
      (List.length (spP (a, Eng.RowD.mk eb eo n cp z f, ())))) ∧ ∀ (b2 : Nat), b2 ≤ List.length (spP (a, Eng.RowD.mk eb eo n cp z f, ())) → ∀ (v9 : Int), v9 = (↑(List.length (spN x'1)) : Int) → (Decidable.decide ((↑b2 : Int) < v9) = Bool.true → (inB (gL (spP (a, Eng.RowD.mk eb eo n cp z f, ()))) b2 (↑b1 : Int) = Bool.false → (0 : Int) ≤ (↑b2 : Int)) ∧ (inB (gL (spP (a, Eng.RowD.mk eb eo n cp z f, ())))
      b2 (↑b1 : Int) = Bool.false → (↑b2 : Int) < (↑(List.length (spN x'1)) : Int)) ∧ (inB (gL (spP (a, Eng.RowD.mk eb eo n cp z f, ()))) b2 (↑b1 : Int) = Bool.false → Prod.fst y1 = Prod.fst y1 ∧ Prod.fst (Prod.snd y1) = Prod.fst (Prod.snd y1)) ∧ (inB (gL (spP (a, Eng.RowD.mk eb eo n cp z f, ()))) b2 (↑b1 : Int) = Bool.false → Int.toNat (↑b2 : Int) < List.length (spN x'1)) ∧ ∀ (t3 : Bool), (t3 = if inB
      (gL (spP (a, Eng.RowD.mk eb eo n cp z f, ()))) b2 (↑b1 : Int) = Bool.true then Bool.true else gL (spN x'1) (Int.toNat (↑b2 : Int)) == (↑b1 : Int)) → ∀ (v10 : Int), v10 = Go.IntKind.wrap Go.IntKind.i64 ((↑b2 : Int) + (1 : Int)) → ∃ (x3 : Nat), v10 = (↑x3 : Int) ∧ t3 = inB (gL (spP (a, Eng.RowD.mk eb eo n cp z f, ()))) x3 (↑b1 : Int) ∧ x3 ≤ List.length (spP (a, Eng.RowD.mk eb eo n cp z f, ())) ∧
      List.length (spP (a, Eng.RowD.mk eb eo n cp z f, ())) - x3 < List.length (spP (a, Eng.RowD.mk eb eo n cp z f, ())) - b2) ∧ (Decidable.decide ((↑b2 : Int) < v9) = Bool.false → (inB (gL (spP (a, Eng.RowD.mk eb eo n cp z f, ()))) b2 (↑b1 : Int) = Bool.true → ∀ (v10 : Int), v10 = Go.IntKind.wrap Go.IntKind.i64 ((↑(ownN (spP (a, Eng.RowD.mk eb eo n cp z f, ())) b1) : Int) + (1 : Int)) → (0 : Int) ≤ (↑b1
      : Int) ∧ (↑b1 : Int) < (↑(List.length s2) : Int) ∧ (0 : Int) ≤ (↑b1 : Int) ∧ (↑b1 : Int) < (↑(List.length s1) : Int) ∧ (((↑(UInt8.toNat (List.getD s2 (Int.toNat (↑b1 : Int)) (0 : UInt8))) : Int) != (↑(UInt8.toNat (List.getD s1 (Int.toNat (↑b1 : Int)) (0 : UInt8))) : Int)) = Bool.true → ∀ (v11 : Int), v11 = Go.IntKind.wrap Go.IntKind.i64 ((↑(difN (spB (a, Eng.RowD.mk eb eo n cp z f, ())) (encL a)
      b1) : Int) + (1 : Int)) → ((!inB (gL (spP (a, Eng.RowD.mk eb eo n cp z f, ()))) b2 (↑b1 : Int)) = Bool.true → ∀ (v12 : Int), v12 = Go.IntKind.wrap Go.IntKind.i64 ((↑(besN (spB (a, Eng.RowD.mk eb eo n cp z f, ())) (encL a) (spP (a, Eng.RowD.mk eb eo n cp z f, ())) b1) : Int) + (1 : Int)) → ∀ (v13 : Int), v13 = Go.IntKind.wrap Go.IntKind.i64 ((↑b1 : Int) + (1 : Int)) → ∃ (x3 : Nat), v13 = (↑x3 : Int)
      ∧ v11 = (↑(difN (spB (a, Eng.RowD.mk eb eo n cp z f, ())) (encL a) x3) : Int) ∧ v12 = (↑(besN (spB (a, Eng.RowD.mk eb eo n cp z f, ())) (encL a) (spP (a, Eng.RowD.mk eb eo n cp z f, ())) x3) : Int) ∧ v10 = (↑(ownN (spP (a, Eng.RowD.mk eb eo n cp z f, ())) x3) : Int) ∧ x3 ≤ List.length (encL a) ∧ List.length (encL a) - x3 < List.length (encL a) - b1) ∧ ((!inB (gL (spP (a, Eng.RowD.mk eb eo n cp z f,
      ()))) b2 (↑b1 : Int)) = Bool.false → ∀ (v13 : Int), v13 = Go.IntKind.wrap Go.IntKind.i64 ((↑b1 : Int) + (1 : Int)) → ∃ (x3 : Nat), v13 = (↑x3 : Int) ∧ v11 = (↑(difN (spB (a, Eng.RowD.mk eb eo n cp z f, ())) (encL a) x3) : Int) ∧ (↑(besN (spB (a, Eng.RowD.mk eb eo n cp z f, ())) (encL a) (spP (a, Eng.RowD.mk eb eo n cp z f, ())) b1) : Int) = (↑(besN (spB (a, Eng.RowD.mk eb eo n cp z f, ())) (encL a)
      (spP (a, Eng.RowD.mk eb eo n cp z f, ())) x3) : Int) ∧ v10 = (↑(ownN (spP (a, Eng.RowD.mk eb eo n cp z f, ())) x3) : Int) ∧ x3 ≤ List.length (encL a) ∧ List.length (encL a) - x3 < List.length (encL a) - b1)) ∧ (((↑(UInt8.toNat (List.getD s2 (Int.toNat (↑b1 : Int)) (0 : UInt8))) : Int) != (↑(UInt8.toNat (List.getD s1 (Int.toNat (↑b1 : Int)) (0 : UInt8))) : Int)) = Bool.false → ∀ (v12 : Int), v12 =
      Go.IntKind.wrap Go.IntKind.i64 ((↑b1 : Int) + (1 : Int)) → ∃ (x3 : Nat), v12 = (↑x3 : Int) ∧ (↑(difN (spB (a, Eng.RowD.mk eb eo n cp z f, ())) (encL a) b1) : Int) = (↑(difN (spB (a, Eng.RowD.mk eb eo n cp z f, ())) (encL a) x3) : Int) ∧ (↑(besN (spB (a, Eng.RowD.mk eb eo n cp z f, ())) (encL a) (spP (a, Eng.RowD.mk eb eo n cp z f, ())) b1) : Int) = (↑(besN (spB (a, Eng.RowD.mk eb eo n cp z f, ()))
      (encL a) (spP (a, Eng.RowD.mk eb eo n cp z f, ())) x3) : Int) ∧ v10 = (↑(ownN (spP (a, Eng.RowD.mk eb eo n cp z f, ())) x3) : Int) ∧ x3 ≤ List.length (encL a) ∧ List.length (encL a) - x3 < List.length (encL a) - b1)) ∧ (inB (gL (spP (a, Eng.RowD.mk eb eo n cp z f, ()))) b2 (↑b1 : Int) = Bool.false → (0 : Int) ≤ (↑b1 : Int) ∧ (↑b1 : Int) < (↑(List.length s2) : Int) ∧ (0 : Int) ≤ (↑b1 : Int) ∧ (↑b1 :
      Int) < (↑(List.length s1) : Int) ∧ (((↑(UInt8.toNat (List.getD s2 (Int.toNat (↑b1 : Int)) (0 : UInt8))) : Int) != (↑(UInt8.toNat (List.getD s1 (Int.toNat (↑b1 : Int)) (0 : UInt8))) : Int)) = Bool.true → ∀ (v11 : Int), v11 = Go.IntKind.wrap Go.IntKind.i64 ((↑(difN (spB (a, Eng.RowD.mk eb eo n cp z f, ())) (encL a) b1) : Int) + (1 : Int)) → ((!inB (gL (spP (a, Eng.RowD.mk eb eo n cp z f, ()))) b2
      (↑b1 : Int)) = Bool.true → ∀ (v12 : Int), v12 = Go.IntKind.wrap Go.IntKind.i64 ((↑(besN (spB (a, Eng.RowD.mk eb eo n cp z f, ())) (encL a) (spP (a, Eng.RowD.mk eb eo n cp z f, ())) b1) : Int) + (1 : Int)) → ∀ (v13 : Int), v13 = Go.IntKind.wrap Go.IntKind.i64 ((↑b1 : Int) + (1 : Int)) → ∃ (x3 : Nat), v13 = (↑x3 : Int) ∧ v11 = (↑(difN (spB (a, Eng.RowD.mk eb eo n cp z f, ())) (encL a) x3) : Int) ∧
      v12 = (↑(besN (spB (a, Eng.RowD.mk eb eo n cp z f, ())) (encL a) (spP (a, Eng.RowD.mk eb eo n cp z f, ())) x3) : Int) ∧ (↑(ownN (spP (a, Eng.RowD.mk eb eo n cp z f, ())) b1) : Int) = (↑(ownN (spP (a, Eng.RowD.mk eb eo n cp z f, ())) x3) : Int) ∧ x3 ≤ List.length (encL a) ∧ List.length (encL a) - x3 < List.length (encL a) - b1) ∧ ((!inB (gL (spP (a, Eng.RowD.mk eb eo n cp z f, ()))) b2 (↑b1 : Int))
      = Bool.false → ∀ (v13 : Int), v13 = Go.IntKind.wrap Go.IntKind.i64 ((↑b1 : Int) + (1 : Int)) → ∃ (x3 : Nat), v13 = (↑x3 : Int) ∧ v11 = (↑(difN (spB (a, Eng.RowD.mk eb eo n cp z f, ())) (encL a) x3) : Int) ∧ (↑(besN (spB (a, Eng.RowD.mk eb eo n cp z f, ())) (encL a) (spP (a, Eng.RowD.mk eb eo n cp z f, ())) b1) : Int) = (↑(besN (spB (a, Eng.RowD.mk eb eo n cp z f, ())) (encL a) (spP (a, Eng.RowD.mk
      eb eo n cp z f, ())) x3) : Int) ∧ (↑(ownN (spP (a, Eng.RowD.mk eb eo n cp z f, ())) b1) : Int) = (↑(ownN (spP (a, Eng.RowD.mk eb eo n cp z f, ())) x3) : Int) ∧ x3 ≤ List.length (encL a) ∧ List.length (encL a) - x3 < List.length (encL a) - b1)) ∧ (((↑(UInt8.toNat (List.getD s2 (Int.toNat (↑b1 : Int)) (0 : UInt8))) : Int) != (↑(UInt8.toNat (List.getD s1 (Int.toNat (↑b1 : Int)) (0 : UInt8))) : Int)) =
      Bool.false → ∀ (v12 : Int), v12 = Go.IntKind.wrap Go.IntKind.i64 ((↑b1 : Int) + (1 : Int)) → ∃ (x3 : Nat), v12 = (↑x3 : Int) ∧ (↑(difN (spB (a, Eng.RowD.mk eb eo n cp z f, ())) (encL a) b1) : Int) = (↑(difN (spB (a, Eng.RowD.mk eb eo n cp z f, ())) (encL a) x3) : Int) ∧ (↑(besN (spB (a, Eng.RowD.mk eb eo n cp z f, ())) (encL a) (spP (a, Eng.RowD.mk eb eo n cp z f, ())) b1) : Int) = (↑(besN (spB (a,
      Eng.RowD.mk eb eo n cp z f, ())) (encL a) (spP (a, Eng.RowD.mk eb eo n cp z f, ())) x3) : Int) ∧ (↑(ownN (spP (a, Eng.RowD.mk eb eo n cp z f, ())) b1) : Int) = (↑(ownN (spP (a, Eng.RowD.mk eb eo n cp z f, ())) x3) : Int) ∧ x3 ≤ List.length (encL a) ∧ List.length (encL a) - x3 < List.length (encL a) - b1)))) ∧ (Decidable.decide ((↑b1 : Int) < v8) = Bool.false → ∀ (v9 : Int), v9 = Go.IntKind.wrap
      Go.IntKind.i64 ((2 : Int) * (↑(besN (spB (a, Eng.RowD.mk eb eo n cp z f, ())) (encL a) (spP (a, Eng.RowD.mk eb eo n cp z f, ())) b1) : Int)) → ∀ (v10 : Int), v10 = Go.IntKind.wrap Go.IntKind.i64 ((↑(ownN (spP (a, Eng.RowD.mk eb eo n cp z f, ())) b1) : Int) + v9) → (Decidable.decide (v10 > (8 : Int)) = Bool.true → ∀ (t3 : Bool), t3 = Bool.true → t3 = Bool.true) ∧ (Decidable.decide (v10 > (8 : Int))
      = Bool.false → List.length (spN x'1) ≤ List.length (spN x'1) ∧ (∀ (k2 : Nat), k2 < List.length (spN x'1) → Bool.true = Bool.true) ∧ (Prod.fst y1 = Prod.fst y1 ∧ Prod.fst (Prod.snd y1) = Prod.fst (Prod.snd y1)) ∧ List.length (spN x'1) ≤ (1000000 : Nat) ∧ ∀ (s3 : List UInt8), s3 = decL s2 (gL (spN x'1)) (List.length (spN x'1)) → ∀ (v11 : Int), v11 = decN s2 (gL (spN x'1)) (List.length (spN x'1)) → ∀
      (v12 : Int), v12 = decE s2 (gL (spN x'1)) (List.length (spN x'1)) → ∀ (t4 : Bool), (t4 = if (v12 == (0 : Int)) = Bool.true then s3 == a else Bool.false) → ∀ (t5 : Bool), (t5 = if t4 = Bool.true then v11 == (↑(difN (spB (a, Eng.RowD.mk eb eo n cp z f, ())) (encL a) b1) : Int) else Bool.false) → ∀ (t6 : Bool), t6 = Bool.true → ∀ (t7 : Bool), (t7 = if t5 = Bool.true then t6 else Bool.false) → t7 =
      Bool.true)))))) (by kernel_rfl) ?_
  try simp only [eq_self, true_and, and_true, Nat.le_refl, implies_true, forall_const, Bool.false_eq_true, Bool.true_eq_false, reduceCtorEq, false_imp_iff, true_imp_iff, Int.toNat_zero, Int.toNat_natCast, Nat.zero_lt_one, Int.le_refl, allGet]
  obtain ⟨-, ⟨R1, R2, R3⟩, -⟩ := hR
  dsimp only at R1 R2 R3
  intro v1 h1 v2 h2 t1 ht1
  refine ⟨fun _ t h => h, fun hf s1 hs1 v3 h3 => ?_⟩
  rw [hf] at ht1
  have k1 : a.length ≤ 223 ∧ n ≤ 20 := by
    by_cases q : v1 > 223
    · rw [if_pos (decide_eq_true q)] at ht1; cases ht1
    · rw [if_neg (by rw [decide_eq_false q]; decide)] at ht1
      have := of_decide_eq_false ht1.symm
      omega
  clear ht1
  refine ⟨fun hne v4 h4 t3 ht3 t4 ht4 => ?_, fun heq v5 h5 v6 h6 v7 h7 => ?_⟩
  · have h0 : a.length = 0 := by
      apply Classical.byContradiction
      intro q
      rw [h3, encE_of (by omega) k1.1] at hne
      cases hne
    have e4 : v4 = 0 := by omega
    rw [ht4, e4, ht3]
    rfl
  have l1 : 1 ≤ a.length := by
    apply Classical.byContradiction
    intro q
    have hb : encB a = true := by
      unfold encB
      rw [decide_eq_true (show a.length < 1 by omega)]
      rfl
    have : encE a = 2 := by unfold encE; rw [hb]; rfl
    rw [h3, this] at heq
    cases heq
  have la := encL_ln l1 k1.1
  have ta := take_enc l1 k1.1
  have sy := enc_syn l1 k1.1
  clear h3 heq
  subst hs1
  have e7 : v7 = ((a.length + 8 : Nat) : Int) := by rw [h7, h6, w64_id (by omega) (by omega)]; omega
  clear h7
  refine ⟨fun hbad => ?_, fun _ x1 hx1 => ?_⟩
  · rw [show v5 = v7 by omega] at hbad
    simp at hbad
  subst hx1
  have eB : spB (a, RowD.mk eb eo n cp z f, ()) = ofN (spW (encL a) f n) (encL a).length := rfl
  have eP : spP (a, RowD.mk eb eo n cp z f, ()) = spO f (encL a).length n := rfl
  have eN : spN (encL a, RowD.mk eb eo n cp z f, ()) = spO f (encL a).length n := rfl
  simp only [eB, eP, eN]
  have hin := spO_in f (L := (encL a).length) (by omega) (by omega) n
  have hlo := spO_len f (encL a).length n
  clear eB eP eN
  have hp4 : ∀ i, i < n → 0 ≤ (f i).2.1 ∧ (f i).2.1 ≤ 255 := fun i hi => u8_in (R3 i hi).2.1
  have lB := ofN_len (spW (encL a) f n) (encL a).length
  generalize encL a = C at *
  generalize ofN (spW C f n) C.length = B0 at *
  generalize spO f C.length n = O at *
  refine ⟨by omega, by omega, by omega, hp4, fun y1 hy1 B hs2 => ?_⟩
  subst hs2
  refine ⟨⟨0, rfl, by rw [difN_zero]; rfl, by rw [besN_zero]; rfl, by rw [ownN_zero]; rfl, Nat.zero_le _⟩, fun p hp v8 h8 => ⟨fun hlt => ?_, fun hge v9 h9 v10 h10 => ?_⟩⟩
  · have hlt := of_decide_eq_true hlt
    have hpC : p < C.length := by omega
    refine ⟨⟨0, rfl, rfl, Nat.zero_le _⟩, fun j hj v9 h9 => ⟨fun hjl => ?_, fun hjl => ?_⟩⟩
    · have hjl := of_decide_eq_true hjl
      refine ⟨fun _ => by omega, fun _ => by omega, fun _ => by omega, fun t3 ht3 v10 h10 => ⟨j + 1, by rw [h10, w64_id (by omega) (by omega)]; omega, ?_, by omega, by omega⟩⟩
      rw [inB_succ, ht3]
      cases inB (gL O) j (p : Int) with
      | true => rfl
      | false =>
        show (gL O j == (p : Int)) = ((p : Int) == gL O j)
        exact Bool.beq_comm
    · have hjl := of_decide_eq_false hjl
      obtain rfl : j = O.length := by omega
      have d1 := difN_le B C p
      have d2 := besN_le B C O p
      have d3 := ownN_le O p
      have hls : lsB O p = inB (gL O) O.length (p : Int) := rfl
      have hco : ∀ {x : Bool}, (((B.getD p 0).toNat : Int) != ((C.getD p 0).toNat : Int)) = x → (x = true → co B p ≠ co C p) ∧ (x = false → co B p = co C p) := fun {x} hx => by
        subst hx
        refine ⟨fun h e => ?_, fun h => ?_⟩
        · rw [show (((B.getD p 0).toNat : Nat) : Int) = ((co B p : Nat) : Int) from rfl, e] at h
          simp [co] at h
        · have : ((B.getD p 0).toNat : Int) = ((C.getD p 0).toNat : Int) := by simpa using h
          unfold co
          omega
      rw [← hls]
      refine ⟨fun hin v10 h10 => ⟨by omega, by omega, by omega, by omega, fun hd v11 h11 => ⟨fun hb v12 h12 v13 h13 => ?_, fun hb v13 h13 => ?_⟩, fun hd v12 h12 => ?_⟩, fun hno => ⟨by omega, by omega, by omega, by omega, fun hd v11 h11 => ⟨fun hb v12 h12 v13 h13 => ?_, fun hb v13 h13 => ?_⟩, fun hd v12 h12 => ?_⟩⟩
      · rw [hin] at hb; cases hb
      · have hc1 := (hco hd).1 rfl
        refine ⟨p + 1, by rw [h13, w64_id (by omega) (by omega)]; omega, ?_, ?_, ?_, by omega, by omega⟩
        · rw [difN_succ, if_neg hc1, h11, w64_id (by omega) (by omega)]; omega
        · rw [besN_succ, if_neg (fun q => by rw [hin] at q; cases q.2)]
        · rw [ownN_succ, hin, if_pos rfl, h10, w64_id (by omega) (by omega)]; omega
      · have hc1 := (hco hd).2 rfl
        refine ⟨p + 1, by rw [h12, w64_id (by omega) (by omega)]; omega, ?_, ?_, ?_, by omega, by omega⟩
        · rw [difN_succ, if_pos hc1]
        · rw [besN_succ, if_neg (fun q => q.1 hc1)]
        · rw [ownN_succ, hin, if_pos rfl, h10, w64_id (by omega) (by omega)]; omega
      · have hc1 := (hco hd).1 rfl
        refine ⟨p + 1, by rw [h13, w64_id (by omega) (by omega)]; omega, ?_, ?_, ?_, by omega, by omega⟩
        · rw [difN_succ, if_neg hc1, h11, w64_id (by omega) (by omega)]; omega
        · rw [besN_succ, if_pos ⟨hc1, hno⟩, h12, w64_id (by omega) (by omega)]; omega
        · rw [ownN_succ, hno, if_neg (by decide)]
      · rw [hno] at hb; cases hb
      · have hc1 := (hco hd).2 rfl
        refine ⟨p + 1, by rw [h12, w64_id (by omega) (by omega)]; omega, ?_, ?_, ?_, by omega, by omega⟩
        · rw [difN_succ, if_pos hc1]
        · rw [besN_succ, if_neg (fun q => q.1 hc1)]
        · rw [ownN_succ, hno, if_neg (by decide)]
  · have hge := of_decide_eq_false hge
    obtain rfl : p = C.length := by omega
    have d2 := besN_le B C O C.length
    have d3 := ownN_le O C.length
    have e9 : v9 = 2 * (besN B C O C.length : Int) := by rw [h9, w64_id (by omega) (by omega)]
    have e10 : v10 = (ownN O C.length : Int) + 2 * (besN B C O C.length : Int) := by rw [h10, e9, w64_id (by omega) (by omega)]
    clear h9 h10
    refine ⟨fun _ t h => h, fun hle => ⟨by omega, fun s3 hs3 v11 h11 v12 h12 t4 ht4 t5 ht5 t6 ht6 t7 ht7 => ?_⟩⟩
    have hle := of_decide_eq_false hle
    obtain ⟨c1, c2, c3⟩ := corrects (b := B) (c := C) lB.symm (by omega) (by omega) sy (own := O) (by rw [lB]; exact hin) (by rw [lB]; omega)
    rw [c1, lB, show C.length - 8 = a.length by omega, ta] at hs3
    rw [c2, lB] at h11
    rw [c3] at h12
    have f4 : t4 = true := by rw [ht4, h12, hs3]; simp
    have f5 : t5 = true := by rw [ht5, f4, h11]; simp
    rw [ht7, f5, ht6]
    rfl
section
variable {H : Type} {enc : TypeId × Value → H}
theorem corrTop (W : World) (base : Nat) : OpTop enc Tryd.prog W base Tryd.f4.params.toList aSpoil (fun x => x.1.length ≤ 140737488351232 ∧ (x.2.1.n ≤ x.2.1.c ∧ x.2.1.c * 16 ≤ 140737488351232 ∧ ∀ i, i < x.2.1.n → ErrIn (x.2.1.f i)) ∧ True) :=
  .cons (.elt (ct := [9]) (.str (by kernel_rfl) (by kernel_rfl)) (by kernel_rfl)) (.inr ⟨notStruct (by kernel_rfl), notArray (by kernel_rfl), rfl, fun _ _ => rfl⟩)
    (.cons (.row (e := 53) (by kernel_rfl) (.agg (l := [(3, 0), (5, 1), (4, 2)]) (tot := 3) (by kernel_rfl) (by kernel_rfl) (by kernel_rfl) (.cons (.int (by kernel_rfl) (by kernel_rfl)) rfl (.cons (.int (by kernel_rfl) (by kernel_rfl)) rfl (.cons (.bool (by kernel_rfl) (by kernel_rfl)) rfl .nil)))) (by kernel_rfl) (by kernel_rfl)) (.inr ⟨notStruct (by kernel_rfl), notArray (by kernel_rfl), rfl, fun _ _ => rfl⟩) .nil)
end
end Galois
