/-
  OWN WORK. Marker: the law MarkerBridges, the walk.
-/
import Derived.Test.YtacncciippjbpaaDoorKQ
namespace Mk
open Go Go.Proofs Eng
set_option linter.unusedVariables false
set_option linter.unusedSimpArgs false
set_option maxRecDepth 100000
set_option maxHeartbeats 8000000

def EBR : Env := ((EPO.addP 29 syms).addE 44 soften).inl 30 Tryd.f30 fun _ _ => []
theorem EBR_ok : EnvOk Tryd.prog EBR := ((EPO_ok.addP symsR_ok).addE soften_ok).inl _ Tryd.func30 rfl (by kernel_rfl)
abbrev eVal : EltF (RowD Int × Option Nat) := .wrow (.int .i64)
abbrev BrD := RowD (RowD Int × Option Nat) × Int × RowD Int × Unit
abbrev aBridges : ArgL BrD := .cons (.rowF eVal) (.cons (.elt (.int .i64)) (.cons (.row (.int .u32)) .nil))
abbrev BridgesR (x : BrD) : Prop := (x.1.n ≤ x.1.c ∧ x.1.c * 24 ≤ 140737488351232 ∧ ∀ i, i < x.1.n → RowR (x.1.f i)) ∧ inKind .i64 x.2.1 ∧ (x.2.2.1.n ≤ x.2.2.1.c ∧ x.2.2.1.c * 4 ≤ 140737488351232 ∧ ∀ i, i < x.2.2.1.n → inKind .u32 (x.2.2.1.f i)) ∧ True
theorem u32_in {x : Int} (h : inKind .u32 x) : 0 ≤ x ∧ x ≤ 4294967295 := by
  have h' : (decide _ && decide _) = true := h
  simpa [IntKind.min, IntKind.max, IntKind.bits, IntKind.signed] using h'
/-- A block that was made: where it lies, its room, its values. -/
abbrev MD := Nat × Nat × Nat × (Nat → Int)
/-- The first loop's state: all values, (blocks' number, where they lie, the blocks), missed. -/
abbrev BX := IR × (Nat × (Nat × Nat × Nat) × (Nat → MD)) × Int
abbrev mRow (L g gf k : Nat) (A : Nat × Nat × Nat) (D : Nat → MD) : Ent := ⟨g, A.1, A.2.1, 1, k, fun i => .slice gf (D i).1 (D i).2.1 [.elt i 0] 1 0 L (D i).2.2.1 false, true, false, A.2.2, 29, Nat.beq k 0, none⟩
abbrev mFam (L gf k : Nat) (D : Nat → MD) : Ent := ⟨gf, 0, 0, 0, k, fun i => .arr L 1 fun j => .int .i64 ((D i).2.2.2 j), true, false, 0, 3, false, some fun i => ((D i).1, (D i).2.1)⟩
/-- The blocks, plainly. -/
def mB (L : Nat) (W : Nat → Int) (D : Nat → MD) (i : Nat) : BD := (((i * (32 + L) : Nat) : Int), W i, 0, 0, 0, (D i).2.2.2)
def brInv (L vn : Nat) (y : BX) : Prop := y.2.1.1 ≤ vn ∧ y.1.1 = y.2.1.1 * (32 + L) ∧ irOk y.1 ∧ y.2.1.1 ≤ y.2.1.2.1.2.2 ∧ (y.2.1.1 = 0 → y.2.1.2.1.2.2 = 0) ∧ 0 ≤ y.2.2 ∧ y.2.2 ≤ 2 ∧
  ∃ (W : Nat → Int) (ms : Int), 0 ≤ ms ∧ ms ≤ y.2.2 ∧ Steps L ⟨rowL y.1.2.2 y.1.1, 0, false, 0, 0, false⟩ (bkL L (mB L W y.2.1.2.2) y.2.1.1) ⟨[], (y.1.1 : Nat), false, 0, ms, decide (0 < y.2.1.1)⟩
def boolOf : SV → Bool
  | .bool b => b
  | _ => false
/-- The marker's loop: (place, where it lies, the bytes). -/
abbrev MX := Nat × (Nat × Nat × Nat) × (Nat → Int)
def mkInv (w : Int) (sp : Bool) (y : MX) : Prop := y.1 ≤ 32 ∧ 32 ≤ y.2.1.2.2 ∧ ∀ i, i < 32 → (y.2.2 i = symF i ∨ (y.2.2 i = 1 - symF i ∧ i < y.1 ∧ (sp = false → (i : Int) = w.tmod 32 ∨ (i : Int) = (w.tdiv 32).tmod 32)))
theorem u64_w (x : Int) : IntKind.u64.wrap x = x % 18446744073709551616 := by simp [IntKind.wrap, IntKind.bits, IntKind.signed]
theorem u32_w (x : Int) : IntKind.u32.wrap x = x % 4294967296 := by simp [IntKind.wrap, IntKind.bits, IntKind.signed]
theorem wr_two {g : Nat → Int} {p1 p2 : Nat} : ∀ {n : Nat}, (∀ i, i < n → isW (g i) i = true → i = p1 ∨ i = p2) → wr g n ≤ (if p1 < n then 1 else 0) + (if p2 < n then 1 else 0)
  | 0, _ => Nat.zero_le _
  | n + 1, h => by
    have ih := wr_two (p1 := p1) (p2 := p2) (n := n) fun i hi => h i (by omega)
    simp only [wr]
    by_cases q : isW (g n) n = true
    · rw [if_pos q]
      rcases h n (by omega) q with e | e <;> subst e
      · rw [if_neg (Nat.lt_irrefl _)] at ih
        rw [if_pos (Nat.lt_succ_self _)]
        split at ih <;> split <;> omega
      · rw [if_neg (Nat.lt_irrefl _)] at ih
        rw [if_pos (Nat.lt_succ_self _)]
        split at ih <;> split <;> omega
    · rw [if_neg q]
      split at ih <;> split at ih <;> split <;> split <;> omega
theorem bridge_step {L : Nat} {f f' g : Nat → Int} {N : Nat} {M : List Bk} {ms : Int} {lk : Bool} (h : Steps L ⟨rowL f N, 0, false, 0, 0, false⟩ M ⟨[], (N : Nat), false, 0, ms, lk⟩)
    (hf : ∀ i, i < N → f' i = f i) (hg : ∀ i, i < 32 + L → f' (N + i) = g i) (hc : wr g 32 ≤ 2 ∨ (lk = true ∧ ms < 2)) :
    ∃ ms' : Int, (wr g 32 ≤ 2 → ms' = 0) ∧ (¬ wr g 32 ≤ 2 → ms' = ms + 1) ∧ Steps L ⟨rowL f' (N + (32 + L)), 0, false, 0, 0, false⟩ (M ++ [⟨(N : Nat), (wr g 32 : Nat), rowL (fun i => g (32 + i)) L⟩]) ⟨[], ((N + (32 + L) : Nat) : Int), false, 0, ms', true⟩ := by
  have e : rowL f' (N + (32 + L)) = rowL f N ++ rowL g (32 + L) := by
    rw [rowL_app]
    refine rowL_congr fun i hi => ?_
    by_cases q : i < N
    · rw [if_pos q, hf i q]
    · rw [if_neg q, ← hg _ (by omega)]; congr 1; omega
  have h1 := Steps.push (rowL g (32 + L)) h
  have hl : (rowL g (32 + L)).length = 32 + L := rowL_len _ _
  have hcnt : cnt (rowL g (32 + L)) = wr g 32 := wr_congr fun i hi => rowL_get _ (by omega)
  have h2 : ∃ ms' : Int, (wr g 32 ≤ 2 → ms' = 0) ∧ (¬ wr g 32 ≤ 2 → ms' = ms + 1) ∧ mstp L ⟨rowL g (32 + L), (N : Nat), false, 0, ms, lk⟩ = some (⟨rowL g (32 + L), (N : Nat), true, (wr g 32 : Nat), ms', true⟩, []) := by
    unfold mstp
    dsimp only
    rw [if_neg (by decide), if_neg (by omega), hcnt]
    by_cases q : wr g 32 ≤ 2
    · exact ⟨0, fun _ => rfl, fun q' => absurd q q', by rw [if_pos q]⟩
    · obtain ⟨q1, q2⟩ := hc.resolve_left q
      exact ⟨ms + 1, fun q' => absurd q' q, fun _ => rfl, by rw [if_neg q, if_neg (by rw [q1]; decide), if_neg (by omega)]⟩
  obtain ⟨ms', a1, a2, a3⟩ := h2
  refine ⟨ms', a1, a2, ?_⟩
  have h3 : mstp L ⟨rowL g (32 + L), (N : Nat), true, (wr g 32 : Nat), ms', true⟩ = some (⟨[], ((N + (32 + L) : Nat) : Int), false, 0, ms', true⟩, [⟨(N : Nat), (wr g 32 : Nat), rowL (fun i => g (32 + i)) L⟩]) := by
    unfold mstp
    dsimp only
    rw [if_pos rfl, if_pos (by omega), rowL_drop, rowL_drop, rowL_take _ _ _ (by omega), Nat.sub_self]
    show some (St.mk [] ((N : Int) + ((32 + L : Nat) : Int)) _ _ _ _, _) = _
    have e2 : (N : Int) + ((32 + L : Nat) : Int) = ((N + (32 + L) : Nat) : Int) := by omega
    rw [e2]
  rw [e]
  exact h1.trans (.step a3 (Steps.one h3))
def bridges_Q1 (n : Nat) (len : Int) : Prop := ∃ (x1 : (Nat × (Nat × Nat × Nat) × (Nat → Int)) × (Nat × (Nat × Nat × Nat) × (Nat → Nat × Nat × Nat × (Nat → Int))) × Int), Eng.SVeq (Eng.SV.slice (999999 : Nat) (0 : Nat) (0 : Nat) [] (0 : Nat) (0 : Nat) (0 : Nat) (0 : Nat) Bool.true) (Eng.SV.slice (400 : Nat) (Prod.fst (Prod.fst (Prod.snd (Prod.fst x1)))) (Prod.fst (Prod.snd (Prod.fst (Prod.snd
    (Prod.fst x1))))) [] (1 : Nat) (0 : Nat) (Prod.fst (Prod.fst x1)) (Prod.snd (Prod.snd (Prod.fst (Prod.snd (Prod.fst x1))))) (Nat.beq (Prod.fst (Prod.fst x1)) (0 : Nat))) ∧ Eng.SVeq (Eng.SV.slice (999999 : Nat) (0 : Nat) (0 : Nat) [] (0 : Nat) (0 : Nat) (0 : Nat) (0 : Nat) Bool.true) (Eng.SV.slice (500 : Nat) (Prod.fst (Prod.fst (Prod.snd (Prod.fst (Prod.snd x1))))) (Prod.fst (Prod.snd (Prod.fst
    (Prod.snd (Prod.fst (Prod.snd x1)))))) [] (1 : Nat) (0 : Nat) (Prod.fst (Prod.fst (Prod.snd x1))) (Prod.snd (Prod.snd (Prod.fst (Prod.snd (Prod.fst (Prod.snd x1)))))) (Nat.beq (Prod.fst (Prod.fst (Prod.snd x1))) (0 : Nat))) ∧ (0 : Int) = Prod.snd (Prod.snd x1) ∧ (0 : Int) = (↑(Prod.fst (Prod.fst (Prod.snd x1))) : Int) ∧ (Nat.beq (Prod.fst (Prod.fst x1)) (0 : Nat) = Bool.true ∧ Prod.fst (Prod.fst
    x1) = (0 : Nat) ∧ Prod.snd (Prod.snd (Prod.fst (Prod.snd (Prod.fst x1)))) = (0 : Nat)) ∧ (Nat.beq (Prod.fst (Prod.fst (Prod.snd x1))) (0 : Nat) = Bool.true ∧ Prod.fst (Prod.fst (Prod.snd x1)) = (0 : Nat) ∧ Prod.snd (Prod.snd (Prod.fst (Prod.snd (Prod.fst (Prod.snd x1))))) = (0 : Nat)) ∧ (∀ (i1 : Nat), i1 < Prod.fst (Prod.fst (Prod.snd x1)) → False) ∧ Prod.fst (Prod.fst (Prod.snd x1)) ≤ n ∧ Prod.fst
    (Prod.fst x1) = Prod.fst (Prod.fst (Prod.snd x1)) * ((32 : Nat) + Int.toNat len) ∧ Mk.irOk (Prod.fst x1) ∧ Prod.fst (Prod.fst (Prod.snd x1)) ≤ Prod.snd (Prod.snd (Prod.fst (Prod.snd (Prod.fst (Prod.snd x1))))) ∧ (Prod.fst (Prod.fst (Prod.snd x1)) = (0 : Nat) → Prod.snd (Prod.snd (Prod.fst (Prod.snd (Prod.fst (Prod.snd x1))))) = (0 : Nat)) ∧ (0 : Int) ≤ Prod.snd (Prod.snd x1) ∧ Prod.snd (Prod.snd
    x1) ≤ (2 : Int) ∧ ∃ (x2 : Nat → Int), ∃ (x3 : Int), (0 : Int) ≤ x3 ∧ x3 ≤ Prod.snd (Prod.snd x1) ∧ Mk.Steps (Int.toNat len) (Mk.St.mk (Mk.rowL (Prod.snd (Prod.snd (Prod.fst x1))) (Prod.fst (Prod.fst x1))) (0 : Int) Bool.false (0 : Int) (0 : Int) Bool.false) (Mk.bkL (Int.toNat len) (Mk.mB (Int.toNat len) x2 (Prod.snd (Prod.snd (Prod.fst (Prod.snd x1))))) (Prod.fst (Prod.fst (Prod.snd x1))))
    (Mk.St.mk [] (↑(Prod.fst (Prod.fst x1)) : Int) Bool.false (0 : Int) x3 (Decidable.decide ((0 : Nat) < Prod.fst (Prod.fst (Prod.snd x1)))))
def bridges_Q2 (b1 : Nat) (s1 : List UInt8) (b2 : Nat) (t6 : Bool) (pf : Nat → Int) (v5 : Int) : Prop := ∃ (x7 : Nat × (Nat × Nat × Nat) × (Nat → Int)), (b1 = Prod.fst (Prod.fst (Prod.snd x7)) ∧ (0 : Nat) = Prod.fst (Prod.snd (Prod.fst (Prod.snd x7))) ∧ (0 : Nat) = (0 : Nat) ∧ List.length s1 = (32 : Nat) ∧ b2 = Prod.snd (Prod.snd (Prod.fst (Prod.snd x7))) ∧ Bool.false = Bool.false) ∧ (0 : Int) =
    (↑(Prod.fst x7) : Int) ∧ ((b1 = Prod.fst (Prod.fst (Prod.snd x7)) ∧ (0 : Nat) = Prod.fst (Prod.snd (Prod.fst (Prod.snd x7))) ∧ Bool.false = Bool.false ∧ (32 : Nat) ≤ List.length s1 ∧ (32 : Nat) ≤ Prod.snd (Prod.snd (Prod.fst (Prod.snd x7))) ∧ Prod.snd (Prod.snd (Prod.fst (Prod.snd x7))) ≤ b2) ∧ ∀ (i2 : Nat), i2 < (32 : Nat) → (↑(UInt8.toNat (List.getD s1 i2 (0 : UInt8))) : Int) = Prod.snd (Prod.snd
    x7) i2) ∧ Prod.fst x7 ≤ (32 : Nat) ∧ (32 : Nat) ≤ Prod.snd (Prod.snd (Prod.fst (Prod.snd x7))) ∧ ∀ (i3 : Nat), i3 < (32 : Nat) → Prod.snd (Prod.snd x7) i3 = Mk.symF i3 ∨ Prod.snd (Prod.snd x7) i3 = (1 : Int) - Mk.symF i3 ∧ i3 < Prod.fst x7 ∧ (Mk.boolOf (Eng.SV.bool t6) = Bool.false → (↑i3 : Int) = Int.tmod (pf (Int.toNat v5)) (32 : Int) ∨ (↑i3 : Int) = Int.tmod (Int.tdiv (pf (Int.toNat v5)) (32 :
    Int)) (32 : Int))
def bridges_Q3 (x8 : Nat × (Nat × Nat × Nat) × (Nat → Int)) (v18 : Int) (v17 : Int) (pf : Nat → Int) (v5 : Int) (t6 : Bool) : Prop := ∃ (x9 : Nat × (Nat × Nat × Nat) × (Nat → Int)), (Prod.fst (Prod.fst (Prod.snd x8)) = Prod.fst (Prod.fst (Prod.snd x9)) ∧ Prod.fst (Prod.snd (Prod.fst (Prod.snd x8))) = Prod.fst (Prod.snd (Prod.fst (Prod.snd x9))) ∧ (0 : Nat) = (0 : Nat) ∧ (32 : Nat) = (32 : Nat) ∧
    Prod.snd (Prod.snd (Prod.fst (Prod.snd x8))) = Prod.snd (Prod.snd (Prod.fst (Prod.snd x9))) ∧ Bool.false = Bool.false) ∧ v18 = (↑(Prod.fst x9) : Int) ∧ ((Prod.fst (Prod.fst (Prod.snd x8)) = Prod.fst (Prod.fst (Prod.snd x9)) ∧ Prod.fst (Prod.snd (Prod.fst (Prod.snd x8))) = Prod.fst (Prod.snd (Prod.fst (Prod.snd x9))) ∧ Bool.false = Bool.false ∧ (32 : Nat) ≤ (32 : Nat) ∧ (32 : Nat) ≤ Prod.snd
    (Prod.snd (Prod.fst (Prod.snd x9))) ∧ Prod.snd (Prod.snd (Prod.fst (Prod.snd x9))) ≤ Prod.snd (Prod.snd (Prod.fst (Prod.snd x8)))) ∧ ∀ (i4 : Nat), i4 < (32 : Nat) → (if i4 = Int.toNat (↑(Prod.fst x8) : Int) then v17 else Prod.snd (Prod.snd x8) i4) = Prod.snd (Prod.snd x9) i4) ∧ Mk.mkInv (pf (Int.toNat v5)) (Mk.boolOf (Eng.SV.bool t6)) x9 ∧ (32 : Nat) - Prod.fst x9 < (32 : Nat) - Prod.fst x8
def bridges_Q4 (x8 : Nat × (Nat × Nat × Nat) × (Nat → Int)) (v18 : Int) (pf : Nat → Int) (v5 : Int) (t6 : Bool) : Prop := ∃ (x9 : Nat × (Nat × Nat × Nat) × (Nat → Int)), (Prod.fst (Prod.fst (Prod.snd x8)) = Prod.fst (Prod.fst (Prod.snd x9)) ∧ Prod.fst (Prod.snd (Prod.fst (Prod.snd x8))) = Prod.fst (Prod.snd (Prod.fst (Prod.snd x9))) ∧ (0 : Nat) = (0 : Nat) ∧ (32 : Nat) = (32 : Nat) ∧ Prod.snd
    (Prod.snd (Prod.fst (Prod.snd x8))) = Prod.snd (Prod.snd (Prod.fst (Prod.snd x9))) ∧ Bool.false = Bool.false) ∧ v18 = (↑(Prod.fst x9) : Int) ∧ ((Prod.fst (Prod.fst (Prod.snd x8)) = Prod.fst (Prod.fst (Prod.snd x9)) ∧ Prod.fst (Prod.snd (Prod.fst (Prod.snd x8))) = Prod.fst (Prod.snd (Prod.fst (Prod.snd x9))) ∧ Bool.false = Bool.false ∧ (32 : Nat) ≤ (32 : Nat) ∧ (32 : Nat) ≤ Prod.snd (Prod.snd
    (Prod.fst (Prod.snd x9))) ∧ Prod.snd (Prod.snd (Prod.fst (Prod.snd x9))) ≤ Prod.snd (Prod.snd (Prod.fst (Prod.snd x8)))) ∧ ∀ (i4 : Nat), i4 < (32 : Nat) → Prod.snd (Prod.snd x8) i4 = Prod.snd (Prod.snd x9) i4) ∧ Mk.mkInv (pf (Int.toNat v5)) (Mk.boolOf (Eng.SV.bool t6)) x9 ∧ (32 : Nat) - Prod.fst x9 < (32 : Nat) - Prod.fst x8
def bridges_Q5 (len : Int) : Prop := ∃ (x9 : Nat × (Nat × Nat × Nat) × (Nat → Int)), Eng.SVeq (Eng.SV.slice (999999 : Nat) (0 : Nat) (0 : Nat) [] (0 : Nat) (0 : Nat) (0 : Nat) (0 : Nat) Bool.true) (Eng.SV.slice (820 : Nat) (Prod.fst (Prod.fst (Prod.snd x9))) (Prod.fst (Prod.snd (Prod.fst (Prod.snd x9)))) [] (1 : Nat) (0 : Nat) (Prod.fst x9) (Prod.snd (Prod.snd (Prod.fst (Prod.snd x9)))) (Nat.beq
    (Prod.fst x9) (0 : Nat))) ∧ (0 : Int) = (↑(Prod.fst x9) : Int) ∧ (Nat.beq (Prod.fst x9) (0 : Nat) = Bool.true ∧ Prod.fst x9 = (0 : Nat) ∧ Prod.snd (Prod.snd (Prod.fst (Prod.snd x9))) = (0 : Nat)) ∧ Prod.fst x9 ≤ Int.toNat len ∧ Mk.irOk x9
def bridges_Q6 (b4 : Nat) (b5 : Nat) (x10 : Nat × (Nat × Nat × Nat) × (Nat → Int)) (b6 : Nat) (v14 : Int) (v13 : Int) (len : Int) : Prop := ∃ (x11 : Nat × (Nat × Nat × Nat) × (Nat → Int)), (b4 = Prod.fst (Prod.fst (Prod.snd x11)) ∧ b5 = Prod.fst (Prod.snd (Prod.fst (Prod.snd x11))) ∧ (0 : Nat) = (0 : Nat) ∧ Prod.fst x10 + (1 : Nat) = Prod.fst x11 ∧ b6 = Prod.snd (Prod.snd (Prod.fst (Prod.snd x11)))
    ∧ (Nat.beq (Prod.fst x10) (0 : Nat) && Decidable.decide ((1 : Nat) = (0 : Nat))) = Nat.beq (Prod.fst x11) (0 : Nat)) ∧ v14 = (↑(Prod.fst x11) : Int) ∧ ((b4 = Prod.fst (Prod.fst (Prod.snd x11)) ∧ b5 = Prod.fst (Prod.snd (Prod.fst (Prod.snd x11))) ∧ (Nat.beq (Prod.fst x10) (0 : Nat) && Decidable.decide ((1 : Nat) = (0 : Nat))) = Nat.beq (Prod.fst x11) (0 : Nat) ∧ Prod.fst x11 ≤ Prod.fst x10 + (1 :
    Nat) ∧ Prod.fst x11 ≤ Prod.snd (Prod.snd (Prod.fst (Prod.snd x11))) ∧ Prod.snd (Prod.snd (Prod.fst (Prod.snd x11))) ≤ b6) ∧ ∀ (i4 : Nat), i4 < Prod.fst x11 → (if i4 < Prod.fst x10 then Prod.snd (Prod.snd x10) i4 else v13) = Prod.snd (Prod.snd x11) i4) ∧ (Prod.fst x11 ≤ Int.toNat len ∧ Mk.irOk x11) ∧ Int.toNat len - Prod.fst x11 < Int.toNat len - Prod.fst x10
def bridges_Q7 (b6 : Nat) (b7 : Nat) (x4 : (Nat × (Nat × Nat × Nat) × (Nat → Int)) × (Nat × (Nat × Nat × Nat) × (Nat → Nat × Nat × Nat × (Nat → Int))) × Int) (x'1 : List UInt8 × Unit) (x10 : Nat × (Nat × Nat × Nat) × (Nat → Int)) (b8 : Nat) (b10 : Nat) (b11 : Nat) (b12 : Nat) (v8 : Int) (v13 : Int) (len : Int) (y1 : Nat × Nat × Nat) (n : Nat) : Prop := ∃ (x11 : (Nat × (Nat × Nat × Nat) × (Nat →
    Int)) × (Nat × (Nat × Nat × Nat) × (Nat → Nat × Nat × Nat × (Nat → Int))) × Int), (b6 = Prod.fst (Prod.fst (Prod.snd (Prod.fst x11))) ∧ b7 = Prod.fst (Prod.snd (Prod.fst (Prod.snd (Prod.fst x11)))) ∧ (0 : Nat) = (0 : Nat) ∧ Prod.fst (Prod.fst x4) + List.length (Prod.fst x'1) + Prod.fst x10 = Prod.fst (Prod.fst x11) ∧ b8 = Prod.snd (Prod.snd (Prod.fst (Prod.snd (Prod.fst x11)))) ∧ (Nat.beq (Prod.fst
    (Prod.fst x4)) (0 : Nat) && Decidable.decide (List.length (Prod.fst x'1) = (0 : Nat)) && Decidable.decide (Prod.fst x10 = (0 : Nat))) = Nat.beq (Prod.fst (Prod.fst x11)) (0 : Nat)) ∧ (b10 = Prod.fst (Prod.fst (Prod.snd (Prod.fst (Prod.snd x11)))) ∧ b11 = Prod.fst (Prod.snd (Prod.fst (Prod.snd (Prod.fst (Prod.snd x11))))) ∧ (0 : Nat) = (0 : Nat) ∧ Prod.fst (Prod.fst (Prod.snd x4)) + (1 : Nat) =
    Prod.fst (Prod.fst (Prod.snd x11)) ∧ b12 = Prod.snd (Prod.snd (Prod.fst (Prod.snd (Prod.fst (Prod.snd x11))))) ∧ (Nat.beq (Prod.fst (Prod.fst (Prod.snd x4))) (0 : Nat) && Decidable.decide ((1 : Nat) = (0 : Nat))) = Nat.beq (Prod.fst (Prod.fst (Prod.snd x11))) (0 : Nat)) ∧ v8 = Prod.snd (Prod.snd x11) ∧ v13 = (↑(Prod.fst (Prod.fst (Prod.snd x11))) : Int) ∧ ((b6 = Prod.fst (Prod.fst (Prod.snd
    (Prod.fst x11))) ∧ b7 = Prod.fst (Prod.snd (Prod.fst (Prod.snd (Prod.fst x11)))) ∧ (Nat.beq (Prod.fst (Prod.fst x4)) (0 : Nat) && Decidable.decide (List.length (Prod.fst x'1) = (0 : Nat)) && Decidable.decide (Prod.fst x10 = (0 : Nat))) = Nat.beq (Prod.fst (Prod.fst x11)) (0 : Nat) ∧ Prod.fst (Prod.fst x11) ≤ Prod.fst (Prod.fst x4) + List.length (Prod.fst x'1) + Prod.fst x10 ∧ Prod.fst (Prod.fst
    x11) ≤ Prod.snd (Prod.snd (Prod.fst (Prod.snd (Prod.fst x11)))) ∧ Prod.snd (Prod.snd (Prod.fst (Prod.snd (Prod.fst x11)))) ≤ b8) ∧ ∀ (i4 : Nat), i4 < Prod.fst (Prod.fst x11) → (if i4 < Prod.fst (Prod.fst x4) + List.length (Prod.fst x'1) then if i4 < Prod.fst (Prod.fst x4) then Prod.snd (Prod.snd (Prod.fst x4)) i4 else Mk.softF (Prod.fst x'1) (i4 - Prod.fst (Prod.fst x4)) else Prod.snd (Prod.snd
    x10) (i4 - (Prod.fst (Prod.fst x4) + List.length (Prod.fst x'1)))) = Prod.snd (Prod.snd (Prod.fst x11)) i4) ∧ ((b10 = Prod.fst (Prod.fst (Prod.snd (Prod.fst (Prod.snd x11)))) ∧ b11 = Prod.fst (Prod.snd (Prod.fst (Prod.snd (Prod.fst (Prod.snd x11))))) ∧ (Nat.beq (Prod.fst (Prod.fst (Prod.snd x4))) (0 : Nat) && Decidable.decide ((1 : Nat) = (0 : Nat))) = Nat.beq (Prod.fst (Prod.fst (Prod.snd x11)))
    (0 : Nat) ∧ Prod.fst (Prod.fst (Prod.snd x11)) ≤ Prod.fst (Prod.fst (Prod.snd x4)) + (1 : Nat) ∧ Prod.fst (Prod.fst (Prod.snd x11)) ≤ Prod.snd (Prod.snd (Prod.fst (Prod.snd (Prod.fst (Prod.snd x11))))) ∧ Prod.snd (Prod.snd (Prod.fst (Prod.snd (Prod.fst (Prod.snd x11))))) ≤ b12) ∧ ∀ (i5 : Nat), i5 < Prod.fst (Prod.fst (Prod.snd x11)) → Eng.eqv (if i5 < Prod.fst (Prod.fst (Prod.snd x4)) then
    Eng.SV.slice (501 : Nat) (Prod.fst (Prod.snd (Prod.snd (Prod.fst (Prod.snd x4))) i5)) (Prod.fst (Prod.snd (Prod.snd (Prod.snd (Prod.fst (Prod.snd x4))) i5))) [Eng.PS.elt i5 (0 : Nat)] (1 : Nat) (0 : Nat) (Int.toNat len) (Prod.fst (Prod.snd (Prod.snd (Prod.snd (Prod.snd (Prod.fst (Prod.snd x4))) i5)))) Bool.false else Eng.SV.slice (820 : Nat) (Prod.fst (Prod.fst (Prod.snd x10))) (Prod.fst (Prod.snd
    (Prod.fst (Prod.snd x10)))) [] (1 : Nat) (0 : Nat) (Prod.fst x10) (Prod.snd (Prod.snd (Prod.fst (Prod.snd x10)))) (Nat.beq (Prod.fst x10) (0 : Nat))) (Eng.SV.slice (501 : Nat) (Prod.fst (Prod.snd (Prod.snd (Prod.fst (Prod.snd x11))) i5)) (Prod.fst (Prod.snd (Prod.snd (Prod.snd (Prod.fst (Prod.snd x11))) i5))) [Eng.PS.elt i5 (0 : Nat)] (1 : Nat) (0 : Nat) (Int.toNat len) (Prod.fst (Prod.snd
    (Prod.snd (Prod.snd (Prod.snd (Prod.fst (Prod.snd x11))) i5)))) Bool.false)) ∧ (∀ (i6 : Nat), i6 < Prod.fst (Prod.fst (Prod.snd x11)) → (∃ (x12 : Nat), x12 < Prod.fst (Prod.fst (Prod.snd x4)) ∧ (Prod.fst (Prod.snd (Prod.snd (Prod.fst (Prod.snd x4))) x12), Prod.fst (Prod.snd (Prod.snd (Prod.snd (Prod.fst (Prod.snd x4))) x12))) = (Prod.fst (Prod.snd (Prod.snd (Prod.fst (Prod.snd x11))) i6), Prod.fst
    (Prod.snd (Prod.snd (Prod.snd (Prod.fst (Prod.snd x11))) i6))) ∧ Int.toNat len = Int.toNat len ∧ ∀ (k2 : Nat), k2 < Int.toNat len → Prod.snd (Prod.snd (Prod.snd (Prod.snd (Prod.snd (Prod.fst (Prod.snd x4))) x12))) k2 = Prod.snd (Prod.snd (Prod.snd (Prod.snd (Prod.snd (Prod.fst (Prod.snd x11))) i6))) k2) ∨ (Bool.false = Bool.false ∧ (Prod.fst y1, Prod.fst (Prod.snd y1)) = (Prod.fst (Prod.snd
    (Prod.snd (Prod.fst (Prod.snd x11))) i6), Prod.fst (Prod.snd (Prod.snd (Prod.snd (Prod.fst (Prod.snd x11))) i6))) ∧ List.length (Prod.fst x'1) = Int.toNat len ∧ ∀ (k3 : Nat), k3 < List.length (Prod.fst x'1) → Mk.softF (Prod.fst x'1) k3 = Prod.snd (Prod.snd (Prod.snd (Prod.snd (Prod.snd (Prod.fst (Prod.snd x11))) i6))) k3) ∨ Nat.beq (Prod.fst x10) (0 : Nat) = Bool.false ∧ (Prod.fst (Prod.fst
    (Prod.snd x10)), Prod.fst (Prod.snd (Prod.fst (Prod.snd x10)))) = (Prod.fst (Prod.snd (Prod.snd (Prod.fst (Prod.snd x11))) i6), Prod.fst (Prod.snd (Prod.snd (Prod.snd (Prod.fst (Prod.snd x11))) i6))) ∧ Prod.fst x10 = Int.toNat len ∧ ∀ (k4 : Nat), k4 < Prod.fst x10 → Prod.snd (Prod.snd x10) k4 = Prod.snd (Prod.snd (Prod.snd (Prod.snd (Prod.snd (Prod.fst (Prod.snd x11))) i6))) k4) ∧ Mk.brInv
    (Int.toNat len) n x11 ∧ n - Prod.fst (Prod.fst (Prod.snd x11)) < n - Prod.fst (Prod.fst (Prod.snd x4))
def noM : Nat → MD := fun _ => (0, 0, 0, fun _ => 0)
theorem bridges_Q1_ok {len : Int} {n : Nat} : bridges_Q1 n len := by
  refine ⟨((0, (0, 0, 0), fun _ => 0), (0, (0, 0, 0), noM), 0), ?_⟩
  have hG : brInv len.toNat n ((0, (0, 0, 0), fun _ => 0), (0, (0, 0, 0), noM), 0) := ⟨Nat.zero_le _, (Nat.zero_mul _).symm, irOk_nil, Nat.le_refl _, fun _ => rfl, Int.le_refl _, of_decide_eq_true rfl, fun _ => 0, 0, Int.le_refl _, Int.le_refl _, .refl _⟩
  repeat' (first | exact rfl | exact trivial | exact Nat.le_refl _ | exact hG | assumption | exact nil_eqv rfl rfl rfl | exact svr _ | (apply And.intro) | (intro i hi; exact absurd hi (Nat.not_lt_zero _)) | intro _)
theorem sym01 (k : Nat) : symF k = 0 ∨ symF k = 1 := by unfold symF; omega
theorem bridges_Q2_ok {b1 b2 : Nat} {s1 : List UInt8} {t6 : Bool} {pf : Nat → Int} {v5 : Int} (hs : s1 = symL) (hb : s1.length ≤ b2) : bridges_Q2 b1 s1 b2 t6 pf v5 := by
  subst hs
  refine ⟨(0, (b1, 0, b2), symF), ?_⟩
  have hl := symL_len
  have hs : ∀ i, i < 32 → ((symL.getD i 0).toNat : Int) = symF i := fun i hi => bytof_getD (f := symF) hi (symF_nat i).1 (symF_nat i).2
  have hb : 32 ≤ b2 := by omega
  have hG : mkInv (pf v5.toNat) t6 (0, (b1, 0, b2), symF) := ⟨by show 0 ≤ 32; omega, hb, fun i hi => .inl rfl⟩
  have hl2 : 32 ≤ symL.length := by omega
  repeat' (first | exact rfl | exact trivial | exact Nat.le_refl _ | exact hG | exact hl | assumption | (apply And.intro) | exact svr _ | (intro i hi; first | exact hs i hi | exact .inl rfl))
theorem bridges_Q3_ok {x6 : MX} {v18 v17 : Int} {pf : Nat → Int} {v5 : Int} {t6 : Bool} (h18 : v18 = ((x6.1 + 1 : Nat) : Int)) (hlt : x6.1 < 32) (h : mkInv (pf v5.toNat) t6 x6) (h17 : v17 = IntKind.u8.wrap (1 - x6.2.2 x6.1))
    (hf : t6 = false → (x6.1 : Int) = (pf v5.toNat).tmod 32 ∨ (x6.1 : Int) = ((pf v5.toNat).tdiv 32).tmod 32) : bridges_Q3 x6 v18 v17 pf v5 t6 := by
  obtain ⟨h1, h2, h3⟩ := h
  refine ⟨(x6.1 + 1, x6.2.1, fun i => if i = x6.1 then v17 else x6.2.2 i), ⟨rfl, rfl, rfl, rfl, rfl, rfl⟩, h18, ⟨⟨rfl, rfl, rfl, Nat.le_refl _, h2, Nat.le_refl _⟩, fun i hi => rfl⟩, ⟨hlt, h2, fun i hi => ?_⟩, ?_⟩
  · have h17 : x6.2.2 x6.1 = symF x6.1 → v17 = 1 - symF x6.1 := fun q => by
      rw [h17, q]
      rcases sym01 x6.1 with q | q <;> rw [q] <;> decide
    have h17' : x6.2.2 x6.1 = symF x6.1 := by
      rcases h3 x6.1 hlt with q | ⟨_, q, _⟩
      · exact q
      · exact absurd q (Nat.lt_irrefl _)
    dsimp only
    by_cases q : i = x6.1
    · rw [if_pos q, q]
      exact .inr ⟨h17 h17', Nat.lt_succ_self _, hf⟩
    · rw [if_neg q]
      rcases h3 i hi with r | ⟨r1, r2, r3⟩
      · exact .inl r
      · exact .inr ⟨r1, by omega, r3⟩
  · dsimp only; omega
theorem bridges_Q4_ok {x6 : MX} {v18 : Int} {pf : Nat → Int} {v5 : Int} {t6 : Bool} (h18 : v18 = ((x6.1 + 1 : Nat) : Int)) (hlt : x6.1 < 32) (h : mkInv (pf v5.toNat) t6 x6) : bridges_Q4 x6 v18 pf v5 t6 := by
  obtain ⟨h1, h2, h3⟩ := h
  refine ⟨(x6.1 + 1, x6.2.1, x6.2.2), ⟨rfl, rfl, rfl, rfl, rfl, rfl⟩, h18, ⟨⟨rfl, rfl, rfl, Nat.le_refl _, h2, Nat.le_refl _⟩, fun i hi => rfl⟩, ⟨hlt, h2, fun i hi => ?_⟩, by dsimp only; omega⟩
  rcases h3 i hi with r | ⟨r1, r2, r3⟩
  · exact .inl r
  · exact .inr ⟨r1, by show i < x6.1 + 1; omega, r3⟩
theorem bridges_Q5_ok {len : Int} : bridges_Q5 len := ⟨(0, (0, 0, 0), fun _ => 0), nil_eqv rfl rfl rfl, rfl, ⟨rfl, rfl, rfl⟩, Nat.zero_le _, irOk_nil⟩
theorem bridges_Q6_ok {x8 : IR} {b4 b5 b6 : Nat} {v14 v13 len : Int} (h14 : v14 = ((x8.1 + 1 : Nat) : Int)) (hlt : x8.1 < len.toNat) (h : irOk x8) (hb : x8.1 + 1 ≤ b6) (hv : isV v13 = true) : bridges_Q6 b4 b5 x8 b6 v14 v13 len := by
  refine ⟨(x8.1 + 1, (b4, b5, b6), fun i => if i < x8.1 then x8.2.2 i else v13), ?_⟩
  have hG : irOk (x8.1 + 1, (b4, b5, b6), fun i => if i < x8.1 then x8.2.2 i else v13) := ⟨softB_of fun i hi => by
    show isV (if i < x8.1 then x8.2.2 i else v13) = true
    split
    · rename_i q; exact softB_at h.1 q
    · exact hv, hb, fun q => by cases q⟩
  exact ⟨⟨rfl, rfl, rfl, rfl, rfl, beq_add x8.1 1⟩, h14, ⟨⟨rfl, rfl, beq_add x8.1 1, Nat.le_refl _, hb, Nat.le_refl _⟩, fun i hi => rfl⟩, ⟨hlt, hG⟩, by dsimp only; omega⟩
theorem bridges_Q7_ok {b6 b7 b8 b10 b11 b12 : Nat} {x2 : BX} {x'1 : List UInt8 × Unit} {x8 : IR} {v8 v13 len : Int} {y1 : Nat × Nat × Nat} {n : Nat} (h13 : v13 = ((x2.2.1.1 + 1 : Nat) : Int)) (hL : 0 < len.toNat) (hl : x'1.1.length = 32) (h8 : x8.1 = len.toNat) (hi : x2.2.1.1 < n)
    (hc : x2.1.1 + x'1.1.length + x8.1 ≤ b8) (hc2 : x2.2.1.1 + 1 ≤ b12)
    (hG : brInv len.toNat n ((x2.1.1 + x'1.1.length + x8.1, (b6, b7, b8), fun i => if i < x2.1.1 + x'1.1.length then (if i < x2.1.1 then x2.1.2.2 i else softF x'1.1 (i - x2.1.1)) else x8.2.2 (i - (x2.1.1 + x'1.1.length))), (x2.2.1.1 + 1, (b10, b11, b12), fun i => if i < x2.2.1.1 then x2.2.1.2.2 i else (x8.2.1.1, x8.2.1.2.1, x8.2.1.2.2, x8.2.2)), v8)) :
    bridges_Q7 b6 b7 x2 x'1 x8 b8 b10 b11 b12 v8 v13 len y1 n := by
  refine ⟨((x2.1.1 + x'1.1.length + x8.1, (b6, b7, b8), fun i => if i < x2.1.1 + x'1.1.length then (if i < x2.1.1 then x2.1.2.2 i else softF x'1.1 (i - x2.1.1)) else x8.2.2 (i - (x2.1.1 + x'1.1.length))), (x2.2.1.1 + 1, (b10, b11, b12), fun i => if i < x2.2.1.1 then x2.2.1.2.2 i else (x8.2.1.1, x8.2.1.2.1, x8.2.1.2.2, x8.2.2)), v8), ?_⟩
  have hz : (Nat.beq x2.1.1 0 && decide (x'1.1.length = 0) && decide (x8.1 = 0)) = Nat.beq (x2.1.1 + x'1.1.length + x8.1) 0 := by rw [beq_add, beq_add]
  have hz2 := beq_add x2.2.1.1 1
  have hb : Nat.beq x8.1 0 = false := by
    cases hq : x8.1 with
    | zero => omega
    | succ k => rfl
  refine ⟨⟨rfl, rfl, rfl, rfl, rfl, hz⟩, ⟨rfl, rfl, rfl, rfl, rfl, hz2⟩, rfl, h13, ⟨⟨rfl, rfl, hz, Nat.le_refl _, hc, Nat.le_refl _⟩, fun i hi => rfl⟩, ⟨⟨rfl, rfl, hz2, Nat.le_refl _, hc2, Nat.le_refl _⟩, fun i hi => ?_⟩, fun i hi => ?_, hG, by dsimp only; omega⟩
  · dsimp only
    by_cases q : i < x2.2.1.1
    · rw [if_pos q, if_pos q]; exact ⟨rfl, rfl, rfl, rfl, rfl, rfl⟩
    · rw [if_neg q, if_neg q]
      show SVeq (.slice 820 x8.2.1.1 x8.2.1.2.1 [] 1 0 x8.1 x8.2.1.2.2 (Nat.beq x8.1 0)) (.slice 501 x8.2.1.1 x8.2.1.2.1 [.elt i 0] 1 0 len.toNat x8.2.1.2.2 false)
      rw [hb, h8]
      exact ⟨by simp [SV.den, pathOff, PS.off], by simp [SV.flat, pathOff, PS.off], rfl, fun h => h⟩
  · dsimp only
    by_cases q : i < x2.2.1.1
    · exact .inl ⟨i, q, by rw [if_pos q], rfl, fun k hk => by rw [if_pos q]⟩
    · exact .inr (.inr ⟨hb, by rw [if_neg q], h8, fun k hk => by rw [if_neg q]⟩)
theorem bridges_walk : ∀ (x : BrD) (hR : BridgesR x) (hw : ∀ v ∈ aBridges.svs 0 x, v.wf), exCode EBR Tryd.f6.ntmps [.raw 30, .raw 31, .det 32,
    .loop ⟨7, BX, [7, 8, 9, 10], fun y => [irS 400 y.1, .slice 500 y.2.1.2.1.1 y.2.1.2.1.2.1 [] 1 0 y.2.1.1 y.2.1.2.1.2.2 (Nat.beq y.2.1.1 0), .int .i64 y.2.2, .int .i64 (y.2.1.1 : Nat)], [], fun y => [irE 400 y.1, mRow x.2.1.toNat 500 501 y.2.1.1 y.2.1.2.1 y.2.1.2.2, mFam x.2.1.toNat 501 y.2.1.1 y.2.1.2.2], brInv x.2.1.toNat x.1.n, fun y => x.1.n - y.2.1.1⟩,
    .joinD 15 (fun fr H => ⟨15, Int, [9], fun y => [.int .i64 y], [], fun _ => [], fun y => (boolOf (slotV fr 13) = true → y = intOf (slotV fr 9)) ∧ (boolOf (slotV fr 13) = false → y = 0), fun _ => 0⟩) 100,
    .loopD 16 (fun fr H => ⟨16, MX, [11, 14], fun y => [.slice 3 y.2.1.1 y.2.1.2.1 [] 1 0 32 y.2.1.2.2 false, .int .i64 (y.1 : Nat)], [3], fun y => [⟨3, y.2.1.1, y.2.1.2.1, 1, 32, fun i => .int .u8 (y.2.2 i), true, false, y.2.1.2.2, 5, false, none⟩], mkInv (intOf (slotV fr 12)) (boolOf (slotV fr 13)), fun y => 32 - y.1⟩),
    .loop ⟨22, IR, [15, 16], fun y => [irS 820 y, .int .i64 (y.1 : Nat)], [], fun y => [irE 820 y], fun y => y.1 ≤ x.2.1.toNat ∧ irOk y, fun y => x.2.1.toNat - y.1⟩,
    .join ⟨27, Int, [17], fun y => [.int .i64 y], [], fun _ => [], fun _ => True, fun _ => 0⟩ 300,
    .draw 26 (.take 0 (.take 1 (.take 2 (.take 3 (.take 4 (.take 5 (.take 6 (.take 7 (.take 8 (.take 9 (.take 10 (.take 11 (.take 12 (.take 13 .fin)))))))))))))) [],
    .loopD 37 (fun fr H => ⟨37, Nat, [21], fun y => [.int .i64 (y : Nat)], [], fun _ => [], fun y => y ≤ (entG H 500).n, fun y => (entG H 500).n - y⟩),
    .draw 39 (.take 0 (.take 1 (.take 2 (.take 3 (.take 4 (.take 5 (.take 6 (.take 7 (.take 8 (.take 9 (.take 10 (.take 11 (.take 12 (.take 13 (.take 14 (.take 15 (.take 16 (.take 17 (.take 18 (.take 19 (.take 20 (.take 21 (.take 22 .fin))))))))))))))))))))))) []]
    (match Tryd.f6.body with | some c => c | none => .skip) (argFr 0 (aBridges.svs 0 x)) (aBridges.hp 0 x) aBridges.tags (atEnd EBR Tryd.f6.results.toList fun r _ _ => eqv r (.bool true)) := by
  refine fun ⟨⟨b, off, n, c, z, f⟩, len, ⟨pb, po, pn, pc, pz, pf⟩, ()⟩ hR hw => ?_
  refine vc_of (q :=
      ∀ (v1 : Int), v1 = (↑n : Int) → ∀ (t1 : Bool), (t1 = if Decidable.decide (v1 > (20 : Int)) = Bool.true then Bool.true else Decidable.decide (len < (1 : Int))) → ∀ (t2 : Bool), (t2 = if t1 = Bool.true then Bool.true else Decidable.decide (len > (300 : Int))) → ∀ (v2 : Int), v2 = (↑pn : Int) → ∀ (t3 : Bool), (t3 = if t2 = Bool.true then Bool.true else v2 == (0 : Int)) → (t3 = Bool.true → ∀ (t4 :
      Bool), t4 = Bool.true → t4 = Bool.true) ∧ (t3 = Bool.false → Mk.bridges_Q1 n len ∧ ∀ (x4 : (Nat × (Nat × Nat × Nat) × (Nat → Int)) × (Nat × (Nat × Nat × Nat) × (Nat → Nat × Nat × Nat × (Nat → Int))) × Int), Mk.brInv (Int.toNat len) n x4 → ∀ (v3 : Int), v3 = (↑n : Int) → (Decidable.decide ((↑(Prod.fst (Prod.fst (Prod.snd x4))) : Int) < v3) = Bool.true → ∀ (s1 : List UInt8), s1 = Mk.symL → ∀ (b1 b2 :
      Nat), List.length s1 ≤ b2 → b2 ≤ (9223372036854775807 : Nat) → ∀ (v4 : Int), v4 = (↑pn : Int) → v4 ≠ (0 : Int) ∧ ∀ (v5 : Int), v5 = Int.tmod (↑(Prod.fst (Prod.fst (Prod.snd x4))) : Int) v4 → (0 : Int) ≤ v5 ∧ v5 < (↑pn : Int) ∧ (pb = pb ∧ po = po) ∧ Int.toNat v5 < pn ∧ ∀ (t5 : Bool), (t5 = if Decidable.decide ((↑(Prod.fst (Prod.fst (Prod.snd x4))) : Int) > (0 : Int)) = Bool.true then
      Decidable.decide (Prod.snd (Prod.snd x4) < (2 : Int)) else Bool.false) → (t5 = Bool.true → (4 : Int) ≠ (0 : Int)) ∧ ∀ (v6 : Int), v6 = Int.tmod (pf (Int.toNat v5)) (4 : Int) → ∀ (t6 : Bool), (t6 = if t5 = Bool.true then v6 == (0 : Int) else Bool.false) → ∀ (v7 : Int), v7 = Go.IntKind.wrap Go.IntKind.i64 (Prod.snd (Prod.snd x4) + (1 : Int)) → (((!t6) = Bool.true → ∃ (x5 : Int), (0 : Int) = x5 ∧
      (Mk.boolOf (Eng.SV.bool t6) = Bool.true → x5 = v7) ∧ (Mk.boolOf (Eng.SV.bool t6) = Bool.false → x5 = (0 : Int))) ∧ ((!t6) = Bool.false → ∃ (x6 : Int), v7 = x6 ∧ (Mk.boolOf (Eng.SV.bool t6) = Bool.true → x6 = v7) ∧ (Mk.boolOf (Eng.SV.bool t6) = Bool.false → x6 = (0 : Int)))) ∧ ∀ (v8 : Int), (Mk.boolOf (Eng.SV.bool t6) = Bool.true → v8 = v7) ∧ (Mk.boolOf (Eng.SV.bool t6) = Bool.false → v8 = (0 :
      Int)) → Mk.bridges_Q2 b1 s1 b2 t6 pf v5 ∧ ∀ (x8 : Nat × (Nat × Nat × Nat) × (Nat → Int)), Mk.mkInv (pf (Int.toNat v5)) (Mk.boolOf (Eng.SV.bool t6)) x8 → (Decidable.decide ((↑(Prod.fst x8) : Int) < (32 : Int)) = Bool.true → ∀ (v9 : Int), v9 = Go.IntKind.wrap Go.IntKind.u64 (↑(Prod.fst x8) : Int) → (t6 = Bool.true → (0 : Int) ≤ v9) ∧ ∀ (v10 : Int), v10 = Int.fdiv (pf (Int.toNat v5)) ((2 : Int) ^
      Min.min (Int.toNat v9) (Go.IntKind.bits Go.IntKind.u32)) → (t6 = Bool.true → (2 : Int) ≠ (0 : Int)) ∧ ∀ (v11 : Int), v11 = Int.tmod v10 (2 : Int) → ∀ (t7 : Bool), (t7 = if t6 = Bool.true then v11 == (1 : Int) else Bool.false) → ((!t6) = Bool.true ∧ t7 = Bool.false → (32 : Int) ≠ (0 : Int)) ∧ ∀ (v12 : Int), v12 = Int.tmod (pf (Int.toNat v5)) (32 : Int) → ∀ (v13 : Int), v13 = Go.IntKind.wrap
      Go.IntKind.i64 v12 → (((↑(Prod.fst x8) : Int) == v13) = Bool.false ∧ (!t6) = Bool.true ∧ t7 = Bool.false → (32 : Int) ≠ (0 : Int)) ∧ ∀ (v14 : Int), v14 = Go.IntKind.wrap Go.IntKind.u32 (Int.tdiv (pf (Int.toNat v5)) (32 : Int)) → (((↑(Prod.fst x8) : Int) == v13) = Bool.false ∧ (!t6) = Bool.true ∧ t7 = Bool.false → (32 : Int) ≠ (0 : Int)) ∧ ∀ (v15 : Int), v15 = Int.tmod v14 (32 : Int) → ∀ (v16 :
      Int), v16 = Go.IntKind.wrap Go.IntKind.i64 v15 → ∀ (t8 : Bool), (t8 = if ((↑(Prod.fst x8) : Int) == v13) = Bool.true then Bool.true else (↑(Prod.fst x8) : Int) == v16) → ∀ (t9 : Bool), (t9 = if (!t6) = Bool.true then t8 else Bool.false) → ∀ (t10 : Bool), (t10 = if t7 = Bool.true then Bool.true else t9) → (t10 = Bool.true → (0 : Int) ≤ (↑(Prod.fst x8) : Int) ∧ (↑(Prod.fst x8) : Int) < (↑(32 : Nat) :
      Int) ∧ (Prod.fst (Prod.fst (Prod.snd x8)) = Prod.fst (Prod.fst (Prod.snd x8)) ∧ Prod.fst (Prod.snd (Prod.fst (Prod.snd x8))) = Prod.fst (Prod.snd (Prod.fst (Prod.snd x8)))) ∧ Int.toNat (↑(Prod.fst x8) : Int) < (32 : Nat) ∧ ∀ (v17 : Int), v17 = Go.IntKind.wrap Go.IntKind.u8 ((1 : Int) - Prod.snd (Prod.snd x8) (Int.toNat (↑(Prod.fst x8) : Int))) → (0 : Int) ≤ (↑(Prod.fst x8) : Int) ∧ (↑(Prod.fst x8)
      : Int) < (↑(32 : Nat) : Int) ∧ (Prod.fst (Prod.fst (Prod.snd x8)) = Prod.fst (Prod.fst (Prod.snd x8)) ∧ Prod.fst (Prod.snd (Prod.fst (Prod.snd x8))) = Prod.fst (Prod.snd (Prod.fst (Prod.snd x8)))) ∧ Int.toNat (↑(Prod.fst x8) : Int) < (32 : Nat) ∧ ∀ (v18 : Int), v18 = Go.IntKind.wrap Go.IntKind.i64 ((↑(Prod.fst x8) : Int) + (1 : Int)) → Mk.bridges_Q3 x8 v18 v17 pf v5 t6) ∧ (t10 = Bool.false → ∀ (v18
      : Int), v18 = Go.IntKind.wrap Go.IntKind.i64 ((↑(Prod.fst x8) : Int) + (1 : Int)) → Mk.bridges_Q4 x8 v18 pf v5 t6)) ∧ (Decidable.decide ((↑(Prod.fst x8) : Int) < (32 : Int)) = Bool.false → Mk.bridges_Q5 len ∧ ∀ (x10 : Nat × (Nat × Nat × Nat) × (Nat → Int)), Prod.fst x10 ≤ Int.toNat len ∧ Mk.irOk x10 → (Decidable.decide ((↑(Prod.fst x10) : Int) < len) = Bool.true → ((0 : Int) ≤ (↑(Prod.fst (Prod.fst
      (Prod.snd x4))) : Int) ∧ (↑(Prod.fst (Prod.fst (Prod.snd x4))) : Int) < (↑n : Int) ∧ (b = b ∧ off = off) ∧ Int.toNat (↑(Prod.fst (Prod.fst (Prod.snd x4))) : Int) < n ∧ ∀ (v10 : Int), v10 = (↑(Eng.RowD.n (Prod.fst (f (Int.toNat (↑(Prod.fst (Prod.fst (Prod.snd x4))) : Int))))) : Int) → (Decidable.decide (v10 > (0 : Int)) = Bool.true → (0 : Int) ≤ (↑(Prod.fst (Prod.fst (Prod.snd x4))) : Int) ∧
      (↑(Prod.fst (Prod.fst (Prod.snd x4))) : Int) < (↑n : Int) ∧ (b = b ∧ off = off) ∧ Int.toNat (↑(Prod.fst (Prod.fst (Prod.snd x4))) : Int) < n ∧ (0 : Int) ≤ (↑(Prod.fst (Prod.fst (Prod.snd x4))) : Int) ∧ (↑(Prod.fst (Prod.fst (Prod.snd x4))) : Int) < (↑n : Int) ∧ (b = b ∧ off = off) ∧ Int.toNat (↑(Prod.fst (Prod.fst (Prod.snd x4))) : Int) < n ∧ ∀ (v11 : Int), v11 = (↑(Eng.RowD.n (Prod.fst (f
      (Int.toNat (↑(Prod.fst (Prod.fst (Prod.snd x4))) : Int))))) : Int) → v11 ≠ (0 : Int) ∧ ∀ (v12 : Int), v12 = Int.tmod (↑(Prod.fst x10) : Int) v11 → (0 : Int) ≤ v12 ∧ v12 < (↑(Eng.RowD.n (Prod.fst (f (Int.toNat (↑(Prod.fst (Prod.fst (Prod.snd x4))) : Int))))) : Int) ∧ Prod.snd (f (Int.toNat (↑(Prod.fst (Prod.fst (Prod.snd x4))) : Int))) = Option.none ∧ (Eng.RowD.b (Prod.fst (f (Int.toNat (↑(Prod.fst
      (Prod.fst (Prod.snd x4))) : Int)))), Eng.RowD.off (Prod.fst (f (Int.toNat (↑(Prod.fst (Prod.fst (Prod.snd x4))) : Int))))) = (Eng.RowD.b (Prod.fst (f (Int.toNat (↑(Prod.fst (Prod.fst (Prod.snd x4))) : Int)))), Eng.RowD.off (Prod.fst (f (Int.toNat (↑(Prod.fst (Prod.fst (Prod.snd x4))) : Int))))) ∧ Int.toNat (↑(Prod.fst (Prod.fst (Prod.snd x4))) : Int) < n ∧ Int.toNat v12 < Eng.RowD.n (Prod.fst (f
      (Int.toNat (↑(Prod.fst (Prod.fst (Prod.snd x4))) : Int)))) ∧ ∃ (x11 : Int), Eng.RowD.f (Prod.fst (f (Int.toNat (↑(Prod.fst (Prod.fst (Prod.snd x4))) : Int)))) (Int.toNat v12) = x11 ∧ True) ∧ (Decidable.decide (v10 > (0 : Int)) = Bool.false → ∃ (x11 : Int), (↑(Prod.fst x10) : Int) = x11 ∧ True)) ∧ ∀ (v11 : Int), True → (0 : Int) < (16 : Int) ∧ (16 : Int) ≤ (1000000 : Int) ∧ ∀ (v12 : Int), v12 =
      Mk.pickF v11 (16 : Int) → ∀ (v13 : Int), v13 = Go.IntKind.wrap Go.IntKind.i64 (v12 - (8 : Int)) → ∀ (b3 : Nat), (Prod.fst (Prod.fst (Prod.snd x10)) = Prod.fst (Prod.fst (Prod.snd x10)) ∧ Prod.fst (Prod.snd (Prod.fst (Prod.snd x10))) = Prod.fst (Prod.snd (Prod.fst (Prod.snd x10)))) ∧ (Nat.beq (Prod.fst x10) (0 : Nat) = Bool.true → Nat.beq (Prod.fst x10) (0 : Nat) = Bool.true) ∧ (0 : Nat) = (0 : Nat)
      ∧ Prod.fst x10 ≤ Prod.fst x10 ∧ Prod.snd (Prod.snd (Prod.fst (Prod.snd x10))) ≤ Prod.snd (Prod.snd (Prod.fst (Prod.snd x10))) ∧ (Prod.fst x10 + (1 : Nat)) * (8 : Nat) ≤ (140737488355328 : Nat) ∧ Prod.fst x10 + (1 : Nat) ≤ (9223372036854775807 : Nat) ∧ (1 : Nat) ≤ (1 : Nat) ∧ (b3 = b3 ∧ (0 : Nat) = (0 : Nat)) ∧ ∀ (b4 b5 b6 : Nat), Prod.fst x10 + (1 : Nat) ≤ b6 → b6 ≤ (9223372036854775807 : Nat) →
      (Nat.beq (Prod.fst x10) (0 : Nat) = Bool.true → (1 : Nat) = (0 : Nat) → b6 = (0 : Nat)) → ∀ (v14 : Int), v14 = Go.IntKind.wrap Go.IntKind.i64 ((↑(Prod.fst x10) : Int) + (1 : Int)) → Mk.bridges_Q6 b4 b5 x10 b6 v14 v13 len) ∧ (Decidable.decide ((↑(Prod.fst x10) : Int) < len) = Bool.false → (32 : Nat) ≤ (32 : Nat) ∧ (∀ (k1 : Nat), k1 < (32 : Nat) → Bool.true = Bool.true) ∧ (Prod.fst (Prod.fst
      (Prod.snd x8)) = Prod.fst (Prod.fst (Prod.snd x8)) ∧ Prod.fst (Prod.snd (Prod.fst (Prod.snd x8))) = Prod.fst (Prod.snd (Prod.fst (Prod.snd x8)))) ∧ ∀ (s2 : List UInt8), s2 = Byt.of (Prod.snd (Prod.snd x8)) (32 : Nat) → ∀ (x'1 : List UInt8 × Unit), x'1 = (s2, ()) → Mk.listB (Prod.fst x'1) = Bool.true ∧ List.length (Prod.fst x'1) ≤ (40000 : Nat) ∧ (0 : Nat) < List.length (Prod.fst x'1) ∧ ∀ (y1 : Nat
      × Nat × Nat), List.length (Prod.fst x'1) ≤ Prod.snd (Prod.snd y1) → ∀ (v12 : Int), v12 = (0 : Int) → (Prod.fst (Prod.fst (Prod.snd (Prod.fst x4))) = Prod.fst (Prod.fst (Prod.snd (Prod.fst x4))) ∧ Prod.fst (Prod.snd (Prod.fst (Prod.snd (Prod.fst x4)))) = Prod.fst (Prod.snd (Prod.fst (Prod.snd (Prod.fst x4))))) ∧ (Nat.beq (Prod.fst (Prod.fst x4)) (0 : Nat) = Bool.true → Nat.beq (Prod.fst (Prod.fst
      x4)) (0 : Nat) = Bool.true) ∧ (0 : Nat) = (0 : Nat) ∧ Prod.fst (Prod.fst x4) ≤ Prod.fst (Prod.fst x4) ∧ Prod.snd (Prod.snd (Prod.fst (Prod.snd (Prod.fst x4)))) ≤ Prod.snd (Prod.snd (Prod.fst (Prod.snd (Prod.fst x4)))) ∧ (Prod.fst (Prod.fst x4) + List.length (Prod.fst x'1)) * (8 : Nat) ≤ (140737488355328 : Nat) ∧ Prod.fst (Prod.fst x4) + List.length (Prod.fst x'1) ≤ (9223372036854775807 : Nat) ∧
      List.length (Prod.fst x'1) ≤ List.length (Prod.fst x'1) ∧ (Prod.fst y1 = Prod.fst y1 ∧ Prod.fst (Prod.snd y1) = Prod.fst (Prod.snd y1)) ∧ ∀ (b3 b4 b5 : Nat), Prod.fst (Prod.fst x4) + List.length (Prod.fst x'1) ≤ b5 → b5 ≤ (9223372036854775807 : Nat) → (Nat.beq (Prod.fst (Prod.fst x4)) (0 : Nat) = Bool.true → List.length (Prod.fst x'1) = (0 : Nat) → b5 = (0 : Nat)) → (b3 = b3 ∧ b4 = b4) ∧ ((Nat.beq
      (Prod.fst (Prod.fst x4)) (0 : Nat) && Decidable.decide (List.length (Prod.fst x'1) = (0 : Nat))) = Bool.true → (Nat.beq (Prod.fst (Prod.fst x4)) (0 : Nat) && Decidable.decide (List.length (Prod.fst x'1) = (0 : Nat))) = Bool.true) ∧ (0 : Nat) = (0 : Nat) ∧ Prod.fst (Prod.fst x4) + List.length (Prod.fst x'1) ≤ Prod.fst (Prod.fst x4) + List.length (Prod.fst x'1) ∧ b5 ≤ b5 ∧ (Prod.fst (Prod.fst x4) +
      List.length (Prod.fst x'1) + Prod.fst x10) * (8 : Nat) ≤ (140737488355328 : Nat) ∧ Prod.fst (Prod.fst x4) + List.length (Prod.fst x'1) + Prod.fst x10 ≤ (9223372036854775807 : Nat) ∧ Prod.fst x10 ≤ Prod.fst x10 ∧ (Prod.fst (Prod.fst (Prod.snd x10)) = Prod.fst (Prod.fst (Prod.snd x10)) ∧ Prod.fst (Prod.snd (Prod.fst (Prod.snd x10))) = Prod.fst (Prod.snd (Prod.fst (Prod.snd x10)))) ∧ ∀ (b6 b7 b8 :
      Nat), Prod.fst (Prod.fst x4) + List.length (Prod.fst x'1) + Prod.fst x10 ≤ b8 → b8 ≤ (9223372036854775807 : Nat) → ((Nat.beq (Prod.fst (Prod.fst x4)) (0 : Nat) && Decidable.decide (List.length (Prod.fst x'1) = (0 : Nat))) = Bool.true → Prod.fst x10 = (0 : Nat) → b8 = (0 : Nat)) → ∀ (b9 : Nat), (Prod.fst (Prod.fst (Prod.snd (Prod.fst (Prod.snd x4)))) = Prod.fst (Prod.fst (Prod.snd (Prod.fst
      (Prod.snd x4)))) ∧ Prod.fst (Prod.snd (Prod.fst (Prod.snd (Prod.fst (Prod.snd x4))))) = Prod.fst (Prod.snd (Prod.fst (Prod.snd (Prod.fst (Prod.snd x4)))))) ∧ (Nat.beq (Prod.fst (Prod.fst (Prod.snd x4))) (0 : Nat) = Bool.true → Nat.beq (Prod.fst (Prod.fst (Prod.snd x4))) (0 : Nat) = Bool.true) ∧ (0 : Nat) = (0 : Nat) ∧ Prod.fst (Prod.fst (Prod.snd x4)) ≤ Prod.fst (Prod.fst (Prod.snd x4)) ∧ Prod.snd
      (Prod.snd (Prod.fst (Prod.snd (Prod.fst (Prod.snd x4))))) ≤ Prod.snd (Prod.snd (Prod.fst (Prod.snd (Prod.fst (Prod.snd x4))))) ∧ (Prod.fst (Prod.fst (Prod.snd x4)) + (1 : Nat)) * (24 : Nat) ≤ (140737488355328 : Nat) ∧ Prod.fst (Prod.fst (Prod.snd x4)) + (1 : Nat) ≤ (9223372036854775807 : Nat) ∧ (1 : Nat) ≤ (1 : Nat) ∧ (b9 = b9 ∧ (0 : Nat) = (0 : Nat)) ∧ ∀ (b10 b11 b12 : Nat), Prod.fst (Prod.fst
      (Prod.snd x4)) + (1 : Nat) ≤ b12 → b12 ≤ (9223372036854775807 : Nat) → (Nat.beq (Prod.fst (Prod.fst (Prod.snd x4))) (0 : Nat) = Bool.true → (1 : Nat) = (0 : Nat) → b12 = (0 : Nat)) → ∀ (v13 : Int), v13 = Go.IntKind.wrap Go.IntKind.i64 ((↑(Prod.fst (Prod.fst (Prod.snd x4))) : Int) + (1 : Int)) → Mk.bridges_Q7 b6 b7 x4 x'1 x10 b8 b10 b11 b12 v8 v13 len y1 n))) ∧ (Decidable.decide ((↑(Prod.fst
      (Prod.fst (Prod.snd x4))) : Int) < v3) = Bool.false → ∀ (x'1 : Int × Unit), x'1 = (len, ()) → (1 : Int) ≤ Prod.fst x'1 ∧ Prod.fst x'1 ≤ (20000 : Int) ∧ ∀ (y1 : (Nat × Nat) × Go.Value), True → (Prod.fst (Prod.fst y1) = Prod.fst (Prod.fst y1) ∧ (0 : Nat) = (0 : Nat)) ∧ (Prod.snd (Prod.fst y1) = Prod.snd (Prod.fst y1) ∧ (0 : Nat) = (0 : Nat)) ∧ ((0 : Nat) = (0 : Nat) ∧ (0 : Nat) = (0 : Nat)) ∧ ((0 :
      Nat) = (0 : Nat) ∧ ∀ (k1 : Nat), k1 < (0 : Nat) → Bool.true = Bool.true) ∧ Prod.fst (Prod.fst x4) ≤ Prod.fst (Prod.fst x4) ∧ (∀ (k2 : Nat), k2 < Prod.fst (Prod.fst x4) → Bool.true = Bool.true) ∧ (Prod.fst (Prod.fst (Prod.snd (Prod.fst x4))) = Prod.fst (Prod.fst (Prod.snd (Prod.fst x4))) ∧ Prod.fst (Prod.snd (Prod.fst (Prod.snd (Prod.fst x4)))) = Prod.fst (Prod.snd (Prod.fst (Prod.snd (Prod.fst
      x4))))) ∧ ∀ (x'2 : (Nat × Nat × (Nat × Nat × Int × Bool × Unit) × Int × Eng.OwnD Int × Int × Bool × Int × Int × Go.Value × Unit) × Eng.RowD Int × Unit), x'2 = ((Prod.fst (Prod.fst y1), (0 : Nat), (Prod.snd (Prod.fst y1), (0 : Nat), (0 : Int), Bool.false, ()), Prod.fst x'1, Eng.OwnD.mk (0 : Nat) (0 : Nat) (0 : Nat) (0 : Nat) Bool.true (0 : Nat) (0 : Nat) Bool.true fun (k : Nat) ↦ (0 : Int), (0 :
      Int), Bool.false, (0 : Int), (0 : Int), Prod.snd y1, ()), Eng.RowD.mk (Prod.fst (Prod.fst (Prod.snd (Prod.fst x4)))) (Prod.fst (Prod.snd (Prod.fst (Prod.snd (Prod.fst x4))))) (Prod.fst (Prod.fst x4)) (Prod.snd (Prod.snd (Prod.fst (Prod.snd (Prod.fst x4))))) (Nat.beq (Prod.fst (Prod.fst x4)) (0 : Nat)) (Prod.snd (Prod.snd (Prod.fst x4))), ()) → Mk.feedPre (Mk.FV.fd (Prod.fst x'2)) (Prod.fst
      (Prod.snd x'2)) ∧ ∀ (y2 : ((Int × Bool × Eng.OwnD Int × Int × Bool × Int × Int) × Nat × (Nat × Nat × Nat) × Nat × (Nat → Int × Int × Nat × Nat × Nat × (Nat → Int))) × Go.Value), Mk.feedP (Mk.FV.fd (Prod.fst x'2)) (Prod.fst (Prod.snd x'2)) (Prod.fst y2, (0 : Nat), (0 : Nat)) → ∀ (v4 : Int), v4 = Mk.feedE (Prod.fst (Prod.snd x'2)) → ∀ (v5 : Int), v5 = (↑(Prod.fst (Prod.snd (Prod.fst y2))) : Int) → ∀
      (v6 : Int), v6 = (↑(Prod.fst (Prod.fst (Prod.snd x4))) : Int) → ∀ (t5 : Bool), (t5 = if (v4 != (0 : Int)) = Bool.true then Bool.true else v5 != v6) → (t5 = Bool.true → Bool.false = Bool.true) ∧ (t5 = Bool.false → (∃ (x5 : Nat), (0 : Int) = (↑x5 : Int) ∧ Nat.le x5 (Prod.fst (Prod.fst (Prod.snd x4)))) ∧ ∀ (b1 : Nat), b1 ≤ Prod.fst (Prod.fst (Prod.snd x4)) → ∀ (v7 : Int), v7 = (↑(Prod.fst (Prod.snd
      (Prod.fst y2))) : Int) → (Decidable.decide ((↑b1 : Int) < v7) = Bool.true → (0 : Int) ≤ (↑b1 : Int) ∧ (↑b1 : Int) < (↑(Prod.fst (Prod.snd (Prod.fst y2))) : Int) ∧ (Prod.fst (Prod.fst (Prod.snd (Prod.snd (Prod.fst y2)))) = Prod.fst (Prod.fst (Prod.snd (Prod.snd (Prod.fst y2)))) ∧ Prod.fst (Prod.snd (Prod.fst (Prod.snd (Prod.snd (Prod.fst y2))))) = Prod.fst (Prod.snd (Prod.fst (Prod.snd (Prod.snd
      (Prod.fst y2)))))) ∧ Int.toNat (↑b1 : Int) < Prod.fst (Prod.snd (Prod.fst y2)) ∧ ∀ (v8 : Int), v8 = Go.IntKind.wrap Go.IntKind.i64 ((32 : Int) + len) → ∀ (v9 : Int), v9 = Go.IntKind.wrap Go.IntKind.i64 ((↑b1 : Int) * v8) → ((Prod.fst (Prod.snd (Prod.snd (Prod.snd (Prod.snd (Prod.fst y2)))) (Int.toNat (↑b1 : Int))) != v9) = Bool.false → (0 : Int) ≤ (↑b1 : Int)) ∧ ((Prod.fst (Prod.snd (Prod.snd
      (Prod.snd (Prod.snd (Prod.fst y2)))) (Int.toNat (↑b1 : Int))) != v9) = Bool.false → (↑b1 : Int) < (↑(Prod.fst (Prod.snd (Prod.fst y2))) : Int)) ∧ ((Prod.fst (Prod.snd (Prod.snd (Prod.snd (Prod.snd (Prod.fst y2)))) (Int.toNat (↑b1 : Int))) != v9) = Bool.false → Prod.fst (Prod.fst (Prod.snd (Prod.snd (Prod.fst y2)))) = Prod.fst (Prod.fst (Prod.snd (Prod.snd (Prod.fst y2)))) ∧ Prod.fst (Prod.snd
      (Prod.fst (Prod.snd (Prod.snd (Prod.fst y2))))) = Prod.fst (Prod.snd (Prod.fst (Prod.snd (Prod.snd (Prod.fst y2)))))) ∧ ((Prod.fst (Prod.snd (Prod.snd (Prod.snd (Prod.snd (Prod.fst y2)))) (Int.toNat (↑b1 : Int))) != v9) = Bool.false → Int.toNat (↑b1 : Int) < Prod.fst (Prod.snd (Prod.fst y2))) ∧ ((Prod.fst (Prod.snd (Prod.snd (Prod.snd (Prod.snd (Prod.fst y2)))) (Int.toNat (↑b1 : Int))) != v9) =
      Bool.false → (0 : Int) ≤ (↑b1 : Int)) ∧ ((Prod.fst (Prod.snd (Prod.snd (Prod.snd (Prod.snd (Prod.fst y2)))) (Int.toNat (↑b1 : Int))) != v9) = Bool.false → (↑b1 : Int) < (↑(Prod.fst (Prod.fst (Prod.snd x4))) : Int)) ∧ ((Prod.fst (Prod.snd (Prod.snd (Prod.snd (Prod.snd (Prod.fst y2)))) (Int.toNat (↑b1 : Int))) != v9) = Bool.false → Prod.fst (Prod.fst (Prod.snd (Prod.fst (Prod.snd x4)))) = Prod.fst
      (Prod.fst (Prod.snd (Prod.fst (Prod.snd x4)))) ∧ Prod.fst (Prod.snd (Prod.fst (Prod.snd (Prod.fst (Prod.snd x4))))) = Prod.fst (Prod.snd (Prod.fst (Prod.snd (Prod.fst (Prod.snd x4)))))) ∧ ((Prod.fst (Prod.snd (Prod.snd (Prod.snd (Prod.snd (Prod.fst y2)))) (Int.toNat (↑b1 : Int))) != v9) = Bool.false → Int.toNat (↑b1 : Int) < Prod.fst (Prod.fst (Prod.snd x4))) ∧ ((Prod.fst (Prod.snd (Prod.snd
      (Prod.snd (Prod.snd (Prod.fst y2)))) (Int.toNat (↑b1 : Int))) != v9) = Bool.false → Int.toNat (Prod.fst (Prod.snd (Prod.snd (Prod.snd (Prod.fst x'2))))) ≤ Int.toNat (Prod.fst (Prod.snd (Prod.snd (Prod.snd (Prod.fst x'2)))))) ∧ ((Prod.fst (Prod.snd (Prod.snd (Prod.snd (Prod.snd (Prod.fst y2)))) (Int.toNat (↑b1 : Int))) != v9) = Bool.false → ∀ (k3 : Nat), k3 < Int.toNat (Prod.fst (Prod.snd (Prod.snd
      (Prod.snd (Prod.fst x'2))))) → Bool.true = Bool.true) ∧ ((Prod.fst (Prod.snd (Prod.snd (Prod.snd (Prod.snd (Prod.fst y2)))) (Int.toNat (↑b1 : Int))) != v9) = Bool.false → (Prod.fst (Prod.snd (Prod.snd (Prod.snd (Prod.snd (Prod.snd (Prod.snd (Prod.fst y2)))) (Int.toNat (↑b1 : Int))))), Prod.fst (Prod.snd (Prod.snd (Prod.snd (Prod.snd (Prod.snd (Prod.snd (Prod.snd (Prod.fst y2)))) (Int.toNat (↑b1 :
      Int))))))) = (Prod.fst (Prod.snd (Prod.snd (Prod.snd (Prod.snd (Prod.snd (Prod.snd (Prod.fst y2)))) (Int.toNat (↑b1 : Int))))), Prod.fst (Prod.snd (Prod.snd (Prod.snd (Prod.snd (Prod.snd (Prod.snd (Prod.snd (Prod.fst y2)))) (Int.toNat (↑b1 : Int)))))))) ∧ ((Prod.fst (Prod.snd (Prod.snd (Prod.snd (Prod.snd (Prod.fst y2)))) (Int.toNat (↑b1 : Int))) != v9) = Bool.false → Int.toNat (↑b1 : Int) <
      Prod.fst (Prod.snd (Prod.fst y2))) ∧ ((Prod.fst (Prod.snd (Prod.snd (Prod.snd (Prod.snd (Prod.fst y2)))) (Int.toNat (↑b1 : Int))) != v9) = Bool.false → Int.toNat len ≤ Int.toNat len) ∧ ((Prod.fst (Prod.snd (Prod.snd (Prod.snd (Prod.snd (Prod.fst y2)))) (Int.toNat (↑b1 : Int))) != v9) = Bool.false → ∀ (k4 : Nat), k4 < Int.toNat len → Bool.true = Bool.true) ∧ ((Prod.fst (Prod.snd (Prod.snd (Prod.snd
      (Prod.snd (Prod.fst y2)))) (Int.toNat (↑b1 : Int))) != v9) = Bool.false → (Prod.fst (Prod.snd (Prod.snd (Prod.fst (Prod.snd x4))) (Int.toNat (↑b1 : Int))), Prod.fst (Prod.snd (Prod.snd (Prod.snd (Prod.fst (Prod.snd x4))) (Int.toNat (↑b1 : Int))))) = (Prod.fst (Prod.snd (Prod.snd (Prod.fst (Prod.snd x4))) (Int.toNat (↑b1 : Int))), Prod.fst (Prod.snd (Prod.snd (Prod.snd (Prod.fst (Prod.snd x4)))
      (Int.toNat (↑b1 : Int)))))) ∧ ((Prod.fst (Prod.snd (Prod.snd (Prod.snd (Prod.snd (Prod.fst y2)))) (Int.toNat (↑b1 : Int))) != v9) = Bool.false → Int.toNat (↑b1 : Int) < Prod.fst (Prod.fst (Prod.snd x4))) ∧ ∀ (t6 : Bool), t6 = Mk.intsB (Eng.RowD.mk (Prod.fst (Prod.snd (Prod.snd (Prod.snd (Prod.snd (Prod.snd (Prod.snd (Prod.fst y2)))) (Int.toNat (↑b1 : Int)))))) (Prod.fst (Prod.snd (Prod.snd
      (Prod.snd (Prod.snd (Prod.snd (Prod.snd (Prod.snd (Prod.fst y2)))) (Int.toNat (↑b1 : Int))))))) (Int.toNat (Prod.fst (Prod.snd (Prod.snd (Prod.snd (Prod.fst x'2)))))) (Prod.fst (Prod.snd (Prod.snd (Prod.snd (Prod.snd (Prod.snd (Prod.snd (Prod.snd (Prod.snd (Prod.fst y2)))) (Int.toNat (↑b1 : Int)))))))) Bool.false (Prod.snd (Prod.snd (Prod.snd (Prod.snd (Prod.snd (Prod.snd (Prod.snd (Prod.snd
      (Prod.snd (Prod.fst y2)))) (Int.toNat (↑b1 : Int))))))))) (Eng.RowD.mk (Prod.fst (Prod.snd (Prod.snd (Prod.fst (Prod.snd x4))) (Int.toNat (↑b1 : Int)))) (Prod.fst (Prod.snd (Prod.snd (Prod.snd (Prod.fst (Prod.snd x4))) (Int.toNat (↑b1 : Int))))) (Int.toNat len) (Prod.fst (Prod.snd (Prod.snd (Prod.snd (Prod.snd (Prod.fst (Prod.snd x4))) (Int.toNat (↑b1 : Int)))))) Bool.false (Prod.snd (Prod.snd
      (Prod.snd (Prod.snd (Prod.snd (Prod.fst (Prod.snd x4))) (Int.toNat (↑b1 : Int))))))) → ∀ (t7 : Bool), (t7 = if (Prod.fst (Prod.snd (Prod.snd (Prod.snd (Prod.snd (Prod.fst y2)))) (Int.toNat (↑b1 : Int))) != v9) = Bool.true then Bool.true else !t6) → (t7 = Bool.true → Bool.false = Bool.true) ∧ (t7 = Bool.false → ∀ (v10 : Int), v10 = Go.IntKind.wrap Go.IntKind.i64 ((↑b1 : Int) + (1 : Int)) → ∃ (x6 :
      Nat), v10 = (↑x6 : Int) ∧ x6 ≤ Prod.fst (Prod.fst (Prod.snd x4)) ∧ Prod.fst (Prod.fst (Prod.snd x4)) - x6 < Prod.fst (Prod.fst (Prod.snd x4)) - b1)) ∧ (Decidable.decide ((↑b1 : Int) < v7) = Bool.false → (Prod.fst (Prod.fst x'2) = Prod.fst (Prod.fst y1) ∧ Prod.fst (Prod.snd (Prod.fst x'2)) = (0 : Nat)) ∧ (Prod.fst (Prod.fst (Prod.snd (Prod.snd (Prod.fst x'2)))) = Prod.fst (Prod.fst (Prod.snd
      (Prod.snd (Prod.fst x'2)))) ∧ Prod.fst (Prod.snd (Prod.fst (Prod.snd (Prod.snd (Prod.fst x'2))))) = Prod.fst (Prod.snd (Prod.fst (Prod.snd (Prod.snd (Prod.fst x'2)))))) ∧ ∀ (t6 : Bool), t6 = Prod.fst (Prod.snd (Prod.fst (Prod.fst y2))) → ∀ (v9 : Int), v9 = (↑(Prod.fst (Prod.fst (Prod.snd x4))) : Int) → ∀ (t7 : Bool), t7 = Bool.true → ∀ (t8 : Bool), (t8 = if (t6 == Decidable.decide (v9 > (0 : Int)))
      = Bool.true then t7 else Bool.false) → t8 = Bool.true))))) (by kernel_rfl) ?_
  try simp only [eq_self, true_and, and_true, Nat.le_refl, implies_true, forall_const, Bool.false_eq_true, Bool.true_eq_false, reduceCtorEq, false_imp_iff, true_imp_iff, Int.toNat_zero, Int.toNat_natCast, Nat.zero_lt_one, Int.le_refl, allGet]
  intro v1 hv1 t1 ht1 t2 ht2 v2 hv2 t3 ht3
  refine ⟨fun _ t5 h5 => h5, fun h3 => ?_⟩
  have hb : n ≤ 20 ∧ 1 ≤ len ∧ len ≤ 300 ∧ pn ≠ 0 := by
    subst hv1 hv2 ht2 ht1
    rw [h3] at ht3
    by_cases q1 : (n : Int) > 20
    · rw [decide_eq_true q1] at ht3; cases ht3
    by_cases q2 : len < 1
    · rw [decide_eq_false q1, decide_eq_true q2] at ht3; cases ht3
    by_cases q3 : len > 300
    · rw [decide_eq_false q1, decide_eq_false q2, decide_eq_true q3] at ht3; cases ht3
    by_cases q4 : pn = 0
    · subst q4
      rw [decide_eq_false q1, decide_eq_false q2, decide_eq_false q3] at ht3; cases ht3
    exact ⟨by omega, by omega, by omega, q4⟩
  obtain ⟨b1, b2, b3, b4⟩ := hb
  have hL : 0 < len.toNat := by omega
  have hL2 : len.toNat ≤ 300 := by omega
  refine ⟨bridges_Q1_ok, fun x2 hx2 v3 hv3 => ?_⟩
  obtain ⟨g1, g2, g3, g4, g5, g6, g7, W, ms, g8, g9, g10⟩ := id hx2
  have hNb : x2.1.1 ≤ 20 * 332 := by
    rw [g2]
    exact Nat.mul_le_mul (Nat.le_trans g1 b1) (by omega)
  refine ⟨fun hlt s1 hs1 c1 c2 hc hc' v4 hv4 => ?_, fun hge => ?_⟩
  · have hlt := of_decide_eq_true hlt
    refine ⟨by omega, fun v5 hv5 => ?_⟩
    have e5 : v5 = (x2.2.1.1 : Int) % v4 := by rw [hv5, Int.tmod_eq_emod_of_nonneg (by omega)]
    have m1 : 0 ≤ (x2.2.1.1 : Int) % v4 := Int.emod_nonneg _ (by omega)
    have m2 : (x2.2.1.1 : Int) % v4 < v4 := Int.emod_lt_of_pos _ (by omega)
    refine ⟨by omega, by omega, by omega, fun t5 ht5 => ⟨fun _ => by decide, fun v6 hv6 t6 ht6 v7 hv7 => ?_⟩⟩
    have e7 : v7 = x2.2.2 + 1 := by rw [hv7, w64_id (by omega) (by omega)]
    have hsp : t6 = true → 0 < x2.2.1.1 ∧ x2.2.2 < 2 := fun q => by
      rw [q] at ht6
      have h5 : t5 = true := by
        cases h : t5 with
        | true => rfl
        | false => rw [h] at ht6; cases ht6
      rw [h5] at ht5
      by_cases q1 : (x2.2.1.1 : Int) > 0
      · rw [if_pos (decide_eq_true q1)] at ht5
        exact ⟨by omega, of_decide_eq_true ht5.symm⟩
      · rw [if_neg (by simpa using q1)] at ht5; cases ht5
    refine ⟨⟨fun h => ⟨0, rfl, fun q => ?_, fun _ => rfl⟩, fun h => ⟨v7, rfl, fun _ => rfl, fun q => ?_⟩⟩, fun v8 hv8 => ?_⟩
    · have q : t6 = true := q
      rw [q] at h; cases h
    · have q : t6 = false := q
      rw [q] at h; cases h
    have hv8 : (t6 = true → v8 = v7) ∧ (t6 = false → v8 = 0) := hv8
    refine ⟨bridges_Q2_ok hs1 hc, fun x6 hx6 => ?_⟩
    have hx6 : mkInv (pf v5.toNat) t6 x6 := hx6
    refine ⟨fun hlt6 v9 hv9 => ?_, fun hge6 => ?_⟩
    · have hlt6 := of_decide_eq_true hlt6
      have hx : x6.1 < 32 := by omega
      have hn9 : 0 ≤ v9 := by
        rw [hv9, u64_w]
        omega
      refine ⟨fun _ => hn9, fun v10 hv10 => ⟨fun _ => by decide, fun v11 hv11 t7 ht7 => ⟨fun _ => by decide, fun v12 hv12 v13 hv13 => ⟨fun _ => by decide, fun v14 hv14 => ⟨fun _ => by decide, fun v15 hv15 v16 hv16 t8 ht8 t9 ht9 t10 ht10 => ?_⟩⟩⟩⟩⟩
      refine ⟨fun h10 => ⟨by omega, by omega, by omega, fun v17 hv17 => ⟨by omega, by omega, by omega, fun v18 hv18 => ?_⟩⟩, fun h10 v18 hv18 => bridges_Q4_ok (hv18.trans (l_succ (by omega))) hx hx6⟩
      refine bridges_Q3_ok (hv18.trans (l_succ (by omega))) hx hx6 hv17 (fun h6 => ?_)
      rw [h10] at ht10
      have e7 : t7 = false := by rw [ht7, h6]; rfl
      rw [e7, ht9, h6] at ht10
      have e8 : t8 = true := ht10.symm
      have hw := u32_in (hR.2.2.1.2.2 v5.toNat (by dsimp only; omega))
      dsimp only at hw
      have q1 : 0 ≤ (pf v5.toNat).tmod 32 ∧ (pf v5.toNat).tmod 32 < 32 := ⟨Int.tmod_nonneg _ hw.1, Int.tmod_lt_of_pos _ (by decide)⟩
      have q2 : (pf v5.toNat).tdiv 32 = (pf v5.toNat) / 32 := Int.tdiv_eq_ediv_of_nonneg hw.1
      have e14 : v14 = (pf v5.toNat).tdiv 32 := by
        rw [hv14, q2, u32_w]
        omega
      have q3 : 0 ≤ ((pf v5.toNat).tdiv 32).tmod 32 ∧ ((pf v5.toNat).tdiv 32).tmod 32 < 32 := ⟨Int.tmod_nonneg _ (by rw [q2]; omega), Int.tmod_lt_of_pos _ (by decide)⟩
      have e13 : v13 = (pf v5.toNat).tmod 32 := by rw [hv13, hv12, w64_id (by omega) (by omega)]
      have e16 : v16 = ((pf v5.toNat).tdiv 32).tmod 32 := by rw [hv16, hv15, e14, w64_id (by omega) (by omega)]
      rw [e8] at ht8
      by_cases q : (x6.1 : Int) = v13
      · exact .inl (q.trans e13)
      · rw [if_neg (by simpa using q)] at ht8
        have : (x6.1 : Int) = v16 := by simpa using ht8.symm
        exact .inr (this.trans e16)
    · have hge6 := of_decide_eq_false hge6
      refine ⟨bridges_Q5_ok, fun x8 hx8 => ⟨fun hlt8 => ?_, fun hge8 s2 hs2 x'1 hx1 => ?_⟩⟩
      · have hlt8 := of_decide_eq_true hlt8
        refine ⟨⟨by omega, by omega, by omega, fun v10 hv10 => ⟨fun hgt => ?_, fun _ => ⟨_, rfl⟩⟩⟩, fun v11 => ⟨by decide, by decide, fun v12 hv12 v13 hv13 => ?_⟩⟩
        · have hgt := of_decide_eq_true hgt
          refine ⟨by omega, by omega, by omega, by omega, by omega, by omega, fun v11 hv11 => ⟨by omega, fun v12 hv12 => ?_⟩⟩
          have e12 : v12 = (x8.1 : Int) % v11 := by rw [hv12, Int.tmod_eq_emod_of_nonneg (by omega)]
          have m3 : 0 ≤ (x8.1 : Int) % v11 := Int.emod_nonneg _ (by omega)
          have m4 : (x8.1 : Int) % v11 < v11 := Int.emod_lt_of_pos _ (by omega)
          exact ⟨by omega, by omega, (hR.1.2.2 _ (by dsimp only; omega)).2.2.2 (by dsimp only; omega), by omega, by omega, _, rfl⟩
        · have hr := pick_range v11 (n := 16) (by decide) (by decide)
          rw [← hv12] at hr
          have e13 : v13 = v12 - 8 := by rw [hv13, w64_id (by omega) (by omega)]
          have hv : isV v13 = true := by unfold isV; rw [decide_eq_true (by omega), decide_eq_true (by omega)]; rfl
          exact ⟨fun q => q, by omega, by omega, fun c4 c5 c6 hc6 _ v14 hv14 => bridges_Q6_ok (hv14.trans (l_succ (by omega))) (by omega) hx8.2 hc6 hv⟩
      · have hge8 := of_decide_eq_false hge8
        obtain ⟨k1, k2⟩ := hx8
        have h8 : x8.1 = len.toNat := by omega
        have hl2 : s2.length = 32 := by rw [hs2]; exact bytof_len _ _
        have hl1 : x'1.1.length = 32 := by rw [hx1]; exact hl2
        obtain ⟨i1, i2, i3⟩ := hx6
        have h01 : ∀ i, i < 32 → x6.2.2 i = 0 ∨ x6.2.2 i = 1 := fun i hi => by
          rcases i3 i hi with q | ⟨q, _⟩ <;> rcases sym01 i with r | r <;> rw [q, r] <;> decide
        have hget : ∀ i, i < 32 → ((x'1.1.getD i 0).toNat : Int) = x6.2.2 i := fun i hi => by
          rw [hx1, hs2]
          exact bytof_getD hi (by rcases h01 i hi with q | q <;> rw [q] <;> decide) (by rcases h01 i hi with q | q <;> rw [q] <;> decide)
        have hsf : ∀ i, i < 32 → softF x'1.1 i = 14 * x6.2.2 i - 7 := fun i hi => by unfold softF; rw [hget i hi]
        have hls : listB x'1.1 = true := by
          refine listB_of fun i hi => ?_
          have := hget i (by omega)
          have := h01 i (by omega)
          unfold isSym
          rw [Nat.ble_eq]
          omega
        refine ⟨hls, by omega, by omega, fun y1 hy1 v12 hv12 => ⟨fun q => q, by omega, by omega, fun c5 hc5 _ _ => ⟨fun q => q, by omega, by omega, fun c6 c7 c8 hc8 _ _ => ⟨fun q => q, by omega, by omega, fun c10 c11 c12 hc12 _ v13 hv13 => ?_⟩⟩⟩⟩
        refine bridges_Q7_ok (hv13.trans (l_succ (by omega))) hL hl1 h8 (by omega) hc8 hc12 ?_
        let g : Nat → Int := fun i => if i < 32 then softF x'1.1 i else x8.2.2 (i - 32)
        have hwr : t6 = false → wr g 32 ≤ 2 := fun h6 => by
          have := wr_two (g := g) (p1 := ((pf v5.toNat).tmod 32).toNat) (p2 := (((pf v5.toNat).tdiv 32).tmod 32).toNat) (n := 32) (fun i hi hw => ?_)
          · split at this <;> split at this <;> omega
          · have hg : g i = 14 * x6.2.2 i - 7 := by
              show (if i < 32 then softF x'1.1 i else _) = _
              rw [if_pos hi, hsf i hi]
            rcases i3 i hi with q | ⟨_, _, q⟩
            · exfalso
              unfold isW at hw
              rw [hg, q] at hw
              rcases sym01 i with r | r <;> rw [r] at hw <;> exact absurd hw (by decide)
            · rcases q h6 with q | q
              · exact .inl (by omega)
              · exact .inr (by omega)
        obtain ⟨ms', a1, a2, a3⟩ := bridge_step (f' := fun i => if i < x2.1.1 + x'1.1.length then (if i < x2.1.1 then x2.1.2.2 i else softF x'1.1 (i - x2.1.1)) else x8.2.2 (i - (x2.1.1 + x'1.1.length))) (g := g) g10
          (fun i hi => by rw [if_pos (by omega), if_pos hi])
          (fun i hi => by
            by_cases q : i < 32
            · rw [if_pos (by omega), if_neg (by omega), Nat.add_sub_cancel_left]
              exact (if_pos q).symm
            · rw [if_neg (by omega), show x2.1.1 + i - (x2.1.1 + x'1.1.length) = i - 32 by omega]
              exact (if_neg q).symm)
          (by
            cases h6 : t6 with
            | false => exact .inl (hwr h6)
            | true => exact .inr ⟨decide_eq_true (hsp h6).1, by have := (hsp h6).2; omega⟩)
        have hn : x2.1.1 + x'1.1.length + x8.1 = x2.1.1 + (32 + len.toNat) := by omega
        have h8b : 0 ≤ v8 ∧ v8 ≤ 2 ∧ ms' ≤ v8 ∧ 0 ≤ ms' := by
          cases h6 : t6 with
          | false =>
            have := hv8.2 h6
            have := a1 (hwr h6)
            omega
          | true =>
            have q1 := hv8.1 h6
            have q2 := hsp h6
            by_cases q3 : wr g 32 ≤ 2
            · have := a1 q3; omega
            · have := a2 q3; omega
        refine ⟨by dsimp only; omega, ?_, ⟨softB_of fun i hi => ?_, hc8, fun q => ?_⟩, hc12, fun q => ?_, h8b.1, h8b.2.1, (fun j => if j < x2.2.1.1 then W j else (wr g 32 : Nat)), ms', h8b.2.2.2, h8b.2.2.1, ?_⟩
        · dsimp only
          rw [Nat.add_mul, ← g2]; omega
        · dsimp only at hi ⊢
          split
          · split
            · rename_i q; exact softB_at g3.1 q
            · rw [hsf _ (by omega)]
              rcases h01 (i - x2.1.1) (by omega) with q | q <;> rw [q] <;> rfl
          · exact softB_at k2.1 (by omega)
        · dsimp only at q; omega
        · dsimp only at q; omega
        · dsimp only
          rw [hn, bkL]
          have e1 : bkL len.toNat (mB len.toNat (fun j => if j < x2.2.1.1 then W j else (wr g 32 : Nat)) fun i => if i < x2.2.1.1 then x2.2.1.2.2 i else (x8.2.1.1, x8.2.1.2.1, x8.2.1.2.2, x8.2.2)) x2.2.1.1 = bkL len.toNat (mB len.toNat W x2.2.1.2.2) x2.2.1.1 := bkL_congr fun i hi => by
            unfold mB
            dsimp only
            rw [if_pos hi, if_pos hi]
          have e2 : (⟨(mB len.toNat (fun j => if j < x2.2.1.1 then W j else (wr g 32 : Nat)) (fun i => if i < x2.2.1.1 then x2.2.1.2.2 i else (x8.2.1.1, x8.2.1.2.1, x8.2.1.2.2, x8.2.2)) x2.2.1.1).1, (mB len.toNat (fun j => if j < x2.2.1.1 then W j else (wr g 32 : Nat)) (fun i => if i < x2.2.1.1 then x2.2.1.2.2 i else (x8.2.1.1, x8.2.1.2.1, x8.2.1.2.2, x8.2.2)) x2.2.1.1).2.1,
              rowL (mB len.toNat (fun j => if j < x2.2.1.1 then W j else (wr g 32 : Nat)) (fun i => if i < x2.2.1.1 then x2.2.1.2.2 i else (x8.2.1.1, x8.2.1.2.1, x8.2.1.2.2, x8.2.2)) x2.2.1.1).2.2.2.2.2 len.toNat⟩ : Bk) = ⟨(x2.1.1 : Nat), (wr g 32 : Nat), rowL (fun i => g (32 + i)) len.toNat⟩ := by
            unfold mB
            dsimp only
            rw [if_neg (Nat.lt_irrefl _), if_neg (Nat.lt_irrefl _), ← g2]
            congr 1
            refine rowL_congr fun i hi => ?_
            show _ = if 32 + i < 32 then _ else x8.2.2 (32 + i - 32)
            rw [if_neg (by omega), Nat.add_sub_cancel_left]
          rw [e1, e2, decide_eq_true (Nat.succ_pos _)]
          exact a3
  · have hge := of_decide_eq_false hge
    intro x'1 hx1
    subst hx1
    refine ⟨b2, by show len ≤ 20000; omega, fun y1 x'2 hx2' => ?_⟩
    have d2 : x'2.1 = newD len y1 := by rw [hx2']; rfl
    have n2 : x'2.2.1.n = x2.1.1 := by rw [hx2']
    have f2 : x'2.2.1.f = x2.1.2.2 := by rw [hx2']
    have p0 : pFin len x2.1.2.2 0 (FV.fd x'2.1) [] := by rw [d2]; exact pFin_new b2 _ y1
    refine ⟨pFin_pre p0 b2 b3 (by omega), fun y2 hy2 v4 hv4 v5 hv5 v6 hv6 t5 ht5 => ?_⟩
    obtain ⟨pa, ea, ka, kb, kc⟩ := pFin_step p0 (n := x2.1.1) (fun i hi => softB_at g3.1 (by omega)) n2 (fun i _ => by rw [f2, Nat.zero_add]) (by omega) hy2
    rw [Nat.zero_add, List.nil_append] at pa
    obtain ⟨u1, u2⟩ := Runs.uniq pa.2.2.2 ⟨g10, rfl⟩
    have hk := bkL_k u1
    have hlk : y2.1.1.2.1 = decide (0 < x2.2.1.1) := congrArg St.lk u2
    have e5 : t5 = false := by
      rw [ht5, hv4, ea, hv5, hv6, hk]
      simp
    refine ⟨fun q => (by rw [e5] at q; cases q), fun _ => ⟨⟨0, rfl, Nat.zero_le _⟩, fun k hk0 v7 hv7 => ⟨fun hlt => ?_, fun hge2 => ?_⟩⟩⟩
    · have hlt := of_decide_eq_true hlt
      refine ⟨by omega, by omega, by omega, fun v8 hv8 v9 hv9 => ?_⟩
      have e8 : v8 = 32 + len := by rw [hv8, w64_id (by omega) (by omega)]
      obtain ⟨q1, q2, q3⟩ := bkL_inj (hk ▸ u1) k (by omega)
      have hkm : k * (32 + len.toNat) ≤ 20 * 332 := Nat.mul_le_mul (by omega) (by omega)
      have em : (k : Int) * v8 = ((k * (32 + len.toNat) : Nat) : Int) := by
        rw [e8]
        push_cast
        congr 2
        omega
      have e9 : v9 = ((k * (32 + len.toNat) : Nat) : Int) := by rw [hv9, em, w64_id (by omega) (by omega)]
      have ene : ((y2.1.2.2.2.2 k).1 != v9) = false := by
        rw [e9, q1]
        simp [mB]
      refine ⟨fun _ => by omega, fun _ => by omega, fun _ => by omega, fun _ => by omega, fun _ => by omega, fun _ => by omega, fun _ => by omega, fun _ => by omega, fun t6 ht6 t7 ht7 => ?_⟩
      have l2 : x'2.1.2.2.2.1 = len := by rw [d2]; rfl
      have e6 : t6 = true := by
        rw [ht6, l2]
        exact intsB_of rfl (fun j hj => q3 j hj)
      have e7 : t7 = false := by rw [ht7, if_neg (by rw [ene]; decide), e6]; rfl
      exact ⟨fun q => (by rw [e7] at q; cases q), fun _ v10 hv10 => ⟨k + 1, hv10.trans (l_succ (by omega)), by omega, by omega⟩⟩
    · refine ⟨by rw [d2]; exact ⟨rfl, rfl⟩, fun t6 ht6 v9 hv9 t7 h7 t8 ht8 => ?_⟩
      have e6 : t6 = decide (v9 > 0) := by
        rw [ht6, hlk, hv9]
        by_cases q : 0 < x2.2.1.1
        · rw [decide_eq_true q, decide_eq_true (by omega)]
        · rw [decide_eq_false q, decide_eq_false (by omega)]
      rw [ht8, e6, h7]
      simp
section
variable {H : Type} {enc : TypeId × Value → H}
theorem opRowsIn (W : World) (base : Nat) : OpA enc Tryd.prog W base 51 [51] (.rowF eVal) (fun x => x.n ≤ x.c ∧ x.c * 24 ≤ 140737488351232 ∧ ∀ i, i < x.n → RowR (x.f i)) :=
  .rowF (e := 29) (by kernel_rfl) (.wrow (e := 3) (by kernel_rfl) (.int (by kernel_rfl) (by kernel_rfl)) (by kernel_rfl) (by kernel_rfl) Nat.one_pos) (by kernel_rfl) (by kernel_rfl)
theorem bridgesTop (W : World) (base : Nat) : OpTop enc Tryd.prog W base Tryd.f6.params.toList aBridges BridgesR :=
  .cons (opRowsIn W base) (.inr ⟨notStruct (by kernel_rfl), notArray (by kernel_rfl), rfl, fun _ _ => rfl⟩)
    (.cons (.elt (ct := [3]) (.int (by kernel_rfl) (by kernel_rfl)) (by kernel_rfl)) (.inr ⟨notStruct (by kernel_rfl), notArray (by kernel_rfl), rfl, fun _ _ => rfl⟩)
    (.cons (.row (e := 55) (by kernel_rfl) (.int (by kernel_rfl) (by kernel_rfl)) (by kernel_rfl) (by kernel_rfl)) (.inr ⟨notStruct (by kernel_rfl), notArray (by kernel_rfl), rfl, fun _ _ => rfl⟩) .nil))
end
end Mk
