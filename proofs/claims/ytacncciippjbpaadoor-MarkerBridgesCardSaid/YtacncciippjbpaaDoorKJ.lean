/-
  OWN WORK. Marker: stream.
-/
import Derived.Test.YtacncciippjbpaaDoorKI
namespace Mk
open Go Go.Proofs Eng
set_option linter.unusedVariables false
set_option linter.unusedSimpArgs false
set_option maxRecDepth 100000
set_option maxHeartbeats 8000000

def ESM : Env := (((E0.addP 20 pick).addP 29 syms).addE 44 soften).inl 30 Tryd.f30 fun _ _ => []
theorem ESM_ok : EnvOk Tryd.prog ESM := (((E0_ok.addP pick_ok).addP symsR_ok).addE soften_ok).inl _ Tryd.func30 rfl (by kernel_rfl)
abbrev aStr2 : ArgL (RowD PtD × Int × Unit) := .cons (.rowF ePart) (.cons (.elt (.int .i64)) .nil)
/-- A row of ints: how many, where, which. -/
abbrev IR := Nat × (Nat × Nat × Nat) × (Nat → Int)
abbrev irS (g : Nat) (y : IR) : SV := .slice g y.2.1.1 y.2.1.2.1 [] 1 0 y.1 y.2.1.2.2 (Nat.beq y.1 0)
abbrev irE (g : Nat) (y : IR) : Ent := ⟨g, y.2.1.1, y.2.1.2.1, 1, y.1, fun i => .int .i64 (y.2.2 i), true, false, y.2.1.2.2, 3, Nat.beq y.1 0, none⟩
def irOk (y : IR) : Prop := softB y.2.2 y.1 = true ∧ y.1 ≤ y.2.1.2.2 ∧ (y.1 = 0 → y.2.1.2.2 = 0)
def stream := ecC aStr2 (fun x => [x.1.n ≤ 30, x.2.1 ≤ 300, ∀ i, i < x.1.n → ptOk (x.1.f i)]) (fun x (y : IR) => irOk y ∧ y.1 ≤ 332 * x.1.n) (fun x y => irS 3 y) (fun x y => [irE 3 y]) 1
def stream_Q1 (n : Nat) : Prop := ∃ (x1 : Nat × Nat × (Nat × Nat × Nat) × (Nat → Int)), Eng.SVeq (Eng.SV.slice (999999 : Nat) (0 : Nat) (0 : Nat) [] (0 : Nat) (0 : Nat) (0 : Nat) (0 : Nat) Bool.true) (Eng.SV.slice (800 : Nat) (Prod.fst (Prod.fst (Prod.snd (Prod.snd x1)))) (Prod.fst (Prod.snd (Prod.fst (Prod.snd (Prod.snd x1))))) [] (1 : Nat) (0 : Nat) (Prod.fst (Prod.snd x1)) (Prod.snd (Prod.snd
    (Prod.fst (Prod.snd (Prod.snd x1))))) (Nat.beq (Prod.fst (Prod.snd x1)) (0 : Nat))) ∧ (0 : Int) = (↑(Prod.fst x1) : Int) ∧ (Nat.beq (Prod.fst (Prod.snd x1)) (0 : Nat) = Bool.true ∧ Prod.fst (Prod.snd x1) = (0 : Nat) ∧ Prod.snd (Prod.snd (Prod.fst (Prod.snd (Prod.snd x1)))) = (0 : Nat)) ∧ Prod.fst x1 ≤ n ∧ Mk.irOk (Prod.snd x1) ∧ Prod.fst (Prod.snd x1) ≤ (332 : Nat) * Prod.fst x1
def stream_Q2 (y1 : Nat × Nat × Nat) (x'1 : List UInt8 × Unit) : Prop := ∃ (x3 : Nat × (Nat × Nat × Nat) × (Nat → Int)), (Prod.fst y1 = Prod.fst (Prod.fst (Prod.snd x3)) ∧ Prod.fst (Prod.snd y1) = Prod.fst (Prod.snd (Prod.fst (Prod.snd x3))) ∧ (0 : Nat) = (0 : Nat) ∧ List.length (Prod.fst x'1) = (32 : Nat) ∧ Prod.snd (Prod.snd y1) = Prod.snd (Prod.snd (Prod.fst (Prod.snd x3))) ∧ Bool.false =
    Bool.false) ∧ (0 : Int) = (↑(Prod.fst x3) : Int) ∧ ((Prod.fst y1 = Prod.fst (Prod.fst (Prod.snd x3)) ∧ Prod.fst (Prod.snd y1) = Prod.fst (Prod.snd (Prod.fst (Prod.snd x3))) ∧ Bool.false = Bool.false ∧ (32 : Nat) ≤ List.length (Prod.fst x'1) ∧ (32 : Nat) ≤ Prod.snd (Prod.snd (Prod.fst (Prod.snd x3))) ∧ Prod.snd (Prod.snd (Prod.fst (Prod.snd x3))) ≤ Prod.snd (Prod.snd y1)) ∧ ∀ (i1 : Nat), i1 < (32 :
    Nat) → Mk.softF (Prod.fst x'1) i1 = Prod.snd (Prod.snd x3) i1) ∧ Prod.fst x3 ≤ (32 : Nat) ∧ (∀ (i2 : Nat), i2 < (32 : Nat) → Prod.snd (Prod.snd x3) i2 = (7 : Int) ∨ Prod.snd (Prod.snd x3) i2 = (-7 : Int)) ∧ (32 : Nat) ≤ Prod.snd (Prod.snd (Prod.fst (Prod.snd x3)))
def stream_Q3 (x4 : Nat × (Nat × Nat × Nat) × (Nat → Int)) (v6 : Int) (v4 : Int) (v5 : Int) : Prop := ∃ (x5 : Nat × (Nat × Nat × Nat) × (Nat → Int)), (Prod.fst (Prod.fst (Prod.snd x4)) = Prod.fst (Prod.fst (Prod.snd x5)) ∧ Prod.fst (Prod.snd (Prod.fst (Prod.snd x4))) = Prod.fst (Prod.snd (Prod.fst (Prod.snd x5))) ∧ (0 : Nat) = (0 : Nat) ∧ (32 : Nat) = (32 : Nat) ∧ Prod.snd (Prod.snd (Prod.fst
    (Prod.snd x4))) = Prod.snd (Prod.snd (Prod.fst (Prod.snd x5))) ∧ Bool.false = Bool.false) ∧ v6 = (↑(Prod.fst x5) : Int) ∧ ((Prod.fst (Prod.fst (Prod.snd x4)) = Prod.fst (Prod.fst (Prod.snd x5)) ∧ Prod.fst (Prod.snd (Prod.fst (Prod.snd x4))) = Prod.fst (Prod.snd (Prod.fst (Prod.snd x5))) ∧ Bool.false = Bool.false ∧ (32 : Nat) ≤ (32 : Nat) ∧ (32 : Nat) ≤ Prod.snd (Prod.snd (Prod.fst (Prod.snd x5))) ∧
    Prod.snd (Prod.snd (Prod.fst (Prod.snd x5))) ≤ Prod.snd (Prod.snd (Prod.fst (Prod.snd x4)))) ∧ ∀ (i3 : Nat), i3 < (32 : Nat) → (if i3 = Int.toNat v4 then v5 else Prod.snd (Prod.snd x4) i3) = Prod.snd (Prod.snd x5) i3) ∧ (Prod.fst x5 ≤ (32 : Nat) ∧ (∀ (i4 : Nat), i4 < (32 : Nat) → Prod.snd (Prod.snd x5) i4 = (7 : Int) ∨ Prod.snd (Prod.snd x5) i4 = (-7 : Int)) ∧ (32 : Nat) ≤ Prod.snd (Prod.snd
    (Prod.fst (Prod.snd x5)))) ∧ (32 : Nat) - Prod.fst x5 < (32 : Nat) - Prod.fst x4
def stream_Q4 (x4 : Nat × (Nat × Nat × Nat) × (Nat → Int)) : Prop := ∃ (x5 : Nat × (Nat × Nat × Nat) × (Nat → Int)), (Prod.fst (Prod.fst (Prod.snd x4)) = Prod.fst (Prod.fst (Prod.snd x5)) ∧ Prod.fst (Prod.snd (Prod.fst (Prod.snd x4))) = Prod.fst (Prod.snd (Prod.fst (Prod.snd x5))) ∧ (0 : Nat) = (0 : Nat) ∧ (32 : Nat) = Prod.fst x5 ∧ Prod.snd (Prod.snd (Prod.fst (Prod.snd x4))) = Prod.snd (Prod.snd
    (Prod.fst (Prod.snd x5))) ∧ Bool.false = Nat.beq (Prod.fst x5) (0 : Nat)) ∧ ((Prod.fst (Prod.fst (Prod.snd x4)) = Prod.fst (Prod.fst (Prod.snd x5)) ∧ Prod.fst (Prod.snd (Prod.fst (Prod.snd x4))) = Prod.fst (Prod.snd (Prod.fst (Prod.snd x5))) ∧ Bool.false = Nat.beq (Prod.fst x5) (0 : Nat) ∧ Prod.fst x5 ≤ (32 : Nat) ∧ Prod.fst x5 ≤ Prod.snd (Prod.snd (Prod.fst (Prod.snd x5))) ∧ Prod.snd (Prod.snd
    (Prod.fst (Prod.snd x5))) ≤ Prod.snd (Prod.snd (Prod.fst (Prod.snd x4)))) ∧ ∀ (i3 : Nat), i3 < Prod.fst x5 → Prod.snd (Prod.snd x4) i3 = Prod.snd (Prod.snd x5) i3) ∧ Mk.irOk x5 ∧ Prod.fst x5 ≤ (32 : Nat)
def stream_Q5 (x4 : Nat × (Nat × Nat × Nat) × (Nat → Int)) : Prop := ∃ (x5 : Nat × Nat × (Nat × Nat × Nat) × (Nat → Int)), (Prod.fst (Prod.fst (Prod.snd x4)) = Prod.fst (Prod.fst (Prod.snd (Prod.snd x5))) ∧ Prod.fst (Prod.snd (Prod.fst (Prod.snd x4))) = Prod.fst (Prod.snd (Prod.fst (Prod.snd (Prod.snd x5)))) ∧ (0 : Nat) = (0 : Nat) ∧ Prod.fst x4 = Prod.fst (Prod.snd x5) ∧ Prod.snd (Prod.snd
    (Prod.fst (Prod.snd x4))) = Prod.snd (Prod.snd (Prod.fst (Prod.snd (Prod.snd x5)))) ∧ Nat.beq (Prod.fst x4) (0 : Nat) = Nat.beq (Prod.fst (Prod.snd x5)) (0 : Nat)) ∧ (0 : Int) = (↑(Prod.fst x5) : Int) ∧ ((Prod.fst (Prod.fst (Prod.snd x4)) = Prod.fst (Prod.fst (Prod.snd (Prod.snd x5))) ∧ Prod.fst (Prod.snd (Prod.fst (Prod.snd x4))) = Prod.fst (Prod.snd (Prod.fst (Prod.snd (Prod.snd x5)))) ∧ Nat.beq
    (Prod.fst x4) (0 : Nat) = Nat.beq (Prod.fst (Prod.snd x5)) (0 : Nat) ∧ Prod.fst (Prod.snd x5) ≤ Prod.fst x4 ∧ Prod.fst (Prod.snd x5) ≤ Prod.snd (Prod.snd (Prod.fst (Prod.snd (Prod.snd x5)))) ∧ Prod.snd (Prod.snd (Prod.fst (Prod.snd (Prod.snd x5)))) ≤ Prod.snd (Prod.snd (Prod.fst (Prod.snd x4)))) ∧ ∀ (i1 : Nat), i1 < Prod.fst (Prod.snd x5) → Prod.snd (Prod.snd x4) i1 = Prod.snd (Prod.snd (Prod.snd
    x5)) i1) ∧ Prod.fst x5 ≤ (300 : Nat) ∧ Mk.irOk (Prod.snd x5) ∧ Prod.fst (Prod.snd x5) ≤ (32 : Nat) + Prod.fst x5
def stream_Q6 (b3 : Nat) (b4 : Nat) (x6 : Nat × Nat × (Nat × Nat × Nat) × (Nat → Int)) (b5 : Nat) (v7 : Int) (v6 : Int) : Prop := ∃ (x7 : Nat × Nat × (Nat × Nat × Nat) × (Nat → Int)), (b3 = Prod.fst (Prod.fst (Prod.snd (Prod.snd x7))) ∧ b4 = Prod.fst (Prod.snd (Prod.fst (Prod.snd (Prod.snd x7)))) ∧ (0 : Nat) = (0 : Nat) ∧ Prod.fst (Prod.snd x6) + (1 : Nat) = Prod.fst (Prod.snd x7) ∧ b5 = Prod.snd
    (Prod.snd (Prod.fst (Prod.snd (Prod.snd x7)))) ∧ (Nat.beq (Prod.fst (Prod.snd x6)) (0 : Nat) && Decidable.decide ((1 : Nat) = (0 : Nat))) = Nat.beq (Prod.fst (Prod.snd x7)) (0 : Nat)) ∧ v7 = (↑(Prod.fst x7) : Int) ∧ ((b3 = Prod.fst (Prod.fst (Prod.snd (Prod.snd x7))) ∧ b4 = Prod.fst (Prod.snd (Prod.fst (Prod.snd (Prod.snd x7)))) ∧ (Nat.beq (Prod.fst (Prod.snd x6)) (0 : Nat) && Decidable.decide ((1
    : Nat) = (0 : Nat))) = Nat.beq (Prod.fst (Prod.snd x7)) (0 : Nat) ∧ Prod.fst (Prod.snd x7) ≤ Prod.fst (Prod.snd x6) + (1 : Nat) ∧ Prod.fst (Prod.snd x7) ≤ Prod.snd (Prod.snd (Prod.fst (Prod.snd (Prod.snd x7)))) ∧ Prod.snd (Prod.snd (Prod.fst (Prod.snd (Prod.snd x7)))) ≤ b5) ∧ ∀ (i2 : Nat), i2 < Prod.fst (Prod.snd x7) → (if i2 < Prod.fst (Prod.snd x6) then Prod.snd (Prod.snd (Prod.snd x6)) i2 else
    v6) = Prod.snd (Prod.snd (Prod.snd x7)) i2) ∧ (Prod.fst x7 ≤ (300 : Nat) ∧ Mk.irOk (Prod.snd x7) ∧ Prod.fst (Prod.snd x7) ≤ (32 : Nat) + Prod.fst x7) ∧ (300 : Nat) - Prod.fst x7 < (300 : Nat) - Prod.fst x6
def stream_Q7 (b2 : Nat) (b3 : Nat) (x2 : Nat × Nat × (Nat × Nat × Nat) × (Nat → Int)) (v8 : Int) (b4 : Nat) (v9 : Int) (x6 : Nat × Nat × (Nat × Nat × Nat) × (Nat → Int)) (n : Nat) : Prop := ∃ (x7 : Nat × Nat × (Nat × Nat × Nat) × (Nat → Int)), (b2 = Prod.fst (Prod.fst (Prod.snd (Prod.snd x7))) ∧ b3 = Prod.fst (Prod.snd (Prod.fst (Prod.snd (Prod.snd x7)))) ∧ (0 : Nat) = (0 : Nat) ∧ Prod.fst
    (Prod.snd x2) + Int.toNat v8 = Prod.fst (Prod.snd x7) ∧ b4 = Prod.snd (Prod.snd (Prod.fst (Prod.snd (Prod.snd x7)))) ∧ (Nat.beq (Prod.fst (Prod.snd x2)) (0 : Nat) && Decidable.decide (Int.toNat v8 = (0 : Nat))) = Nat.beq (Prod.fst (Prod.snd x7)) (0 : Nat)) ∧ v9 = (↑(Prod.fst x7) : Int) ∧ ((b2 = Prod.fst (Prod.fst (Prod.snd (Prod.snd x7))) ∧ b3 = Prod.fst (Prod.snd (Prod.fst (Prod.snd (Prod.snd
    x7)))) ∧ (Nat.beq (Prod.fst (Prod.snd x2)) (0 : Nat) && Decidable.decide (Int.toNat v8 = (0 : Nat))) = Nat.beq (Prod.fst (Prod.snd x7)) (0 : Nat) ∧ Prod.fst (Prod.snd x7) ≤ Prod.fst (Prod.snd x2) + Int.toNat v8 ∧ Prod.fst (Prod.snd x7) ≤ Prod.snd (Prod.snd (Prod.fst (Prod.snd (Prod.snd x7)))) ∧ Prod.snd (Prod.snd (Prod.fst (Prod.snd (Prod.snd x7)))) ≤ b4) ∧ ∀ (i2 : Nat), i2 < Prod.fst (Prod.snd x7)
    → (if i2 < Prod.fst (Prod.snd x2) then Prod.snd (Prod.snd (Prod.snd x2)) i2 else Prod.snd (Prod.snd (Prod.snd x6)) (i2 - Prod.fst (Prod.snd x2))) = Prod.snd (Prod.snd (Prod.snd x7)) i2) ∧ (Prod.fst x7 ≤ n ∧ Mk.irOk (Prod.snd x7) ∧ Prod.fst (Prod.snd x7) ≤ (332 : Nat) * Prod.fst x7) ∧ n - Prod.fst x7 < n - Prod.fst x2
def stream_Q8 (x2 : Nat × Nat × (Nat × Nat × Nat) × (Nat → Int)) (n : Nat) : Prop := ∃ (x3 : Nat × (Nat × Nat × Nat) × (Nat → Int)), (Prod.fst (Prod.fst (Prod.snd (Prod.snd x2))) = Prod.fst (Prod.fst (Prod.snd x3)) ∧ Prod.fst (Prod.snd (Prod.fst (Prod.snd (Prod.snd x2)))) = Prod.fst (Prod.snd (Prod.fst (Prod.snd x3))) ∧ (0 : Nat) = (0 : Nat) ∧ Prod.fst (Prod.snd x2) = Prod.fst x3 ∧ Prod.snd
    (Prod.snd (Prod.fst (Prod.snd (Prod.snd x2)))) = Prod.snd (Prod.snd (Prod.fst (Prod.snd x3))) ∧ Nat.beq (Prod.fst (Prod.snd x2)) (0 : Nat) = Nat.beq (Prod.fst x3) (0 : Nat)) ∧ ((Prod.fst (Prod.fst (Prod.snd (Prod.snd x2))) = Prod.fst (Prod.fst (Prod.snd x3)) ∧ Prod.fst (Prod.snd (Prod.fst (Prod.snd (Prod.snd x2)))) = Prod.fst (Prod.snd (Prod.fst (Prod.snd x3))) ∧ Nat.beq (Prod.fst (Prod.snd x2)) (0
    : Nat) = Nat.beq (Prod.fst x3) (0 : Nat) ∧ Prod.fst x3 ≤ Prod.fst (Prod.snd x2) ∧ Prod.fst x3 ≤ Prod.snd (Prod.snd (Prod.fst (Prod.snd x3))) ∧ Prod.snd (Prod.snd (Prod.fst (Prod.snd x3))) ≤ Prod.snd (Prod.snd (Prod.fst (Prod.snd (Prod.snd x2))))) ∧ ∀ (i1 : Nat), i1 < Prod.fst x3 → Prod.snd (Prod.snd (Prod.snd x2)) i1 = Prod.snd (Prod.snd x3) i1) ∧ Mk.irOk x3 ∧ Prod.fst x3 ≤ (332 : Nat) * n
theorem irOk_nil : irOk (0, (0, 0, 0), fun _ => 0) := ⟨rfl, Nat.le_refl _, fun _ => rfl⟩
theorem softB_of {f : Nat → Int} : ∀ {n : Nat}, (∀ i, i < n → isV (f i) = true) → softB f n = true
  | 0, _ => rfl
  | n + 1, h => by rw [softB, softB_of fun i hi => h i (by omega), h n (by omega)]; rfl
theorem softB_at {f : Nat → Int} {n i : Nat} (h : softB f n = true) (hi : i < n) : isV (f i) = true := by
  cases hv : isV (f i) with
  | true => rfl
  | false => rw [softB_false hv hi] at h; cases h
theorem stream_Q1_ok (n : Nat) : stream_Q1 n := by
  refine ⟨(0, 0, (0, 0, 0), fun _ => 0), ?_⟩
  have h := irOk_nil
  have h1 : 0 ≤ 332 * 0 := by omega
  have h2 : 0 ≤ n := by omega
  dsimp only
  repeat' (first | exact rfl | exact trivial | exact Nat.le_refl _ | assumption | exact nil_eqv rfl rfl rfl | exact svr _ | apply And.intro | (intro i hi; exact absurd hi (Nat.not_lt_zero _)) | intro _)
theorem stream_Q4_ok {x4 : Nat × (Nat × Nat × Nat) × (Nat → Int)} (h : ∀ i, i < 32 → x4.2.2 i = 7 ∨ x4.2.2 i = -7) (hc : 32 ≤ x4.2.1.2.2) : stream_Q4 x4 := by
  refine ⟨(32, x4.2), ?_⟩
  have h1 : irOk (32, x4.2) := ⟨softB_of fun i hi => by rcases h i hi with q | q <;> (show isV (x4.2.2 i) = true; rw [q]; rfl), hc, fun q => by cases q⟩
  dsimp only
  repeat' (first | exact rfl | exact trivial | exact Nat.le_refl _ | assumption | exact nil_eqv rfl rfl rfl | exact svr _ | apply And.intro | (intro i hi; exact absurd hi (Nat.not_lt_zero _)) | intro _)
theorem stream_Q5_ok {x4 : IR} (h : irOk x4) (h1 : x4.1 ≤ 32) : stream_Q5 x4 := by
  refine ⟨(0, x4), ?_⟩
  have h2 := h.2.1
  have h3 : 0 ≤ 300 := by omega
  dsimp only
  repeat' (first | exact rfl | exact trivial | exact Nat.le_refl _ | assumption | exact nil_eqv rfl rfl rfl | exact svr _ | apply And.intro | (intro i hi; exact absurd hi (Nat.not_lt_zero _)) | intro _)
theorem stream_Q8_ok {x2 : Nat × IR} {n : Nat} (h : irOk x2.2) (h1 : x2.2.1 ≤ 332 * n) : stream_Q8 x2 n := by
  refine ⟨x2.2, ?_⟩
  have h2 := h.2.1
  repeat' (first | exact rfl | exact trivial | exact Nat.le_refl _ | assumption | exact nil_eqv rfl rfl rfl | exact svr _ | apply And.intro | (intro i hi; exact absurd hi (Nat.not_lt_zero _)) | intro _)
theorem stream_Q2_ok {y1 : Nat × Nat × Nat} {x1 : List UInt8 × Unit} (hx : x1 = (symL, ())) (hc : 32 ≤ y1.2.2) : stream_Q2 y1 x1 := by
  subst hx
  refine ⟨(0, y1, softF symL), ?_⟩
  have hl : symL.length = 32 := symL_len
  have hl2 : 32 ≤ symL.length := by omega
  have h0 : 0 ≤ 32 := by omega
  have hs : ∀ i, i < 32 → softF symL i = 7 ∨ softF symL i = -7 := fun i hi => by
    have hy : ((symL.getD i 0).toNat : Int) = symF i := bytof_getD (f := symF) hi (symF_nat i).1 (symF_nat i).2
    have : symF i = 0 ∨ symF i = 1 := by unfold symF; omega
    unfold softF
    rw [hy]
    rcases this with q | q <;> rw [q]
    · exact .inr rfl
    · exact .inl rfl
  dsimp only
  repeat' (first | exact rfl | exact trivial | exact Nat.le_refl _ | assumption | exact nil_eqv rfl rfl rfl | exact svr _ | apply And.intro | (intro i hi; exact absurd hi (Nat.not_lt_zero _)) | intro _)
theorem stream_Q3_ok {x4 : Nat × (Nat × Nat × Nat) × (Nat → Int)} {v4 v5 v6 : Int} (h6 : v6 = ((x4.1 + 1 : Nat) : Int)) (hlt : x4.1 < 32) (h : ∀ i, i < 32 → x4.2.2 i = 7 ∨ x4.2.2 i = -7) (hc : 32 ≤ x4.2.1.2.2) (h5 : v5 = 7 ∨ v5 = -7) : stream_Q3 x4 v6 v4 v5 := by
  refine ⟨(x4.1 + 1, x4.2.1, fun i => if i = Int.toNat v4 then v5 else x4.2.2 i), ?_⟩
  have h1 : x4.1 + 1 ≤ 32 := hlt
  have h2 : 32 - (x4.1 + 1) < 32 - x4.1 := by omega
  have h3 : ∀ i, i < 32 → (if i = Int.toNat v4 then v5 else x4.2.2 i) = 7 ∨ (if i = Int.toNat v4 then v5 else x4.2.2 i) = -7 := fun i hi => by
    split
    · exact h5
    · exact h i hi
  dsimp only
  repeat' (first | exact rfl | exact trivial | exact Nat.le_refl _ | assumption | exact nil_eqv rfl rfl rfl | exact svr _ | apply And.intro | (intro i hi; exact absurd hi (Nat.not_lt_zero _)) | intro _)
theorem stream_Q6_ok {b3 b4 b5 : Nat} {x6 : Nat × IR} {v6 v7 : Int} (h7 : v7 = ((x6.1 + 1 : Nat) : Int)) (hlt : x6.1 < 300) (h : irOk x6.2) (hM : x6.2.1 ≤ 32 + x6.1) (hb : x6.2.1 + 1 ≤ b5) (hv : isV v6 = true) : stream_Q6 b3 b4 x6 b5 v7 v6 := by
  refine ⟨(x6.1 + 1, x6.2.1 + 1, (b3, b4, b5), fun i => if i < x6.2.1 then x6.2.2.2 i else v6), ?_⟩
  have h1 : x6.1 + 1 ≤ 300 := hlt
  have h2 : 300 - (x6.1 + 1) < 300 - x6.1 := by omega
  have h3 : x6.2.1 + 1 ≤ 32 + (x6.1 + 1) := by omega
  have h4 : irOk (x6.2.1 + 1, (b3, b4, b5), fun i => if i < x6.2.1 then x6.2.2.2 i else v6) := ⟨softB_of fun i hi => by
    show isV (if i < x6.2.1 then x6.2.2.2 i else v6) = true
    split
    · rename_i q; exact softB_at h.1 q
    · exact hv, hb, fun q => by cases q⟩
  have h5 : (Nat.beq x6.2.1 0 && decide (1 = 0)) = Nat.beq (x6.2.1 + 1) 0 := by
    rw [decide_eq_false (by omega : ¬ 1 = 0), Bool.and_false]; rfl
  dsimp only
  repeat' (first | exact rfl | exact trivial | exact Nat.le_refl _ | assumption | exact nil_eqv rfl rfl rfl | exact svr _ | apply And.intro | (intro i hi; exact absurd hi (Nat.not_lt_zero _)) | intro _)
theorem stream_Q7_ok {b2 b3 b4 : Nat} {x2 : Nat × IR} {v8 v9 : Int} {x6 : Nat × IR} {n : Nat} (h9 : v9 = ((x2.1 + 1 : Nat) : Int)) (hlt : x2.1 < n) (h : irOk x2.2) (hN : x2.2.1 ≤ 332 * x2.1) (h' : irOk x6.2) (hv : v8.toNat ≤ x6.2.1) (hM : x6.2.1 ≤ 332) (hb : x2.2.1 + v8.toNat ≤ b4) (hz : Nat.beq x2.2.1 0 = true → v8.toNat = 0 → b4 = 0) : stream_Q7 b2 b3 x2 v8 b4 v9 x6 n := by
  refine ⟨(x2.1 + 1, x2.2.1 + v8.toNat, (b2, b3, b4), fun i => if i < x2.2.1 then x2.2.2.2 i else x6.2.2.2 (i - x2.2.1)), ?_⟩
  have h1 : x2.1 + 1 ≤ n := hlt
  have h2 : n - (x2.1 + 1) < n - x2.1 := by omega
  have h3 : x2.2.1 + v8.toNat ≤ 332 * (x2.1 + 1) := by omega
  have h4 : irOk (x2.2.1 + v8.toNat, (b2, b3, b4), fun i => if i < x2.2.1 then x2.2.2.2 i else x6.2.2.2 (i - x2.2.1)) := ⟨softB_of fun i hi => by
    show isV (if i < x2.2.1 then x2.2.2.2 i else x6.2.2.2 (i - x2.2.1)) = true
    split
    · rename_i q; exact softB_at h.1 q
    · have hi : i < x2.2.1 + v8.toNat := hi
      exact softB_at h'.1 (by omega), hb, fun q => by
        have q : x2.2.1 + v8.toNat = 0 := q
        exact hz (by rw [show x2.2.1 = 0 by omega]; rfl) (by omega)⟩
  have h5 : (Nat.beq x2.2.1 0 && decide (v8.toNat = 0)) = Nat.beq (x2.2.1 + v8.toNat) 0 := by
    cases q1 : x2.2.1 with
    | zero =>
      cases q2 : v8.toNat with
      | zero => rfl
      | succ k => rw [decide_eq_false (by omega), Bool.and_false, Nat.zero_add]; rfl
    | succ k =>
      have : k + 1 + v8.toNat = (k + v8.toNat) + 1 := by omega
      rw [this]; rfl
  dsimp only
  repeat' (first | exact rfl | exact trivial | exact Nat.le_refl _ | assumption | exact nil_eqv rfl rfl rfl | exact svr _ | apply And.intro | (intro i hi; exact absurd hi (Nat.not_lt_zero _)) | intro _)
theorem stream_ok : EcOk Tryd.prog 19 stream := by
  refine ecC_run (fun _ => ESM_ok) Tryd.func19 rfl (by kernel_rfl) []
    (fun x => [.loop ⟨3, Nat × IR, [5, 6], fun y => [irS 800 y.2, .int .i64 (y.1 : Nat)], [], fun y => [irE 800 y.2], fun y => y.1 ≤ x.1.n ∧ irOk y.2 ∧ y.2.1 ≤ 332 * y.1, fun y => x.1.n - y.1⟩,
      .loop ⟨10, Nat × (Nat × Nat × Nat) × (Nat → Int), [8, 9], fun y => [.slice 4 y.2.1.1 y.2.1.2.1 [] 1 0 32 y.2.1.2.2 false, .int .i64 (y.1 : Nat)], [4], fun y => [⟨4, y.2.1.1, y.2.1.2.1, 1, 32, fun i => .int .i64 (y.2.2 i), true, false, y.2.1.2.2, 3, false, none⟩], fun y => y.1 ≤ 32 ∧ (∀ i, i < 32 → y.2.2 i = 7 ∨ y.2.2 i = -7) ∧ 32 ≤ y.2.1.2.2, fun y => 32 - y.1⟩,
      .join ⟨14, IR, [8], fun y => [irS 820 y], [], fun y => [irE 820 y], fun y => irOk y ∧ y.1 ≤ 32, fun _ => 0⟩ 200,
      .loop ⟨15, Nat × IR, [8, 11], fun y => [irS 820 y.2, .int .i64 (y.1 : Nat)], [820], fun y => [irE 820 y.2], fun y => y.1 ≤ 300 ∧ irOk y.2 ∧ y.2.1 ≤ 32 + y.1, fun y => 300 - y.1⟩,
      .draw 17 (.take 0 (.take 1 (.take 2 (.take 3 (.take 4 (.take 5 (.take 6 (.take 7 (.take 8 (.take 9 .fin)))))))))) []])
    (fun _ => Nat.le_of_ble_eq_true rfl) (fun ⟨⟨b, off, n, c, z, f⟩, len, ()⟩ hp hw => ?_)
  refine vc_of (q :=
      Mk.stream_Q1 n ∧ ∀ (x2 : Nat × Nat × (Nat × Nat × Nat) × (Nat → Int)), Prod.fst x2 ≤ n ∧ Mk.irOk (Prod.snd x2) ∧ Prod.fst (Prod.snd x2) ≤ (332 : Nat) * Prod.fst x2 → ∀ (v1 : Int), v1 = (↑n : Int) → (Decidable.decide ((↑(Prod.fst x2) : Int) < v1) = Bool.true → (0 : Int) ≤ (↑(Prod.fst x2) : Int) ∧ (↑(Prod.fst x2) : Int) < (↑n : Int) ∧ (b = b ∧ off = off) ∧ Int.toNat (↑(Prod.fst x2) : Int) < n ∧ ∀ (b1
      : Nat), (b1 = b1 ∧ (0 : Nat) = (0 : Nat)) ∧ ((b1 = b1 ∧ (0 : Nat) = (0 : Nat)) ∧ ((!Prod.fst (f (Int.toNat (↑(Prod.fst x2) : Int)))) = Bool.true → ∀ (s1 : List UInt8), s1 = Mk.symL → ∀ (x'1 : List UInt8 × Unit), x'1 = (s1, ()) → Mk.listB (Prod.fst x'1) = Bool.true ∧ List.length (Prod.fst x'1) ≤ (40000 : Nat) ∧ (0 : Nat) < List.length (Prod.fst x'1) ∧ ∀ (y1 : Nat × Nat × Nat), List.length (Prod.fst
      x'1) ≤ Prod.snd (Prod.snd y1) → ∀ (v2 : Int), v2 = (0 : Int) → Mk.stream_Q2 y1 x'1 ∧ ∀ (x4 : Nat × (Nat × Nat × Nat) × (Nat → Int)), Prod.fst x4 ≤ (32 : Nat) ∧ (∀ (i : Nat), i < (32 : Nat) → Prod.snd (Prod.snd x4) i = (7 : Int) ∨ Prod.snd (Prod.snd x4) i = (-7 : Int)) ∧ (32 : Nat) ≤ Prod.snd (Prod.snd (Prod.fst (Prod.snd x4))) → (b1 = b1 ∧ (0 : Nat) = (0 : Nat)) ∧ ∀ (v3 : Int), v3 = (↑(Eng.RowD.n
      (Prod.fst (Prod.fst (Prod.snd (Prod.snd (f (Int.toNat (↑(Prod.fst x2) : Int)))))))) : Int) → ∀ (t1 : Bool), (t1 = if Decidable.decide ((↑(Prod.fst x4) : Int) < v3) = Bool.true then Decidable.decide ((↑(Prod.fst x4) : Int) < (32 : Int)) else Bool.false) → (t1 = Bool.true → (b1 = b1 ∧ (0 : Nat) = (0 : Nat)) ∧ (0 : Int) ≤ (↑(Prod.fst x4) : Int) ∧ (↑(Prod.fst x4) : Int) < (↑(Eng.RowD.n (Prod.fst
      (Prod.fst (Prod.snd (Prod.snd (f (Int.toNat (↑(Prod.fst x2) : Int)))))))) : Int) ∧ Prod.snd (Prod.fst (Prod.snd (Prod.snd (f (Int.toNat (↑(Prod.fst x2) : Int)))))) = Option.none ∧ (Eng.RowD.b (Prod.fst (Prod.fst (Prod.snd (Prod.snd (f (Int.toNat (↑(Prod.fst x2) : Int))))))), Eng.RowD.off (Prod.fst (Prod.fst (Prod.snd (Prod.snd (f (Int.toNat (↑(Prod.fst x2) : Int)))))))) = (Eng.RowD.b (Prod.fst
      (Prod.fst (Prod.snd (Prod.snd (f (Int.toNat (↑(Prod.fst x2) : Int))))))), Eng.RowD.off (Prod.fst (Prod.fst (Prod.snd (Prod.snd (f (Int.toNat (↑(Prod.fst x2) : Int)))))))) ∧ Int.toNat (↑(Prod.fst x2) : Int) < n ∧ Int.toNat (↑(Prod.fst x4) : Int) < Eng.RowD.n (Prod.fst (Prod.fst (Prod.snd (Prod.snd (f (Int.toNat (↑(Prod.fst x2) : Int))))))) ∧ (0 : Int) < (32 : Int) ∧ (32 : Int) ≤ (1000000 : Int) ∧ ∀
      (v4 : Int), v4 = Mk.pickF (Eng.RowD.f (Prod.fst (Prod.fst (Prod.snd (Prod.snd (f (Int.toNat (↑(Prod.fst x2) : Int))))))) (Int.toNat (↑(Prod.fst x4) : Int))) (32 : Int) → (0 : Int) ≤ v4 ∧ v4 < (↑(32 : Nat) : Int) ∧ (Prod.fst (Prod.fst (Prod.snd x4)) = Prod.fst (Prod.fst (Prod.snd x4)) ∧ Prod.fst (Prod.snd (Prod.fst (Prod.snd x4))) = Prod.fst (Prod.snd (Prod.fst (Prod.snd x4)))) ∧ Int.toNat v4 < (32
      : Nat) ∧ ∀ (v5 : Int), v5 = Go.IntKind.wrap Go.IntKind.i64 ((0 : Int) - Prod.snd (Prod.snd x4) (Int.toNat v4)) → (0 : Int) ≤ v4 ∧ v4 < (↑(32 : Nat) : Int) ∧ (Prod.fst (Prod.fst (Prod.snd x4)) = Prod.fst (Prod.fst (Prod.snd x4)) ∧ Prod.fst (Prod.snd (Prod.fst (Prod.snd x4))) = Prod.fst (Prod.snd (Prod.fst (Prod.snd x4)))) ∧ Int.toNat v4 < (32 : Nat) ∧ ∀ (v6 : Int), v6 = Go.IntKind.wrap
      Go.IntKind.i64 ((↑(Prod.fst x4) : Int) + (1 : Int)) → Mk.stream_Q3 x4 v6 v4 v5) ∧ (t1 = Bool.false → Mk.stream_Q4 x4)) ∧ ((!Prod.fst (f (Int.toNat (↑(Prod.fst x2) : Int)))) = Bool.false → ∃ (x3 : Nat × (Nat × Nat × Nat) × (Nat → Int)), Eng.SVeq (Eng.SV.slice (999999 : Nat) (0 : Nat) (0 : Nat) [] (0 : Nat) (0 : Nat) (0 : Nat) (0 : Nat) Bool.true) (Eng.SV.slice (820 : Nat) (Prod.fst (Prod.fst
      (Prod.snd x3))) (Prod.fst (Prod.snd (Prod.fst (Prod.snd x3)))) [] (1 : Nat) (0 : Nat) (Prod.fst x3) (Prod.snd (Prod.snd (Prod.fst (Prod.snd x3)))) (Nat.beq (Prod.fst x3) (0 : Nat))) ∧ (Nat.beq (Prod.fst x3) (0 : Nat) = Bool.true ∧ Prod.fst x3 = (0 : Nat) ∧ Prod.snd (Prod.snd (Prod.fst (Prod.snd x3))) = (0 : Nat)) ∧ Mk.irOk x3 ∧ Prod.fst x3 ≤ (32 : Nat))) ∧ ∀ (x4 : Nat × (Nat × Nat × Nat) × (Nat →
      Int)), Mk.irOk x4 ∧ Prod.fst x4 ≤ (32 : Nat) → Mk.stream_Q5 x4 ∧ ∀ (x6 : Nat × Nat × (Nat × Nat × Nat) × (Nat → Int)), Prod.fst x6 ≤ (300 : Nat) ∧ Mk.irOk (Prod.snd x6) ∧ Prod.fst (Prod.snd x6) ≤ (32 : Nat) + Prod.fst x6 → (Decidable.decide ((↑(Prod.fst x6) : Int) < len) = Bool.true → b1 = b1 ∧ (0 : Nat) = (0 : Nat)) ∧ ∀ (v2 : Int), v2 = (↑(Eng.RowD.n (Prod.fst (Prod.fst (Prod.snd (f (Int.toNat
      (↑(Prod.fst x2) : Int))))))) : Int) → ∀ (t1 : Bool), (t1 = if Decidable.decide ((↑(Prod.fst x6) : Int) < len) = Bool.true then Decidable.decide (v2 > (0 : Int)) else Bool.false) → (t1 = Bool.true → (b1 = b1 ∧ (0 : Nat) = (0 : Nat)) ∧ (b1 = b1 ∧ (0 : Nat) = (0 : Nat)) ∧ ∀ (v3 : Int), v3 = (↑(Eng.RowD.n (Prod.fst (Prod.fst (Prod.snd (f (Int.toNat (↑(Prod.fst x2) : Int))))))) : Int) → v3 ≠ (0 : Int) ∧
      ∀ (v4 : Int), v4 = Int.tmod (↑(Prod.fst x6) : Int) v3 → (0 : Int) ≤ v4 ∧ v4 < (↑(Eng.RowD.n (Prod.fst (Prod.fst (Prod.snd (f (Int.toNat (↑(Prod.fst x2) : Int))))))) : Int) ∧ Prod.snd (Prod.fst (Prod.snd (f (Int.toNat (↑(Prod.fst x2) : Int))))) = Option.none ∧ (Eng.RowD.b (Prod.fst (Prod.fst (Prod.snd (f (Int.toNat (↑(Prod.fst x2) : Int)))))), Eng.RowD.off (Prod.fst (Prod.fst (Prod.snd (f (Int.toNat
      (↑(Prod.fst x2) : Int))))))) = (Eng.RowD.b (Prod.fst (Prod.fst (Prod.snd (f (Int.toNat (↑(Prod.fst x2) : Int)))))), Eng.RowD.off (Prod.fst (Prod.fst (Prod.snd (f (Int.toNat (↑(Prod.fst x2) : Int))))))) ∧ Int.toNat (↑(Prod.fst x2) : Int) < n ∧ Int.toNat v4 < Eng.RowD.n (Prod.fst (Prod.fst (Prod.snd (f (Int.toNat (↑(Prod.fst x2) : Int)))))) ∧ (0 : Int) < (16 : Int) ∧ (16 : Int) ≤ (1000000 : Int) ∧ ∀
      (v5 : Int), v5 = Mk.pickF (Eng.RowD.f (Prod.fst (Prod.fst (Prod.snd (f (Int.toNat (↑(Prod.fst x2) : Int)))))) (Int.toNat v4)) (16 : Int) → ∀ (v6 : Int), v6 = Go.IntKind.wrap Go.IntKind.i64 (v5 - (8 : Int)) → ∀ (b2 : Nat), (Prod.fst (Prod.fst (Prod.snd (Prod.snd x6))) = Prod.fst (Prod.fst (Prod.snd (Prod.snd x6))) ∧ Prod.fst (Prod.snd (Prod.fst (Prod.snd (Prod.snd x6)))) = Prod.fst (Prod.snd
      (Prod.fst (Prod.snd (Prod.snd x6))))) ∧ (Nat.beq (Prod.fst (Prod.snd x6)) (0 : Nat) = Bool.true → Nat.beq (Prod.fst (Prod.snd x6)) (0 : Nat) = Bool.true) ∧ (0 : Nat) = (0 : Nat) ∧ Prod.fst (Prod.snd x6) ≤ Prod.fst (Prod.snd x6) ∧ Prod.snd (Prod.snd (Prod.fst (Prod.snd (Prod.snd x6)))) ≤ Prod.snd (Prod.snd (Prod.fst (Prod.snd (Prod.snd x6)))) ∧ (Prod.fst (Prod.snd x6) + (1 : Nat)) * (8 : Nat) ≤
      (140737488355328 : Nat) ∧ Prod.fst (Prod.snd x6) + (1 : Nat) ≤ (9223372036854775807 : Nat) ∧ (1 : Nat) ≤ (1 : Nat) ∧ (b2 = b2 ∧ (0 : Nat) = (0 : Nat)) ∧ ∀ (b3 b4 b5 : Nat), Prod.fst (Prod.snd x6) + (1 : Nat) ≤ b5 → b5 ≤ (9223372036854775807 : Nat) → (Nat.beq (Prod.fst (Prod.snd x6)) (0 : Nat) = Bool.true → (1 : Nat) = (0 : Nat) → b5 = (0 : Nat)) → ∀ (v7 : Int), v7 = Go.IntKind.wrap Go.IntKind.i64
      ((↑(Prod.fst x6) : Int) + (1 : Int)) → Mk.stream_Q6 b3 b4 x6 b5 v7 v6) ∧ (t1 = Bool.false → ∀ (v4 : Int), v4 = (↑(Prod.fst (Prod.snd x6)) : Int) → (b1 = b1 ∧ (0 : Nat) = (0 : Nat)) ∧ (0 : Int) < (3 : Int) ∧ (3 : Int) ≤ (1000000 : Int) ∧ ∀ (v5 : Int), v5 = Mk.pickF (Prod.fst (Prod.snd (Prod.snd (Prod.snd (f (Int.toNat (↑(Prod.fst x2) : Int))))))) (3 : Int) → ∀ (v6 : Int), (v6 = if v5 < v4 then v5
      else v4) → ∀ (v7 : Int), v7 = (↑(Prod.fst (Prod.snd x6)) : Int) → ∀ (v8 : Int), v8 = Go.IntKind.wrap Go.IntKind.i64 (v7 - v6) → (0 : Int) ≤ v8 ∧ v8 ≤ (↑(Prod.snd (Prod.snd (Prod.fst (Prod.snd (Prod.snd x6))))) : Int) ∧ (Prod.fst (Prod.fst (Prod.snd (Prod.snd x2))) = Prod.fst (Prod.fst (Prod.snd (Prod.snd x2))) ∧ Prod.fst (Prod.snd (Prod.fst (Prod.snd (Prod.snd x2)))) = Prod.fst (Prod.snd (Prod.fst
      (Prod.snd (Prod.snd x2))))) ∧ (Nat.beq (Prod.fst (Prod.snd x2)) (0 : Nat) = Bool.true → Nat.beq (Prod.fst (Prod.snd x2)) (0 : Nat) = Bool.true) ∧ (0 : Nat) = (0 : Nat) ∧ Prod.fst (Prod.snd x2) ≤ Prod.fst (Prod.snd x2) ∧ Prod.snd (Prod.snd (Prod.fst (Prod.snd (Prod.snd x2)))) ≤ Prod.snd (Prod.snd (Prod.fst (Prod.snd (Prod.snd x2)))) ∧ (Prod.fst (Prod.snd x2) + Int.toNat v8) * (8 : Nat) ≤
      (140737488355328 : Nat) ∧ Prod.fst (Prod.snd x2) + Int.toNat v8 ≤ (9223372036854775807 : Nat) ∧ Int.toNat v8 ≤ Prod.fst (Prod.snd x6) ∧ (Prod.fst (Prod.fst (Prod.snd (Prod.snd x6))) = Prod.fst (Prod.fst (Prod.snd (Prod.snd x6))) ∧ Prod.fst (Prod.snd (Prod.fst (Prod.snd (Prod.snd x6)))) = Prod.fst (Prod.snd (Prod.fst (Prod.snd (Prod.snd x6))))) ∧ ∀ (b2 b3 b4 : Nat), Prod.fst (Prod.snd x2) +
      Int.toNat v8 ≤ b4 → b4 ≤ (9223372036854775807 : Nat) → (Nat.beq (Prod.fst (Prod.snd x2)) (0 : Nat) = Bool.true → Int.toNat v8 = (0 : Nat) → b4 = (0 : Nat)) → ∀ (v9 : Int), v9 = Go.IntKind.wrap Go.IntKind.i64 ((↑(Prod.fst x2) : Int) + (1 : Int)) → Mk.stream_Q7 b2 b3 x2 v8 b4 v9 x6 n)) ∧ (Decidable.decide ((↑(Prod.fst x2) : Int) < v1) = Bool.false → Mk.stream_Q8 x2 n)) (by kernel_rfl) ?_
  obtain ⟨p1, p2, p3, _⟩ := hp
  dsimp only at p1 p2 p3
  refine ⟨stream_Q1_ok n, fun x2 hx2 v1 hv1 => ?_⟩
  obtain ⟨g1, g2, g3⟩ := hx2
  subst hv1
  simp only [Int.toNat_natCast]
  refine ⟨fun hlt => ?_, fun hge => ?_⟩
  · have hlt := of_decide_eq_true hlt
    have hx : x2.1 < n := by omega
    refine ⟨by omega, by omega, ⟨trivial, trivial⟩, hx, fun b1 => ⟨⟨trivial, trivial⟩, ⟨⟨trivial, trivial⟩, fun _ s1 hs1 x1 hx1 => ?_, fun _ => ?_⟩, fun x4 hx4 => ?_⟩⟩
    · have hx1' : x1 = (symL, ()) := by rw [hx1, hs1]
      have hl : x1.1.length = 32 := by rw [hx1']; exact symL_len
      refine ⟨by rw [hx1']; decide +kernel, by omega, by omega, fun y1 hy1 v2 _ => ⟨stream_Q2_ok hx1' (by omega), fun x4 hx4 => ⟨⟨trivial, trivial⟩, fun v3 hv3 t1 ht1 => ?_⟩⟩⟩
      obtain ⟨k1, k2, k3⟩ := hx4
      refine ⟨fun ht => ?_, fun _ => stream_Q4_ok k2 k3⟩
      have hb : x4.1 < 32 ∧ (x4.1 : Int) < v3 := by
        rw [ht] at ht1
        by_cases q : (x4.1 : Int) < v3
        · rw [if_pos (decide_eq_true q)] at ht1
          have := of_decide_eq_true ht1.symm
          exact ⟨by omega, q⟩
        · rw [if_neg (by simpa using q)] at ht1; cases ht1
      refine ⟨⟨trivial, trivial⟩, by omega, by omega, (p3 _ hx).2 (by omega), ⟨⟩, hx, by omega, by decide, by decide, fun v4 hv4 => ?_⟩
      have hr := pick_range ((f x2.1).2.2.1.1.f x4.1) (n := 32) (by decide) (by decide)
      rw [← hv4] at hr
      have h7 := k2 v4.toNat (by omega)
      refine ⟨hr.1, by omega, ⟨trivial, trivial⟩, by omega, fun v5 hv5 => ⟨hr.1, by omega, ⟨trivial, trivial⟩, by omega, fun v6 hv6 => stream_Q3_ok (hv6.trans (l_succ (by omega))) hb.1 k2 k3 ?_⟩⟩
      rcases h7 with q | q <;> rw [q] at hv5
      · exact .inr (hv5.trans (by decide))
      · exact .inl (hv5.trans (by decide))
    · exact ⟨(0, (0, 0, 0), fun _ => 0), nil_eqv rfl rfl rfl, ⟨rfl, rfl, rfl⟩, irOk_nil, by show 0 ≤ 32; omega⟩
    · obtain ⟨k1, k2⟩ := hx4
      refine ⟨stream_Q5_ok k1 k2, fun x6 hx6 => ?_⟩
      obtain ⟨l1, l2, l3⟩ := hx6
      refine ⟨fun _ => ⟨trivial, trivial⟩, fun v2 hv2 t1 ht1 => ⟨fun ht => ?_, fun ht v4 hv4 => ?_⟩⟩
      · have hb : (x6.1 : Int) < len ∧ v2 > 0 := by
          rw [ht] at ht1
          by_cases q : (x6.1 : Int) < len
          · rw [if_pos (decide_eq_true q)] at ht1
            exact ⟨q, of_decide_eq_true ht1.symm⟩
          · rw [if_neg (by simpa using q)] at ht1; cases ht1
        refine ⟨⟨trivial, trivial⟩, ⟨trivial, trivial⟩, fun v3 hv3 => ⟨by omega, fun v4 hv4 => ?_⟩⟩
        have e4 : v4 = (x6.1 : Int) % v3 := by rw [hv4, Int.tmod_eq_emod_of_nonneg (by omega)]
        have m1 : 0 ≤ (x6.1 : Int) % v3 := Int.emod_nonneg _ (by omega)
        have m2 : (x6.1 : Int) % v3 < v3 := Int.emod_lt_of_pos _ (by omega)
        refine ⟨by omega, by omega, (p3 _ hx).1 (by omega), ⟨⟩, hx, by omega, by decide, by decide, fun v5 hv5 v6 hv6 b2 => ?_⟩
        have hr := pick_range ((f x2.1).2.1.1.f v4.toNat) (n := 16) (by decide) (by decide)
        rw [← hv5] at hr
        have e6 : v6 = v5 - 8 := by rw [hv6, w64_id (by omega) (by omega)]
        refine ⟨⟨trivial, trivial⟩, fun h => h, ⟨⟩, Nat.le_refl _, Nat.le_refl _, by omega, by omega, Nat.le_refl _, ⟨trivial, trivial⟩, fun b3 b4 b5 h5 _ _ v7 hv7 => stream_Q6_ok (hv7.trans (l_succ (by omega))) (by omega) l2 l3 h5 ?_⟩
        unfold isV
        rw [decide_eq_true (by omega), decide_eq_true (by omega)]; rfl
      · have hr := pick_range ((f x2.1).2.2.2.1) (n := 3) (by decide) (by decide)
        refine ⟨⟨trivial, trivial⟩, by decide, by decide, fun v5 hv5 v6 hv6 v7 hv7 v8 hv8 => ?_⟩
        rw [← hv5] at hr
        have e6 : 0 ≤ v6 ∧ v6 ≤ v4 := by
          rw [hv6]; split <;> omega
        have e8 : v8 = v7 - v6 := by rw [hv8, w64_id (by omega) (by omega)]
        have hc := l2.2.1
        refine ⟨by omega, by omega, ⟨trivial, trivial⟩, fun h => h, ⟨⟩, Nat.le_refl _, Nat.le_refl _, by omega, by omega, by omega, ⟨trivial, trivial⟩, fun b2 b3 b4 h4 _ h4' v9 hv9 => stream_Q7_ok (hv9.trans (l_succ (by omega))) hx g2 g3 l2 (by omega) (by omega) h4 h4'⟩
  · have hge := of_decide_eq_false hge
    have : x2.1 = n := by omega
    rw [this] at g3
    exact stream_Q8_ok g2 g3
end Mk
