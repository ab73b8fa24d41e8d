/-
  OWN WORK (written by gen_h8.py). Heat: Clone.
-/
import Derived.Test.YtmcpacfpnljijaaH7
namespace Heat
open Go Go.Proofs Eng
set_option linter.unusedVariables false
set_option linter.unusedSimpArgs false

def EQ : Env := (((EB.addQ 22 eqSl).addQ 23 eqSl).addQ 24 eqSl).addQ 25 eqSl
theorem EQ_ok : EnvOk Try.prog EQ := (((EB_ok.addQ (eqSl_ok (e := 29) (by kernel_rfl))).addQ (eqSl_ok (e := 44) (by kernel_rfl))).addQ (eqSl_ok (e := 47) (by kernel_rfl))).addQ (eqSl_ok (e := 2) (by kernel_rfl))
/-- The result of a clone: new memory. -/
abbrev clRes {β : Type} (a : Elt β) (x : RowD β) (y : Nat × Nat × Nat) : SV := .slice 1 y.1 y.2.1 [] a.wd 0 x.n y.2.2 x.z
abbrev clEnt {β : Type} (ty : Nat) (a : Elt β) (x : RowD β) (y : Nat × Nat × Nat) : Hp := [⟨1, y.1, y.2.1, a.wd, x.n, fun k => a.mkv (x.f k), true, false, y.2.2, ty, x.z, none⟩]

abbrev rwNode : ArgL (RowD Node × Unit) := .cons (.row eNode) .nil
def cloneNode := ecC rwNode (fun x => [x.1.n ≤ 1000]) (fun x (y : Nat × Nat × Nat) => x.1.n ≤ y.2.2) (fun x y => clRes eNode x.1 y) (fun x y => clEnt 29 eNode x.1 y) 1
theorem cloneNode_ok : EcOk Try.prog 33 cloneNode := by
  refine ecC_run (fun _ => EQ_ok) Try.func33 rfl (by kernel_rfl) [] (fun x => []) (fun _ => Nat.le_of_ble_eq_true rfl) (fun ⟨⟨b, o, n, c, z, f⟩, ()⟩ hp hw => ?_)
  refine vc_of (q :=
      (z = Bool.true → ∃ (x1 : Nat × Nat × Nat), Eng.SVeq (Eng.SV.slice (999999 : Nat) (0 : Nat) (0 : Nat) [] (0 : Nat) (0 : Nat) (0 : Nat) (0 : Nat) Bool.true) (Eng.SV.slice (1 : Nat) (Prod.fst x1) (Prod.fst (Prod.snd x1)) [] (2 : Nat) (0 : Nat) n (Prod.snd (Prod.snd x1)) z) ∧ (z = Bool.true ∧ n = (0 : Nat) ∧ Prod.snd (Prod.snd x1) = (0 : Nat)) ∧ Nat.le n (Prod.snd (Prod.snd x1))) ∧ (z = Bool.false → ∀
      (b1 : Nat), (b1 = b1 ∧ (0 : Nat) = (0 : Nat)) ∧ (Bool.false = Bool.true → Bool.false = Bool.true) ∧ (0 : Nat) = (0 : Nat) ∧ (0 : Nat) ≤ (0 : Nat) ∧ (0 : Nat) ≤ (0 : Nat) ∧ ((0 : Nat) + n) * (16 : Nat) ≤ (140737488355328 : Nat) ∧ (0 : Nat) + n ≤ (9223372036854775807 : Nat) ∧ n ≤ n ∧ (b = b ∧ o = o) ∧ ∀ (b2 b3 b4 : Nat), (0 : Nat) + n ≤ b4 → b4 ≤ (9223372036854775807 : Nat) → (Bool.false = Bool.true
      → n = (0 : Nat) → b4 = (0 : Nat)) → ∃ (x2 : Nat × Nat × Nat), (b2 = Prod.fst x2 ∧ b3 = Prod.fst (Prod.snd x2) ∧ (0 : Nat) = (0 : Nat) ∧ (0 : Nat) + n = n ∧ b4 = Prod.snd (Prod.snd x2) ∧ (Bool.false && Decidable.decide (n = (0 : Nat))) = z) ∧ ((b2 = Prod.fst x2 ∧ b3 = Prod.fst (Prod.snd x2) ∧ (Bool.false && Decidable.decide (n = (0 : Nat))) = z ∧ n ≤ (0 : Nat) + n ∧ n ≤ Prod.snd (Prod.snd x2) ∧
      Prod.snd (Prod.snd x2) ≤ b4) ∧ ∀ (i1 : Nat), i1 < n → (if i1 < (0 : Nat) then (0 : Int) else Prod.fst (f (i1 - (0 : Nat)))) = Prod.fst (f i1) ∧ (if i1 < (0 : Nat) then (0 : Int) else Prod.fst (Prod.snd (f (i1 - (0 : Nat))))) = Prod.fst (Prod.snd (f i1))) ∧ Nat.le n (Prod.snd (Prod.snd x2)))) (by kernel_rfl) ?_
  simp
  have hz : z = true → n = 0 := fun h => ((hw _ (List.mem_singleton.2 rfl)).1 h).1
  obtain ⟨p1, _⟩ := hp
  dsimp only at p1
  refine ⟨fun h => ⟨0, 0, 0, nil_eqv h (hz h) rfl, ⟨h, hz h, rfl⟩, by have := hz h; omega⟩, fun h => ⟨by omega, by omega, fun b2 b3 b4 h1 h2 => ⟨b2, b3, b4, ⟨rfl, rfl, rfl, h⟩, ⟨rfl, rfl, h, h1, Nat.le_refl _⟩, h1⟩⟩⟩
abbrev rwPath : ArgL (RowD Path × Unit) := .cons (.row ePath) .nil
def clonePath := ecC rwPath (fun x => [x.1.n ≤ 1000]) (fun x (y : Nat × Nat × Nat) => x.1.n ≤ y.2.2) (fun x y => clRes ePath x.1 y) (fun x y => clEnt 44 ePath x.1 y) 1
theorem clonePath_ok : EcOk Try.prog 34 clonePath := by
  refine ecC_run (fun _ => EQ_ok) Try.func34 rfl (by kernel_rfl) [] (fun x => []) (fun _ => Nat.le_of_ble_eq_true rfl) (fun ⟨⟨b, o, n, c, z, f⟩, ()⟩ hp hw => ?_)
  refine vc_of (q :=
      (z = Bool.true → ∃ (x1 : Nat × Nat × Nat), Eng.SVeq (Eng.SV.slice (999999 : Nat) (0 : Nat) (0 : Nat) [] (0 : Nat) (0 : Nat) (0 : Nat) (0 : Nat) Bool.true) (Eng.SV.slice (1 : Nat) (Prod.fst x1) (Prod.fst (Prod.snd x1)) [] (3 : Nat) (0 : Nat) n (Prod.snd (Prod.snd x1)) z) ∧ (z = Bool.true ∧ n = (0 : Nat) ∧ Prod.snd (Prod.snd x1) = (0 : Nat)) ∧ Nat.le n (Prod.snd (Prod.snd x1))) ∧ (z = Bool.false → ∀
      (b1 : Nat), (b1 = b1 ∧ (0 : Nat) = (0 : Nat)) ∧ (Bool.false = Bool.true → Bool.false = Bool.true) ∧ (0 : Nat) = (0 : Nat) ∧ (0 : Nat) ≤ (0 : Nat) ∧ (0 : Nat) ≤ (0 : Nat) ∧ ((0 : Nat) + n) * (24 : Nat) ≤ (140737488355328 : Nat) ∧ (0 : Nat) + n ≤ (9223372036854775807 : Nat) ∧ n ≤ n ∧ (b = b ∧ o = o) ∧ ∀ (b2 b3 b4 : Nat), (0 : Nat) + n ≤ b4 → b4 ≤ (9223372036854775807 : Nat) → (Bool.false = Bool.true
      → n = (0 : Nat) → b4 = (0 : Nat)) → ∃ (x2 : Nat × Nat × Nat), (b2 = Prod.fst x2 ∧ b3 = Prod.fst (Prod.snd x2) ∧ (0 : Nat) = (0 : Nat) ∧ (0 : Nat) + n = n ∧ b4 = Prod.snd (Prod.snd x2) ∧ (Bool.false && Decidable.decide (n = (0 : Nat))) = z) ∧ ((b2 = Prod.fst x2 ∧ b3 = Prod.fst (Prod.snd x2) ∧ (Bool.false && Decidable.decide (n = (0 : Nat))) = z ∧ n ≤ (0 : Nat) + n ∧ n ≤ Prod.snd (Prod.snd x2) ∧
      Prod.snd (Prod.snd x2) ≤ b4) ∧ ∀ (i1 : Nat), i1 < n → (if i1 < (0 : Nat) then (0 : Int) else Prod.fst (f (i1 - (0 : Nat)))) = Prod.fst (f i1) ∧ (if i1 < (0 : Nat) then (0 : Int) else Prod.fst (Prod.snd (f (i1 - (0 : Nat))))) = Prod.fst (Prod.snd (f i1)) ∧ (if i1 < (0 : Nat) then (0 : Int) else Prod.fst (Prod.snd (Prod.snd (f (i1 - (0 : Nat)))))) = Prod.fst (Prod.snd (Prod.snd (f i1)))) ∧ Nat.le n
      (Prod.snd (Prod.snd x2)))) (by kernel_rfl) ?_
  simp
  have hz : z = true → n = 0 := fun h => ((hw _ (List.mem_singleton.2 rfl)).1 h).1
  obtain ⟨p1, _⟩ := hp
  dsimp only at p1
  refine ⟨fun h => ⟨0, 0, 0, nil_eqv h (hz h) rfl, ⟨h, hz h, rfl⟩, by have := hz h; omega⟩, fun h => ⟨by omega, by omega, fun b2 b3 b4 h1 h2 => ⟨b2, b3, b4, ⟨rfl, rfl, rfl, h⟩, ⟨rfl, rfl, h, h1, Nat.le_refl _⟩, h1⟩⟩⟩
abbrev rwHeater : ArgL (RowD Heater × Unit) := .cons (.row eHeater) .nil
def cloneHeater := ecC rwHeater (fun x => [x.1.n ≤ 1000]) (fun x (y : Nat × Nat × Nat) => x.1.n ≤ y.2.2) (fun x y => clRes eHeater x.1 y) (fun x y => clEnt 47 eHeater x.1 y) 1
theorem cloneHeater_ok : EcOk Try.prog 35 cloneHeater := by
  refine ecC_run (fun _ => EQ_ok) Try.func35 rfl (by kernel_rfl) [] (fun x => []) (fun _ => Nat.le_of_ble_eq_true rfl) (fun ⟨⟨b, o, n, c, z, f⟩, ()⟩ hp hw => ?_)
  refine vc_of (q :=
      (z = Bool.true → ∃ (x1 : Nat × Nat × Nat), Eng.SVeq (Eng.SV.slice (999999 : Nat) (0 : Nat) (0 : Nat) [] (0 : Nat) (0 : Nat) (0 : Nat) (0 : Nat) Bool.true) (Eng.SV.slice (1 : Nat) (Prod.fst x1) (Prod.fst (Prod.snd x1)) [] (5 : Nat) (0 : Nat) n (Prod.snd (Prod.snd x1)) z) ∧ (z = Bool.true ∧ n = (0 : Nat) ∧ Prod.snd (Prod.snd x1) = (0 : Nat)) ∧ Nat.le n (Prod.snd (Prod.snd x1))) ∧ (z = Bool.false → ∀
      (b1 : Nat), (b1 = b1 ∧ (0 : Nat) = (0 : Nat)) ∧ (Bool.false = Bool.true → Bool.false = Bool.true) ∧ (0 : Nat) = (0 : Nat) ∧ (0 : Nat) ≤ (0 : Nat) ∧ (0 : Nat) ≤ (0 : Nat) ∧ ((0 : Nat) + n) * (40 : Nat) ≤ (140737488355328 : Nat) ∧ (0 : Nat) + n ≤ (9223372036854775807 : Nat) ∧ n ≤ n ∧ (b = b ∧ o = o) ∧ ∀ (b2 b3 b4 : Nat), (0 : Nat) + n ≤ b4 → b4 ≤ (9223372036854775807 : Nat) → (Bool.false = Bool.true
      → n = (0 : Nat) → b4 = (0 : Nat)) → ∃ (x2 : Nat × Nat × Nat), (b2 = Prod.fst x2 ∧ b3 = Prod.fst (Prod.snd x2) ∧ (0 : Nat) = (0 : Nat) ∧ (0 : Nat) + n = n ∧ b4 = Prod.snd (Prod.snd x2) ∧ (Bool.false && Decidable.decide (n = (0 : Nat))) = z) ∧ ((b2 = Prod.fst x2 ∧ b3 = Prod.fst (Prod.snd x2) ∧ (Bool.false && Decidable.decide (n = (0 : Nat))) = z ∧ n ≤ (0 : Nat) + n ∧ n ≤ Prod.snd (Prod.snd x2) ∧
      Prod.snd (Prod.snd x2) ≤ b4) ∧ ∀ (i1 : Nat), i1 < n → (if i1 < (0 : Nat) then (0 : Int) else Prod.fst (f (i1 - (0 : Nat)))) = Prod.fst (f i1) ∧ (if i1 < (0 : Nat) then (0 : Int) else Prod.fst (Prod.snd (f (i1 - (0 : Nat))))) = Prod.fst (Prod.snd (f i1)) ∧ (if i1 < (0 : Nat) then (0 : Int) else Prod.fst (Prod.snd (Prod.snd (f (i1 - (0 : Nat)))))) = Prod.fst (Prod.snd (Prod.snd (f i1))) ∧ (if i1 < (0
      : Nat) then (0 : Int) else Prod.fst (Prod.snd (Prod.snd (Prod.snd (f (i1 - (0 : Nat))))))) = Prod.fst (Prod.snd (Prod.snd (Prod.snd (f i1)))) ∧ (if i1 < (0 : Nat) then Bool.false else Prod.fst (Prod.snd (Prod.snd (Prod.snd (Prod.snd (f (i1 - (0 : Nat)))))))) = Prod.fst (Prod.snd (Prod.snd (Prod.snd (Prod.snd (f i1)))))) ∧ Nat.le n (Prod.snd (Prod.snd x2)))) (by kernel_rfl) ?_
  simp
  have hz : z = true → n = 0 := fun h => ((hw _ (List.mem_singleton.2 rfl)).1 h).1
  obtain ⟨p1, _⟩ := hp
  dsimp only at p1
  refine ⟨fun h => ⟨0, 0, 0, nil_eqv h (hz h) rfl, ⟨h, hz h, rfl⟩, by have := hz h; omega⟩, fun h => ⟨by omega, by omega, fun b2 b3 b4 h1 h2 => ⟨b2, b3, b4, ⟨rfl, rfl, rfl, h⟩, ⟨rfl, rfl, h, h1, Nat.le_refl _⟩, h1⟩⟩⟩
abbrev rwInt : ArgL (RowD Int × Unit) := .cons (.row (.int .i64)) .nil
def cloneInt := ecC rwInt (fun x => [x.1.n ≤ 1000]) (fun x (y : Nat × Nat × Nat) => x.1.n ≤ y.2.2) (fun x y => clRes (.int .i64) x.1 y) (fun x y => clEnt 2 (.int .i64) x.1 y) 1
theorem cloneInt_ok : EcOk Try.prog 36 cloneInt := by
  refine ecC_run (fun _ => EQ_ok) Try.func36 rfl (by kernel_rfl) [] (fun x => []) (fun _ => Nat.le_of_ble_eq_true rfl) (fun ⟨⟨b, o, n, c, z, f⟩, ()⟩ hp hw => ?_)
  refine vc_of (q :=
      (z = Bool.true → ∃ (x1 : Nat × Nat × Nat), Eng.SVeq (Eng.SV.slice (999999 : Nat) (0 : Nat) (0 : Nat) [] (0 : Nat) (0 : Nat) (0 : Nat) (0 : Nat) Bool.true) (Eng.SV.slice (1 : Nat) (Prod.fst x1) (Prod.fst (Prod.snd x1)) [] (1 : Nat) (0 : Nat) n (Prod.snd (Prod.snd x1)) z) ∧ (z = Bool.true ∧ n = (0 : Nat) ∧ Prod.snd (Prod.snd x1) = (0 : Nat)) ∧ Nat.le n (Prod.snd (Prod.snd x1))) ∧ (z = Bool.false → ∀
      (b1 : Nat), (b1 = b1 ∧ (0 : Nat) = (0 : Nat)) ∧ (Bool.false = Bool.true → Bool.false = Bool.true) ∧ (0 : Nat) = (0 : Nat) ∧ (0 : Nat) ≤ (0 : Nat) ∧ (0 : Nat) ≤ (0 : Nat) ∧ ((0 : Nat) + n) * (8 : Nat) ≤ (140737488355328 : Nat) ∧ (0 : Nat) + n ≤ (9223372036854775807 : Nat) ∧ n ≤ n ∧ (b = b ∧ o = o) ∧ ∀ (b2 b3 b4 : Nat), (0 : Nat) + n ≤ b4 → b4 ≤ (9223372036854775807 : Nat) → (Bool.false = Bool.true →
      n = (0 : Nat) → b4 = (0 : Nat)) → ∃ (x2 : Nat × Nat × Nat), (b2 = Prod.fst x2 ∧ b3 = Prod.fst (Prod.snd x2) ∧ (0 : Nat) = (0 : Nat) ∧ (0 : Nat) + n = n ∧ b4 = Prod.snd (Prod.snd x2) ∧ (Bool.false && Decidable.decide (n = (0 : Nat))) = z) ∧ ((b2 = Prod.fst x2 ∧ b3 = Prod.fst (Prod.snd x2) ∧ (Bool.false && Decidable.decide (n = (0 : Nat))) = z ∧ n ≤ (0 : Nat) + n ∧ n ≤ Prod.snd (Prod.snd x2) ∧
      Prod.snd (Prod.snd x2) ≤ b4) ∧ ∀ (i1 : Nat), i1 < n → (if i1 < (0 : Nat) then (0 : Int) else f (i1 - (0 : Nat))) = f i1) ∧ Nat.le n (Prod.snd (Prod.snd x2)))) (by kernel_rfl) ?_
  simp
  have hz : z = true → n = 0 := fun h => ((hw _ (List.mem_singleton.2 rfl)).1 h).1
  obtain ⟨p1, _⟩ := hp
  dsimp only at p1
  refine ⟨fun h => ⟨0, 0, 0, nil_eqv h (hz h) rfl, ⟨h, hz h, rfl⟩, by have := hz h; omega⟩, fun h => ⟨by omega, by omega, fun b2 b3 b4 h1 h2 => ⟨b2, b3, b4, ⟨rfl, rfl, rfl, h⟩, ⟨rfl, rfl, h, h1, Nat.le_refl _⟩, h1⟩⟩⟩
end Heat
