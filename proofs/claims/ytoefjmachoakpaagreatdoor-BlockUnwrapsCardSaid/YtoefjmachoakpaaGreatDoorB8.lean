/-
  OWN WORK. Block: solution: solve's panic recovered.
-/
import Derived.Test.YtoefjmachoakpaaGreatDoorEngQ
import Derived.Test.YtoefjmachoakpaaGreatDoorB7
namespace Galois
open Go Go.Proofs Eng
set_option linter.unusedVariables false
set_option linter.unusedSimpArgs false
set_option maxHeartbeats 4000000
set_option maxRecDepth 100000

/-- An interface value against nil. -/
def eqIf : SV → SV → Option Bool
  | .iface _ _, .val .nilIface => some false
  | .val .nilIface, .val .nilIface => some true
  | _, _ => none
theorem equalIn_in {P : Program} {w : World} {t : TypeId} (ht : P.underlying t = some (.interface #[])) (d : Nat) (k : TypeId) (z : Value) : (Op.equalIn (d + 1) t (.iface k z) .nilIface).run P w = .ok false w := by
  simp [Op.equalIn, run_underlying ht]
theorem equalIn_nn {P : Program} {w : World} {t : TypeId} (ht : P.underlying t = some (.interface #[])) (d : Nat) : (Op.equalIn (d + 1) t .nilIface .nilIface).run P w = .ok true w := by
  simp [Op.equalIn, run_underlying ht]
theorem guardIn_nn {P : Program} {w : World} {t : TypeId} (ht : P.underlying t = some (.interface #[])) (d : Nat) : (Op.eqGuardIn (d + 1) t .nilIface .nilIface).run P w = .ok false w := by
  simp [Op.eqGuardIn, run_underlying ht]
theorem eqIf_ok {P : Program} {t : TypeId} (ht : P.underlying t = some (.interface #[])) : EqOk P t eqIf := by
  intro x y b h hx hy w u v
  have fin : ∀ (a c : Value), ((Op.equalIn 10000 t a c).run P w = .ok b w) → (∀ op, (eqGuard op t u v a c).run P w = .ok () w) → (binOp .eql t a c = (do pure (.bool (← Op.equal t a c)))) → (binOp .neq t a c = (do pure (.bool (!(← Op.equal t a c))))) →
      (do eqGuard .eql t u v a c; binOp .eql t a c : Sem Value).run P w = .ok (.bool b) w ∧ (do eqGuard .neq t u v a c; binOp .neq t a c : Sem Value).run P w = .ok (.bool (!b)) w := fun a c h1 h2 h3 h4 => by
    have h5 : (Op.equal t a c).run P w = .ok b w := h1
    refine ⟨?_, ?_⟩
    · rw [Sem.run_bind, h2, Result.andThen_ok, h3, Sem.run_bind, h5]
      simp
    · rw [Sem.run_bind, h2, Result.andThen_ok, h4, Sem.run_bind, h5]
      simp
  unfold eqIf at h
  split at h
  · rename_i d z
    injection h with h
    subst h
    refine fin _ _ (equalIn_in ht 9999 d z.den) (fun op => ?_) rfl rfl
    cases op <;> rfl
  · injection h with h
    subst h
    refine fin _ _ (equalIn_nn ht 9999) (fun op => ?_) rfl rfl
    have hin : (Op.eqGuardIn Op.maxDepth t .nilIface .nilIface).run P w = .ok false w := guardIn_nn ht 9999
    cases op <;> first
      | rfl
      | (cases u <;> cases v <;> simp [eqGuard, SV.den, hin])
  · cases h
/-! ### solve, as a contract -/
abbrev aRows8 : ArgL (OwnD (Nat → Int) × Unit) := .cons (.orow 74 (.arr 9 .u8)) .nil
/-- The bytes. -/
def matD (f : Nat → Nat → Int) : Mat := fun j c => if c < 9 then (f j c).toNat % 256 else 0
theorem matD_byte (f : Nat → Nat → Int) : byteM (matD f) := fun j c => by
  unfold matD
  split
  · exact Nat.mod_lt _ (by omega)
  · omega
def rowsPre (x : OwnD (Nat → Int) × Unit) : List Prop := [x.1.n ≤ 8, x.1.n ≤ x.1.m, x.1.m ≤ x.1.cap, x.1.z = false, x.1.ez = false, ∀ j, j < x.1.m → ∀ c, c < 9 → x.1.f j c = ((matD x.1.f j c : Nat) : Int)]
noncomputable def solveX := xcC aRows8 rowsPre (fun x (y : Nat × Nat × Nat) => goodM (matD x.1.f) x.1.n x.1.n = true ∧ x.1.n ≤ y.2.2 ∧ y.2.2 ≤ 9223372036854775807 ∧ (x.1.n = 0 → y.2.2 = 0)) (fun x y => outS x.1.n y) (fun x y => [outE x.1.n (matD x.1.f) y]) 1 (fun x => goodM (matD x.1.f) x.1.n x.1.n = false) (fun _ => .iface 105 (.agg []))
theorem solveX_ok : XcOk Tryz.prog 81 solveX := by
  refine xcC_run (fun _ => EBS_ok) Tryz.func81 rfl (by kernel_rfl) [] (fun x => solveA x.1.b x.1.off x.1.m x.1.cap x.1.n (matD x.1.f)) (fun _ => Nat.le_of_ble_eq_true rfl) (fun ⟨⟨b, off, n, c, z, m, cap, ez, f⟩, ()⟩ hp hw => ?_)
  obtain ⟨p1, p2, p3, p4, p5, p6, _⟩ := hp
  dsimp only at p1 p2 p3 p4 p5 p6
  subst p4 p5
  have hn : n ≤ c ∧ c ≤ 9223372036854775807 := (hw _ (List.mem_cons_self ..)).2
  exact solve_walk b off c m cap n f (matD f) p6 (matD_byte f) p1 p2 p3 hn.1 hn.2
/-! ### solution -/
noncomputable def EBT : Env := (EBD.addX 81 solveX).addQ 20 eqIf
theorem EBT_ok : EnvOk Tryz.prog EBT := (EBD_ok.addX solveX_ok).addQ (eqIf_ok (by kernel_rfl))
def goodD (x : OwnD (Nat → Int)) : Bool := goodM (matD x.f) x.n x.n
def solLen (x : OwnD (Nat → Int)) : Nat := if goodD x then x.n else 0
noncomputable def solution := ecC aRows8 rowsPre (fun x (y : Nat × Nat × Nat) => solLen x.1 ≤ y.2.2 ∧ y.2.2 ≤ 9223372036854775807 ∧ (solLen x.1 = 0 → y.2.2 = 0)) (fun x y => .tup [outS (solLen x.1) y, .bool (goodD x.1)]) (fun x y => [outE (solLen x.1) (matD x.1.f) y]) 1
theorem solution_ok : EcOk Tryz.prog 47 solution := by
  refine ecC_runD (f0 := 80) (fun _ => EBT_ok) Tryz.func47 rfl (by kernel_rfl) Tryz.func80 rfl (by kernel_rfl) [] (fun x => []) (fun x => []) (fun _ => Nat.le_of_ble_eq_true rfl) (fun ⟨⟨b, off, n, c, z, m, cap, ez, f⟩, ()⟩ hp hw => ?_)
  refine vc_of (q :=
      ∀ (b1 b2 : Nat), (b = b ∧ off = off) ∧ (0 = 0 ∧ ∀ (k1 : Nat), k1 < m → true = true) ∧ ∀ (x'1 : Eng.OwnD (Nat → Int) × Unit), x'1 = (Eng.OwnD.mk b off n c z m cap ez f, ()) → Eng.OwnD.n (Prod.fst x'1) ≤ 8 ∧ Eng.OwnD.n (Prod.fst x'1) ≤ Eng.OwnD.m (Prod.fst x'1) ∧ Eng.OwnD.m (Prod.fst x'1) ≤ Eng.OwnD.cap (Prod.fst x'1) ∧ Eng.OwnD.z (Prod.fst x'1) = false ∧ Eng.OwnD.ez (Prod.fst x'1) = false ∧ (∀ (b3 :
      Nat), b3 < Eng.OwnD.m (Prod.fst x'1) → ∀ (b4 : Nat), b4 < 9 → Eng.OwnD.f (Prod.fst x'1) b3 b4 = (↑(matD (Eng.OwnD.f (Prod.fst x'1)) b3 b4) : Int)) ∧ (∀ (y1 : Nat × Nat × Nat), goodM (matD (Eng.OwnD.f (Prod.fst x'1))) (Eng.OwnD.n (Prod.fst x'1)) (Eng.OwnD.n (Prod.fst x'1)) = true ∧ Eng.OwnD.n (Prod.fst x'1) ≤ y1.2.2 ∧ y1.2.2 ≤ 9223372036854775807 ∧ (Eng.OwnD.n (Prod.fst x'1) = 0 → y1.2.2 = 0) → (b1
      = b1 ∧ 0 = 0) ∧ (b2 = b2 ∧ 0 = 0) ∧ (true = true → (b1 = b1 ∧ 0 = 0) ∧ (b2 = b2 ∧ 0 = 0) ∧ ∃ (x1 : Nat × Nat × Nat), ((y1.1 = x1.1 ∧ y1.2.1 = x1.2.1 ∧ 0 = 0 ∧ Eng.OwnD.n (Prod.fst x'1) = solLen (Eng.OwnD.mk b off n c z m cap ez f) ∧ y1.2.2 = x1.2.2 ∧ Nat.beq (Eng.OwnD.n (Prod.fst x'1)) 0 = Nat.beq (solLen (Eng.OwnD.mk b off n c z m cap ez f)) 0) ∧ true = goodD (Eng.OwnD.mk b off n c z m cap ez f))
      ∧ ((y1.1 = x1.1 ∧ y1.2.1 = x1.2.1 ∧ Nat.beq (Eng.OwnD.n (Prod.fst x'1)) 0 = Nat.beq (solLen (Eng.OwnD.mk b off n c z m cap ez f)) 0 ∧ solLen (Eng.OwnD.mk b off n c z m cap ez f) ≤ Eng.OwnD.n (Prod.fst x'1) ∧ solLen (Eng.OwnD.mk b off n c z m cap ez f) ≤ x1.2.2 ∧ x1.2.2 ≤ y1.2.2) ∧ ∀ (i1 : Nat), i1 < solLen (Eng.OwnD.mk b off n c z m cap ez f) → (↑(solN (matD (Eng.OwnD.f (Prod.fst x'1))) (Eng.OwnD.n
      (Prod.fst x'1)) i1) : Int) = (↑(solN (matD f) (solLen (Eng.OwnD.mk b off n c z m cap ez f)) i1) : Int)) ∧ solLen (Eng.OwnD.mk b off n c z m cap ez f) ≤ x1.2.2 ∧ x1.2.2 ≤ 9223372036854775807 ∧ (solLen (Eng.OwnD.mk b off n c z m cap ez f) = 0 → x1.2.2 = 0)) ∧ (true = false → (false = true → ∀ (b4 : Nat), (b4 = b4 ∧ 0 = 0) ∧ (b1 = b1 ∧ 0 = 0) ∧ (b2 = b2 ∧ 0 = 0) ∧ (b1 = b1 ∧ 0 = 0) ∧ (b2 = b2 ∧ 0 = 0)
      ∧ ∃ (x2 : Nat × Nat × Nat), (SVeq (SV.slice 999999 0 0 [] 0 0 0 0 true) (SV.slice 1 x2.1 x2.2.1 [] 1 0 (solLen (Eng.OwnD.mk b off n c z m cap ez f)) x2.2.2 (Nat.beq (solLen (Eng.OwnD.mk b off n c z m cap ez f)) 0)) ∧ false = goodD (Eng.OwnD.mk b off n c z m cap ez f)) ∧ (Nat.beq (solLen (Eng.OwnD.mk b off n c z m cap ez f)) 0 = true ∧ solLen (Eng.OwnD.mk b off n c z m cap ez f) = 0 ∧ x2.2.2 = 0) ∧
      solLen (Eng.OwnD.mk b off n c z m cap ez f) ≤ x2.2.2 ∧ x2.2.2 ≤ 9223372036854775807 ∧ (solLen (Eng.OwnD.mk b off n c z m cap ez f) = 0 → x2.2.2 = 0)) ∧ (false = false → False))) ∧ (goodM (matD (Eng.OwnD.f (Prod.fst x'1))) (Eng.OwnD.n (Prod.fst x'1)) (Eng.OwnD.n (Prod.fst x'1)) = false → True ∧ (false = true → (b1 = b1 ∧ 0 = 0) ∧ (b2 = b2 ∧ 0 = 0) ∧ ∃ (x1 : Nat × Nat × Nat), (SVeq (SV.slice 999999 0
      0 [] 0 0 0 0 true) (SV.slice 1 x1.1 x1.2.1 [] 1 0 (solLen (Eng.OwnD.mk b off n c z m cap ez f)) x1.2.2 (Nat.beq (solLen (Eng.OwnD.mk b off n c z m cap ez f)) 0)) ∧ false = goodD (Eng.OwnD.mk b off n c z m cap ez f)) ∧ (Nat.beq (solLen (Eng.OwnD.mk b off n c z m cap ez f)) 0 = true ∧ solLen (Eng.OwnD.mk b off n c z m cap ez f) = 0 ∧ x1.2.2 = 0) ∧ solLen (Eng.OwnD.mk b off n c z m cap ez f) ≤ x1.2.2
      ∧ x1.2.2 ≤ 9223372036854775807 ∧ (solLen (Eng.OwnD.mk b off n c z m cap ez f) = 0 → x1.2.2 = 0)) ∧ (false = false → (true = true → ∀ (b4 : Nat), (b4 = b4 ∧ 0 = 0) ∧ (b1 = b1 ∧ 0 = 0) ∧ (b2 = b2 ∧ 0 = 0) ∧ (b1 = b1 ∧ 0 = 0) ∧ (b2 = b2 ∧ 0 = 0) ∧ ∃ (x2 : Nat × Nat × Nat), (SVeq (SV.slice 999999 0 0 [] 0 0 0 0 true) (SV.slice 1 x2.1 x2.2.1 [] 1 0 (solLen (Eng.OwnD.mk b off n c z m cap ez f)) x2.2.2
      (Nat.beq (solLen (Eng.OwnD.mk b off n c z m cap ez f)) 0)) ∧ false = goodD (Eng.OwnD.mk b off n c z m cap ez f)) ∧ (Nat.beq (solLen (Eng.OwnD.mk b off n c z m cap ez f)) 0 = true ∧ solLen (Eng.OwnD.mk b off n c z m cap ez f) = 0 ∧ x2.2.2 = 0) ∧ solLen (Eng.OwnD.mk b off n c z m cap ez f) ≤ x2.2.2 ∧ x2.2.2 ≤ 9223372036854775807 ∧ (solLen (Eng.OwnD.mk b off n c z m cap ez f) = 0 → x2.2.2 = 0)) ∧
      (true = false → False)))) (by kernel_rfl) ?_
  try simp only [eq_self, true_and, and_true, Nat.le_refl, implies_true, forall_const, Bool.false_eq_true, Bool.true_eq_false, reduceCtorEq, false_imp_iff, true_imp_iff, Int.toNat_zero, Int.toNat_natCast, Nat.zero_lt_one, Int.le_refl, allGet]
  intro x' hx'
  subst hx'
  obtain ⟨p1, p2, p3, p4, p5, p6, _⟩ := hp
  refine ⟨p1, p2, p3, p4, p5, p6, fun y hy => ?_, fun hg => ?_⟩
  · obtain ⟨y1, y2, y3, y4⟩ := hy
    dsimp only at y1 y2 y4
    have hgo : goodD ⟨b, off, n, c, z, m, cap, ez, f⟩ = true := y1
    have hl : solLen ⟨b, off, n, c, z, m, cap, ez, f⟩ = n := by unfold solLen; rw [if_pos hgo]
    rw [hl, hgo]
    exact ⟨y, ⟨⟨rfl, rfl, rfl, rfl, rfl⟩, rfl⟩, ⟨⟨rfl, rfl, rfl, Nat.le_refl _, y2, Nat.le_refl _⟩, fun _ _ => rfl⟩, y2, y3, y4⟩
  · have hgo : goodD ⟨b, off, n, c, z, m, cap, ez, f⟩ = false := hg
    have hl : solLen ⟨b, off, n, c, z, m, cap, ez, f⟩ = 0 := by unfold solLen; rw [if_neg (by rw [hgo]; decide)]
    rw [hl, hgo]
    exact ⟨(0, 0, 0), ⟨nil_eqv rfl rfl rfl, rfl⟩, ⟨rfl, rfl, rfl⟩, Nat.le_refl _, by dsimp only; omega, fun _ => rfl⟩
end Galois
