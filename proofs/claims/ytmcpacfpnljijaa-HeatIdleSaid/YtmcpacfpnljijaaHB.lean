/-
  OWN WORK. Heat: the law HeatChecks: the walk.
-/
import Derived.Test.YtmcpacfpnljijaaHA
namespace Heat
open Go Go.Proofs Eng
set_option linter.unusedVariables false
set_option linter.unusedSimpArgs false
set_option maxHeartbeats 4000000
set_option maxRecDepth 100000

def EZ : Env := EY.addE 8 shown
theorem EZ_ok : EnvOk Try.prog EZ := EY_ok.addE shown_ok
def plainTy (P : Program) (t : TypeId) : Bool := match P.underlying t with
  | some (.struct _) => false
  | some (.array _ _) => false
  | _ => true
theorem notStruct {P : Program} {t : TypeId} (h : plainTy P t = true) : ∀ fs, P.underlying t ≠ some (.struct fs) := by
  intro fs hh; unfold plainTy at h; rw [hh] at h; cases h
theorem notArray {P : Program} {t : TypeId} (h : plainTy P t = true) : ∀ n e, P.underlying t ≠ some (.array n e) := by
  intro n e hh; unfold plainTy at h; rw [hh] at h; cases h
abbrev RowIn {β : Type} (nb : Nat) (R : β → Prop) (x : RowD β) : Prop := x.n ≤ x.c ∧ x.c * nb ≤ 140737488351232 ∧ ∀ i, i < x.n → R (x.f i)
abbrev NodeIn (x : Node) : Prop := inKind .i64 x.1 ∧ inKind .i64 x.2.1 ∧ True
abbrev PathIn (x : Path) : Prop := inKind .i64 x.1 ∧ inKind .i64 x.2.1 ∧ inKind .i64 x.2.2.1 ∧ True
abbrev HeaterIn (x : Heater) : Prop := inKind .i64 x.1 ∧ inKind .i64 x.2.1 ∧ inKind .i64 x.2.2.1 ∧ inKind .i64 x.2.2.2.1 ∧ True ∧ True
abbrev ThermalIn (t : Thermal) : Prop := RowIn 16 NodeIn t.1 ∧ RowIn 24 PathIn t.2.1 ∧ RowIn 40 HeaterIn t.2.2.1 ∧ RowIn 8 (inKind .i64) t.2.2.2.1 ∧ True
section
variable {H : Type} {enc : TypeId × Value → H} {W : World} {base : Nat}
theorem opNode : OpE enc Try.prog W 29 eNode NodeIn :=
  .agg (tot := 2) (by kernel_rfl) (by kernel_rfl) rfl (.cons (off := 0) (.int (t := 2) (by kernel_rfl) (by kernel_rfl)) rfl (.cons (off := 1) (.int (t := 2) (by kernel_rfl) (by kernel_rfl)) rfl .nil))
theorem opPath : OpE enc Try.prog W 44 ePath PathIn :=
  .agg (tot := 3) (by kernel_rfl) (by kernel_rfl) rfl (.cons (off := 0) (.int (t := 3) (by kernel_rfl) (by kernel_rfl)) rfl (.cons (off := 1) (.int (t := 3) (by kernel_rfl) (by kernel_rfl)) rfl (.cons (off := 2) (.int (t := 2) (by kernel_rfl) (by kernel_rfl)) rfl .nil)))
theorem opHeater : OpE enc Try.prog W 47 eHeater HeaterIn :=
  .agg (tot := 5) (by kernel_rfl) (by kernel_rfl) rfl (.cons (off := 0) (.int (t := 3) (by kernel_rfl) (by kernel_rfl)) rfl (.cons (off := 1) (.int (t := 2) (by kernel_rfl) (by kernel_rfl)) rfl (.cons (off := 2) (.int (t := 2) (by kernel_rfl) (by kernel_rfl)) rfl (.cons (off := 3) (.int (t := 2) (by kernel_rfl) (by kernel_rfl)) rfl (.cons (off := 4) (.bool (t := 4) (by kernel_rfl) (by kernel_rfl)) rfl .nil)))))
theorem opLongs : OpA enc Try.prog W base 25 [25] (.row (.int .i64)) (RowIn 8 (inKind .i64)) :=
  .row (e := 2) (by kernel_rfl) (.int (by kernel_rfl) (by kernel_rfl)) (by kernel_rfl) (by kernel_rfl)
abbrev thermalCells : List TypeId := [22] ++ ([23] ++ ([24] ++ ([25] ++ [])))
theorem opThermal : OpA enc Try.prog W base 27 thermalCells tThermal ThermalIn :=
  .agg (tot := 4) (by kernel_rfl) (by kernel_rfl) rfl (.cons (off := 0) (.row (t := 22) (e := 29) (by kernel_rfl) opNode (by kernel_rfl) (by kernel_rfl)) rfl (.cons (off := 1) (.row (t := 23) (e := 44) (by kernel_rfl) opPath (by kernel_rfl) (by kernel_rfl)) rfl (.cons (off := 2) (.row (t := 24) (e := 47) (by kernel_rfl) opHeater (by kernel_rfl) (by kernel_rfl)) rfl (.cons (off := 3) opLongs rfl (.nil (ct := []))))))
end
abbrev aChecks : ArgL (Thermal × Node × Unit) := .cons tThermal (.cons (.elt eNode) .nil)
abbrev ChecksIn (x : Thermal × Node × Unit) : Prop := ThermalIn x.1 ∧ NodeIn x.2.1 ∧ True
theorem checks_walk : ∀ (x : Thermal × Node × Unit) (hR : ChecksIn x) (hw : ∀ v ∈ aChecks.svs 0 x, v.wf), exCode EZ Try.f3.ntmps [.draw 5 (.take 0 (.take 1 (.take 2 (.take 3 (.take 4 (.take 5 (.take 6 (.take 7 (.take 8 (.take 9 (.take 10 (.take 11 (.take 12 (.take 13 (.take 14 (.take 15 (.take 16 (.take 17 (.take 18 (.take 19 .fin)))))))))))))))))))) []] (match Try.f3.body with | some c => c | none => .skip) (argFr 0 (aChecks.svs 0 x)) (aChecks.hp 0 x) aChecks.tags (atEnd EZ Try.f3.results.toList fun r _ _ => eqv r (.bool true)) := by
  refine fun ⟨⟨⟨nb, no, nn, nc, nz, nf⟩, ⟨pb, po, pn, pc, pz, pf⟩, ⟨hb, ho, hn, hc, hz, hf⟩, ⟨rb, ro, rn, rc, rz, rf⟩, ()⟩, ⟨h, c, ()⟩, ()⟩ hR hw => ?_
  refine vc_of (q :=
      ∀ (b1 b2 : Nat) (x'1 : Unit), x'1 = () → ∀ (y1 : Unit), True → ∀ (t1 : Bool), t1 = Bool.true → ((!t1) = Bool.true → Bool.false = Bool.true) ∧ ((!t1) = Bool.false → (b1 = b1 ∧ (0 : Nat) = (0 : Nat)) ∧ nn ≤ nn ∧ (∀ (k1 : Nat), k1 < nn → Bool.true = Bool.true) ∧ (nb = nb ∧ no = no) ∧ pn ≤ pn ∧ (∀ (k2 : Nat), k2 < pn → Bool.true = Bool.true) ∧ (pb = pb ∧ po = po) ∧ hn ≤ hn ∧ (∀ (k3 : Nat), k3 < hn →
      Bool.true = Bool.true) ∧ (hb = hb ∧ ho = ho) ∧ rn ≤ rn ∧ (∀ (k4 : Nat), k4 < rn → Bool.true = Bool.true) ∧ (rb = rb ∧ ro = ro) ∧ nn ≤ (281474976710656 : Nat) ∧ pn ≤ (281474976710656 : Nat) ∧ hn ≤ (281474976710656 : Nat) ∧ rn ≤ (281474976710656 : Nat) ∧ ∀ (t2 : Bool), t2 = Heat.beyondB (Eng.RowD.mk nb no nn nc nz nf, Eng.RowD.mk pb po pn pc pz pf, Eng.RowD.mk hb ho hn hc hz hf, Eng.RowD.mk rb ro rn
      rc rz rf, ()) → (t2 = Bool.true → Bool.true = Bool.true) ∧ (t2 = Bool.false → (b1 = b1 ∧ (0 : Nat) = (0 : Nat)) ∧ nn ≤ nn ∧ (∀ (k5 : Nat), k5 < nn → Bool.true = Bool.true) ∧ (nb = nb ∧ no = no) ∧ pn ≤ pn ∧ (∀ (k6 : Nat), k6 < pn → Bool.true = Bool.true) ∧ (pb = pb ∧ po = po) ∧ hn ≤ hn ∧ (∀ (k7 : Nat), k7 < hn → Bool.true = Bool.true) ∧ (hb = hb ∧ ho = ho) ∧ rn ≤ rn ∧ (∀ (k8 : Nat), k8 < rn →
      Bool.true = Bool.true) ∧ (rb = rb ∧ ro = ro) ∧ ∀ (v1 : Int), v1 = Heat.checkI (Eng.RowD.mk nb no nn nc nz nf, Eng.RowD.mk pb po pn pc pz pf, Eng.RowD.mk hb ho hn hc hz hf, Eng.RowD.mk rb ro rn rc rz rf, ()) → (b1 = b1 ∧ (0 : Nat) = (0 : Nat)) ∧ nn ≤ nn ∧ (∀ (k9 : Nat), k9 < nn → Bool.true = Bool.true) ∧ (nb = nb ∧ no = no) ∧ pn ≤ pn ∧ (∀ (k10 : Nat), k10 < pn → Bool.true = Bool.true) ∧ (pb = pb ∧
      po = po) ∧ hn ≤ hn ∧ (∀ (k11 : Nat), k11 < hn → Bool.true = Bool.true) ∧ (hb = hb ∧ ho = ho) ∧ rn ≤ rn ∧ (∀ (k12 : Nat), k12 < rn → Bool.true = Bool.true) ∧ (rb = rb ∧ ro = ro) ∧ ∀ (v2 : Int), v2 = Heat.checkI (Eng.RowD.mk nb no nn nc nz nf, Eng.RowD.mk pb po pn pc pz pf, Eng.RowD.mk hb ho hn hc hz hf, Eng.RowD.mk rb ro rn rc rz rf, ()) → ((v1 == v2) = Bool.true → b1 = b1 ∧ (0 : Nat) = (0 : Nat)) ∧
      ((v1 == v2) = Bool.true → nn ≤ nn) ∧ ((v1 == v2) = Bool.true → ∀ (k13 : Nat), k13 < nn → Bool.true = Bool.true) ∧ ((v1 == v2) = Bool.true → nb = nb ∧ no = no) ∧ ((v1 == v2) = Bool.true → pn ≤ pn) ∧ ((v1 == v2) = Bool.true → ∀ (k14 : Nat), k14 < pn → Bool.true = Bool.true) ∧ ((v1 == v2) = Bool.true → pb = pb ∧ po = po) ∧ ((v1 == v2) = Bool.true → hn ≤ hn) ∧ ((v1 == v2) = Bool.true → ∀ (k15 : Nat),
      k15 < hn → Bool.true = Bool.true) ∧ ((v1 == v2) = Bool.true → hb = hb ∧ ho = ho) ∧ ((v1 == v2) = Bool.true → rn ≤ rn) ∧ ((v1 == v2) = Bool.true → ∀ (k16 : Nat), k16 < rn → Bool.true = Bool.true) ∧ ((v1 == v2) = Bool.true → rb = rb ∧ ro = ro) ∧ ∀ (v3 : Int), v3 = Heat.totalF (Eng.RowD.mk nb no nn nc nz nf, Eng.RowD.mk pb po pn pc pz pf, Eng.RowD.mk hb ho hn hc hz hf, Eng.RowD.mk rb ro rn rc rz rf,
      ()) → ((v1 == v2) = Bool.true → b1 = b1 ∧ (0 : Nat) = (0 : Nat)) ∧ ((v1 == v2) = Bool.true → nn ≤ nn) ∧ ((v1 == v2) = Bool.true → ∀ (k17 : Nat), k17 < nn → Bool.true = Bool.true) ∧ ((v1 == v2) = Bool.true → nb = nb ∧ no = no) ∧ ((v1 == v2) = Bool.true → pn ≤ pn) ∧ ((v1 == v2) = Bool.true → ∀ (k18 : Nat), k18 < pn → Bool.true = Bool.true) ∧ ((v1 == v2) = Bool.true → pb = pb ∧ po = po) ∧ ((v1 == v2)
      = Bool.true → hn ≤ hn) ∧ ((v1 == v2) = Bool.true → ∀ (k19 : Nat), k19 < hn → Bool.true = Bool.true) ∧ ((v1 == v2) = Bool.true → hb = hb ∧ ho = ho) ∧ ((v1 == v2) = Bool.true → rn ≤ rn) ∧ ((v1 == v2) = Bool.true → ∀ (k20 : Nat), k20 < rn → Bool.true = Bool.true) ∧ ((v1 == v2) = Bool.true → rb = rb ∧ ro = ro) ∧ ∀ (v4 : Int), v4 = Heat.totalF (Eng.RowD.mk nb no nn nc nz nf, Eng.RowD.mk pb po pn pc pz
      pf, Eng.RowD.mk hb ho hn hc hz hf, Eng.RowD.mk rb ro rn rc rz rf, ()) → ∀ (t3 : Bool), (t3 = if (v1 == v2) = Bool.true then v3 == v4 else Bool.false) → (t3 = Bool.true → b2 = b2 ∧ (0 : Nat) = (0 : Nat)) ∧ ∀ (v5 : Int), v5 = Heat.tempF h c → (t3 = Bool.true → b2 = b2 ∧ (0 : Nat) = (0 : Nat)) ∧ ∀ (v6 : Int), v6 = Heat.tempF h c → ∀ (t4 : Bool), (t4 = if t3 = Bool.true then v5 == v6 else Bool.false) →
      t4 = Bool.true))) (by kernel_rfl) ?_
  simp [allGet]
  obtain ⟨⟨⟨a1, a2, _⟩, ⟨b1, b2, _⟩, ⟨c1, c2, _⟩, ⟨d1, d2, _⟩, _⟩, _⟩ := hR
  dsimp only at a1 a2 b1 b2 c1 c2 d1 d2
  refine ⟨by omega, by omega, by omega, by omega⟩
theorem checksTop {H : Type} {enc : TypeId × Value → H} (W : World) (base : Nat) : OpTop enc Try.prog W base Try.f3.params.toList aChecks ChecksIn :=
  .cons opThermal (.inl ⟨by kernel_rfl, by kernel_rfl, fun _ _ => rfl⟩) (.cons (.elt (ct := [2] ++ [2]) opNode (by kernel_rfl)) (.inl ⟨by kernel_rfl, by kernel_rfl, fun _ _ => rfl⟩) .nil)
end Heat
