/-
  OWN WORK. THE ENGINE, part K: contracts: how they are written, how they are added.
-/
import Derived.Test.YtoefjmachoakpaaGreatDoorEngJ
import Derived.Laws.StructEq
namespace Eng
open Go
set_option linter.unusedVariables false
set_option linter.unusedSimpArgs false

theorem kok_struct (P : Program) (fields : Array Field) (fs : List (Nat × TypeId)) {d : TypeDesc} (hd : d = .struct fields) (h1 : (fields.toList.map fun f => (f.offset, f.type)) = fs) (h2 : (fs.all fun p => match P.info? p.2 with | some fi => fi.size != 0 | none => false) = true) : KOk P d (.struct fs) := by
  subst hd
  refine ⟨fields, rfl, by rw [← h1]; simp, fun k o ft hk => ?_⟩
  rw [nth_eq, ← h1, List.getElem?_map] at hk
  cases hf : fields.toList[k]? with
  | none => simp [hf] at hk
  | some f =>
    simp [hf] at hk
    have hm : (o, ft) ∈ fs := by
      rw [← h1]
      exact List.mem_map.2 ⟨f, List.mem_of_getElem? hf, by rw [← hk.1, ← hk.2]⟩
    have := List.all_eq_true.1 h2 _ hm
    dsimp only at this
    cases hi : P.info? ft with
    | none => simp [hi] at this
    | some fi => exact ⟨f, fi, by rw [← Array.getElem?_toList]; exact hf, hk.1, hk.2, rfl, by simpa [hi] using this⟩

theorem goFn_of {P : Program} {f : FuncId} {fn : Func} (h : P.funcs[f]? = some fn) (hb : fn.body.isNone = false) (hn : (fn.name == "runtime.NumGoroutine") = false) : GoFn P f := by
  intro args w
  have hn' : fn.name ≠ "runtime.NumGoroutine" := by simpa using hn
  have hb' : fn.body ≠ none := by
    intro q
    rw [q] at hb
    cases hb
  simp [callFunc, h, hb', hn']

def Env.addP (E : Env) (f : FuncId) (c : List SV → Hp → Option (List Ob × SV)) : Env := { E with pc := fun g => match Nat.beq g f with | true => c | false => E.pc g }
def Env.addE (E : Env) (f : FuncId) (c : List SV → Hp → Nat → (SV → Hp → Nat → Prop) → Prop) : Env := { E with ec := fun g => match Nat.beq g f with | true => c | false => E.ec g }
def Env.addQ (E : Env) (t : TypeId) (c : SV → SV → Option Bool) : Env := { E with eqc := fun g => match Nat.beq g t with | true => c | false => E.eqc g }
section
variable {P : Program} {E : Env}
theorem EnvOk.addP (h : EnvOk P E) {f : FuncId} {c : List SV → Hp → Option (List Ob × SV)} (hc : PcOk P f c) : EnvOk P (E.addP f c) := by
  refine ⟨h.mixed, h.ty, fun g => ?_, h.ec, h.eqc, h.xc⟩
  simp only [Env.addP]
  split
  · rename_i hb
    have : g = f := by simpa using hb
    rw [this]; exact hc
  · exact h.pc g
theorem EnvOk.addE (h : EnvOk P E) {f : FuncId} {c : List SV → Hp → Nat → (SV → Hp → Nat → Prop) → Prop} (hc : EcOk P f c) : EnvOk P (E.addE f c) := by
  refine ⟨h.mixed, h.ty, h.pc, fun g => ?_, h.eqc, h.xc⟩
  simp only [Env.addE]
  split
  · rename_i hb
    have : g = f := by simpa using hb
    rw [this]; exact hc
  · exact h.ec g
theorem EnvOk.addQ (h : EnvOk P E) {t : TypeId} {c : SV → SV → Option Bool} (hc : EqOk P t c) : EnvOk P (E.addQ t c) := by
  refine ⟨h.mixed, h.ty, h.pc, h.ec, fun g => ?_, h.xc⟩
  simp only [Env.addQ]
  split
  · rename_i hb
    have : g = t := by simpa using hb
    rw [this]; exact hc
  · exact h.eqc g
def Env.addX (E : Env) (f : FuncId) (c : List SV → Hp → Nat → (SV → Hp → Nat → Prop) → (SV → Hp → Nat → Prop) → Prop) : Env := { E with isX := fun g => match Nat.beq g f with | true => true | false => E.isX g, xc := fun g => match Nat.beq g f with | true => c | false => E.xc g }
theorem EnvOk.addX (h : EnvOk P E) {f : FuncId} {c : List SV → Hp → Nat → (SV → Hp → Nat → Prop) → (SV → Hp → Nat → Prop) → Prop} (hc : XcOk P f c) : EnvOk P (E.addX f c) := by
  refine ⟨h.mixed, h.ty, h.pc, h.ec, h.eqc, fun g hg => ?_⟩
  have hg : (match Nat.beq g f with | true => true | false => E.isX g) = true := hg
  show XcOk P g (match Nat.beq g f with | true => c | false => E.xc g)
  cases hb : Nat.beq g f with
  | true =>
    have : g = f := by simpa using hb
    rw [this]; exact hc
  | false =>
    rw [hb] at hg
    exact h.xc g hg
def Env.base (ty : TypeId → Option TI) : Env := ⟨ty, fun _ _ _ => none, fun _ _ _ _ _ => False, fun _ _ _ => none, fun _ => false, fun _ => false, fun _ _ _ _ _ _ => False⟩
/-- Variables of that array type are held as rows. -/
def Env.addR (E : Env) (t : TypeId) : Env := { E with rows := fun g => match Nat.beq g t with | true => true | false => E.rows g }
theorem EnvOk.addR (h : EnvOk P E) {t : TypeId} : EnvOk P (E.addR t) := ⟨h.mixed, h.ty, h.pc, h.ec, h.eqc, h.xc⟩
theorem EnvOk.base {ty : TypeId → Option TI} (hm : P.follows .mixedOrders = true) (ht : ∀ t ti, ty t = some ti → ∃ i d, TOk P t ti i d) : EnvOk P (Env.base ty) :=
  ⟨hm, ht, (fun f args H ps v h => by cases h), (fun f args H nx K h => h.elim), (fun t x y b h => by cases h), (fun f h => by cases h)⟩
end

/-! ### equality -/
end Eng
