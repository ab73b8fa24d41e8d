/-
  OWN WORK. THE ENGINE, part K: contracts: how they are written, how they are added.
-/
import Derived.Test.YtnibcchhhebfaaaGreatDoorEngJ
import Derived.Laws.StructEq
namespace Eng
open Go
set_option linter.unusedVariables false
set_option linter.unusedSimpArgs false

theorem kok_struct (P : Program) (fields : Array Field) (fs : List (Nat × TypeId)) {d : TypeDesc} (hd : d = .struct fields) (h1 : (fields.toList.map fun f => (f.offset, f.type)) = fs) (h2 : (fs.all fun p => match P.info? p.2 with | some fi => fi.size != 0 | none => false) = true) : KOk P d (.struct fs) := by
  subst hd
  refine ⟨fields, rfl, by rw [← h1]; simp, fun k o ft hk => ?_⟩
  rw [nth_eq, ← h1, List.getElem?_map] at hk
  cases hf : fields.toList[k]? with
  | none => simp [hf] at hk
  | some f =>
    simp [hf] at hk
    have hm : (o, ft) ∈ fs := by
      rw [← h1]
      exact List.mem_map.2 ⟨f, List.mem_of_getElem? hf, by rw [← hk.1, ← hk.2]⟩
    have := List.all_eq_true.1 h2 _ hm
    dsimp only at this
    cases hi : P.info? ft with
    | none => simp [hi] at this
    | some fi => exact ⟨f, fi, by rw [← Array.getElem?_toList]; exact hf, hk.1, hk.2, rfl, by simpa [hi] using this⟩

theorem goFn_of {P : Program} {f : FuncId} {fn : Func} (h : P.funcs[f]? = some fn) (hb : fn.body.isNone = false) (hn : (fn.name == "runtime.NumGoroutine") = false) : GoFn P f := by
  intro args w
  have hn' : fn.name ≠ "runtime.NumGoroutine" := by simpa using hn
  have hb' : fn.body ≠ none := by
    intro q
    rw [q] at hb
    cases hb
  simp [callFunc, h, hb', hn']

def Env.addP (E : Env) (f : FuncId) (c : List SV → Hp → Option (List Ob × SV)) : Env := { E with pc := fun g => match Nat.beq g f with | true => c | false => E.pc g }
def Env.addE (E : Env) (f : FuncId) (c : List SV → Hp → Nat → (SV → Hp → Nat → Prop) → Prop) : Env := { E with ec := fun g => match Nat.beq g f with | true => c | false => E.ec g }
def Env.addQ (E : Env) (t : TypeId) (c : SV → SV → Option Bool) : Env := { E with eqc := fun g => match Nat.beq g t with | true => c | false => E.eqc g }
section
variable {P : Program} {E : Env}
theorem EnvOk.addP (h : EnvOk P E) {f : FuncId} {c : List SV → Hp → Option (List Ob × SV)} (hc : PcOk P f c) : EnvOk P (E.addP f c) := by
  refine ⟨h.mixed, h.ty, fun g => ?_, h.ec, h.eqc, h.xc⟩
  simp only [Env.addP]
  split
  · rename_i hb
    have : g = f := by simpa using hb
    rw [this]; exact hc
  · exact h.pc g
theorem EnvOk.addE (h : EnvOk P E) {f : FuncId} {c : List SV → Hp → Nat → (SV → Hp → Nat → Prop) → Prop} (hc : EcOk P f c) : EnvOk P (E.addE f c) := by
  refine ⟨h.mixed, h.ty, h.pc, fun g => ?_, h.eqc, h.xc⟩
  simp only [Env.addE]
  split
  · rename_i hb
    have : g = f := by simpa using hb
    rw [this]; exact hc
  · exact h.ec g
theorem EnvOk.addQ (h : EnvOk P E) {t : TypeId} {c : SV → SV → Option Bool} (hc : EqOk P t c) : EnvOk P (E.addQ t c) := by
  refine ⟨h.mixed, h.ty, h.pc, h.ec, fun g => ?_, h.xc⟩
  simp only [Env.addQ]
  split
  · rename_i hb
    have : g = t := by simpa using hb
    rw [this]; exact hc
  · exact h.eqc g
def Env.base (ty : TypeId → Option TI) : Env := ⟨ty, fun _ _ _ => none, fun _ _ _ _ _ => False, fun _ _ _ => none, fun _ => false, fun _ => false, fun _ _ _ _ _ _ => False⟩
/-- Variables of that array type are held as rows. -/
def Env.addR (E : Env) (t : TypeId) : Env := { E with rows := fun g => match Nat.beq g t with | true => true | false => E.rows g }
theorem EnvOk.addR (h : EnvOk P E) {t : TypeId} : EnvOk P (E.addR t) := ⟨h.mixed, h.ty, h.pc, h.ec, h.eqc, h.xc⟩
theorem EnvOk.base {ty : TypeId → Option TI} (hm : P.follows .mixedOrders = true) (ht : ∀ t ti, ty t = some ti → ∃ i d, TOk P t ti i d) : EnvOk P (Env.base ty) :=
  ⟨hm, ht, (fun f args H ps v h => by cases h), (fun f args H nx K h => h.elim), (fun t x y b h => by cases h), (fun f h => by cases h)⟩
end

/-! ### equality -/
def eqInt : SV → SV → Option Bool
  | .int k x, .int k' y => match kindEq k k' with
    | true => some (x == y)
    | false => none
  | _, _ => none
def eqBool : SV → SV → Option Bool
  | .bool x, .bool y => some (x == y)
  | _, _ => none
def eqStr : SV → SV → Option Bool
  | .str x, .str y => some (x == y)
  | _, _ => none
/-- Two parts of a kind. -/
def eqK (t : TK) (x y : SV) : Option Bool := match t with
  | .int _ => eqInt x y
  | .bool => eqBool x y
  | .str => eqStr x y
  | _ => none
theorem eqInt_some {x y : SV} {b : Bool} (h : eqInt x y = some b) : ∃ k u v, x = .int k u ∧ y = .int k v ∧ b = (u == v) := by
  cases x <;> cases y <;> simp [eqInt] at h
  rename_i k u k' v
  split at h
  · rename_i hk
    injection h with h
    exact ⟨k, u, v, rfl, by rw [kindEq_true hk], h.symm⟩
  · cases h
theorem eqBool_some {x y : SV} {b : Bool} (h : eqBool x y = some b) : ∃ u v, x = .bool u ∧ y = .bool v ∧ b = (u == v) := by
  cases x <;> cases y <;> simp [eqBool] at h
  exact ⟨_, _, rfl, rfl, h.symm⟩
theorem eqStr_some {x y : SV} {b : Bool} (h : eqStr x y = some b) : ∃ u v, x = .str u ∧ y = .str v ∧ b = (u == v) := by
  cases x <;> cases y <;> simp [eqStr] at h
  exact ⟨_, _, rfl, rfl, h.symm⟩
def eqAgg : List TK → List SV → List SV → Option Bool
  | [], [], [] => some true
  | t :: ts, x :: l, y :: m => match eqK t x y with
    | some b0 => match eqAgg ts l m with
      | some b => some (b0 && b)
      | none => none
    | none => none
  | _, _, _ => none
def eqStruct (ts : List TK) : SV → SV → Option Bool
  | .agg l, .agg m => eqAgg ts l m
  | _, _ => none
def kindFits : TK → Option TypeDesc → Bool
  | .int _, some (.int _) => true
  | .bool, some .bool => true
  | .str, some .string => true
  | _, _ => false
/-- What is asked of the type. -/
def eqField (P : Program) (i : Nat) (f : Field) (t : TK) : Bool :=
  f.name != "_" && f.offset == i && kindFits t (P.underlying f.type)
def eqFieldsOk (P : Program) : Nat → List Field → List TK → Bool
  | _, [], [] => true
  | i, f :: r, t :: ts => eqField P i f t && eqFieldsOk P (i + 1) r ts
  | _, _, _ => false

theorem eqK_run {P : Program} (w : World) (d : Nat) {t : TypeId} {k : TK} {x y : SV} {b : Bool} (h : eqK k x y = some b) (ht : kindFits k (P.underlying t) = true) :
    x.flat = [x.den] ∧ y.flat = [y.den] ∧ (isAgg t).run P w = .ok false w ∧ (Op.equalIn (d + 1) t x.den y.den).run P w = .ok b w := by
  have hagg : ∀ dd, P.underlying t = some dd → (match dd with | .struct _ => false | .array _ _ => false | _ => true) = true → (isAgg t).run P w = .ok false w := by
    intro dd hu hq
    unfold isAgg
    rw [Sem.run_bind, run_underlying hu w]
    cases dd <;> simp_all
  cases k <;> simp only [eqK] at h <;> first | (cases h; done) | skip
  · obtain ⟨k1, a, c, rfl, rfl, rfl⟩ := eqInt_some h
    cases hu : P.underlying t with
    | none => simp [hu, kindFits] at ht
    | some dd =>
      cases dd <;> simp [hu, kindFits] at ht
      rename_i kk
      exact ⟨rfl, rfl, hagg _ hu rfl, run_equalIn_int (P := P) w d t k1 kk a c hu⟩
  · obtain ⟨a, c, rfl, rfl, rfl⟩ := eqBool_some h
    cases hu : P.underlying t with
    | none => simp [hu, kindFits] at ht
    | some dd =>
      cases dd <;> simp [hu, kindFits] at ht
      exact ⟨rfl, rfl, hagg _ hu rfl, run_equalIn_bool' (P := P) w d t a c hu⟩
  · obtain ⟨a, c, rfl, rfl, rfl⟩ := eqStr_some h
    cases hu : P.underlying t with
    | none => simp [hu, kindFits] at ht
    | some dd =>
      cases dd <;> simp [hu, kindFits] at ht
      refine ⟨rfl, rfl, hagg _ hu rfl, ?_⟩
      have := run_equalIn_string (P := P) w d t ⟨a.toArray⟩ ⟨c.toArray⟩ hu
      rw [ba_toList, ba_toList] at this
      exact this

theorem eqFields_run {P : Program} (w : World) (d : Nat) : ∀ (fs : List Field) (ts : List TK) (i : Nat) (l m l0 m0 : List SV) (b : Bool), eqAgg ts l m = some b → eqFieldsOk P i fs ts = true → l0.length = i → m0.length = i →
    SV.flatL l0 = l0.map SV.den → SV.flatL m0 = m0.map SV.den → (Op.eqFields (d + 1) (SV.flatL (l0 ++ l)).toArray (SV.flatL (m0 ++ m)).toArray fs).run P w = .ok b w := by
  intro fs
  induction fs with
  | nil =>
    intro ts i l m l0 m0 b h hf _ _ _ _
    cases ts with
    | nil =>
      cases l <;> cases m <;> simp [eqAgg] at h
      subst h
      simp [Op.eqFields]
    | cons t ts => simp [eqFieldsOk] at hf
  | cons f r ih =>
    intro ts i l m l0 m0 b h hf h1 h2 h3 h4
    cases ts with
    | nil => simp [eqFieldsOk] at hf
    | cons t ts =>
      cases l with
      | nil => simp [eqAgg] at h
      | cons x l =>
        cases m with
        | nil => simp [eqAgg] at h
        | cons y m =>
          simp only [eqFieldsOk, Bool.and_eq_true] at hf
          obtain ⟨hf, hr⟩ := hf
          simp only [eqField, Bool.and_eq_true, bne_iff_ne, ne_eq, beq_iff_eq] at hf
          obtain ⟨⟨f1, f2⟩, f3⟩ := hf
          simp only [eqAgg] at h
          cases hb0 : eqK t x y with
          | none => simp [hb0] at h
          | some b0 =>
            cases hb1 : eqAgg ts l m with
            | none => simp [hb0, hb1] at h
            | some b1 =>
              simp only [hb0, hb1, Option.some.injEq] at h
              subst h
              obtain ⟨x1, y1, hagg, he⟩ := eqK_run (P := P) w d hb0 f3
              have hpart : ∀ (l0 l : List SV) (v : SV), l0.length = i → SV.flatL l0 = l0.map SV.den → v.flat = [v.den] → (part f.type (SV.flatL (l0 ++ v :: l)).toArray f.offset).run P w = .ok v.den w := by
                intro l0 l v q1 q2 q3
                have : (SV.flatL (l0 ++ v :: l))[i]? = some v.den := by
                  rw [flatL_eq, List.flatMap_append, ← flatL_eq, q2]
                  rw [List.getElem?_append_right (by simp; omega)]
                  simp [q3, q1]
                simp [part, hagg, f2, this]
              have hrec := ih ts (i + 1) l m (l0 ++ [x]) (m0 ++ [y]) b1 hb1 hr (by simp [h1]) (by simp [h2]) (by rw [flatL_eq, List.flatMap_append, ← flatL_eq, h3]; simp [x1]) (by rw [flatL_eq, List.flatMap_append, ← flatL_eq, h4]; simp [y1])
              simp only [List.append_assoc, List.singleton_append] at hrec
              simp only [Op.eqFields]
              rw [if_pos f1]
              simp only [Sem.run_bind, hpart l0 l x h1 h3 x1, hpart m0 m y h2 h4 y1, Result.andThen_ok, he]
              cases b0
              · simp
              · simp [hrec]

theorem eqStruct_ok {P : Program} {t : TypeId} {ts : List TK} (ht : P.underlying t = some (.struct (P.fieldsOf t))) (hf : eqFieldsOk P 0 (P.fieldsOf t).toList ts = true) (hp : P.stoodInHeld t = false) (hg : P.eqGuardType P.depth t = false) : EqOk P t (eqStruct ts) := by
  intro x y b h hx hy w u v
  cases x <;> cases y <;> simp [eqStruct] at h
  rename_i l m
  have key := eqFields_run (P := P) w 9998 (P.fieldsOf t).toList ts 0 l m [] [] b h hf rfl rfl rfl rfl
  simp only [List.nil_append] at key
  have hrun : (Op.equalIn 10000 t (.agg (SV.flatL l).toArray) (.agg (SV.flatL m).toArray)).run P w = .ok b w := by
    rw [run_equalIn_struct w 9999 t _ _ ht hp]
    exact key
  constructor
  · rw [Sem.run_bind]
    simp only [SV.den, run_eqGuard_agg w .eql t u v _ _ hg, Result.andThen_ok, run_eql_struct, hrun]
  · rw [Sem.run_bind]
    simp only [SV.den, run_eqGuard_agg w .neq t u v _ _ hg, Result.andThen_ok, run_neq_struct, hrun]
end Eng
