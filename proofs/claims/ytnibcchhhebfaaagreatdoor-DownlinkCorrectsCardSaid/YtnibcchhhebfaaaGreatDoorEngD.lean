/-
  OWN WORK. THE ENGINE, part D: the pure operations are sound.
-/
import Derived.Test.YtnibcchhhebfaaaGreatDoorEngC
import Derived.Deep.MidRow
namespace Eng
open Go
set_option linter.unusedVariables false
set_option linter.unusedSimpArgs false

def KOk (P : Program) (d : TypeDesc) : TK → Prop
  | .int k => d = .int k
  | .bool => d = .bool
  | .str => d = .string
  | .ptr e => d = .pointer e
  | .slice e => d = .slice e
  | .struct fs => ∃ fields, d = .struct fields ∧ fields.size = fs.length ∧ ∀ k o ft, nth fs k = some (o, ft) → ∃ f fi, fields[k]? = some f ∧ f.offset = o ∧ f.type = ft ∧ P.info? ft = some fi ∧ fi.size ≠ 0
  | .arr n e => d = .array n e
  | .map k e => d = .map k e
  | .fn => ∃ x y z, d = .func x y z
  | .iface => ∃ ms, d = .interface ms
  | .other => (match d with | .struct _ => false | .array _ _ => false | _ => true) = true
structure TOk (P : Program) (t : TypeId) (ti : TI) (i : TypeInfo) (d : TypeDesc) : Prop where
  info : P.info? t = some i
  under : P.underlying t = some d
  size : i.size = ti.size
  bytes : i.bytes = ti.bytes
  zero : i.zero = some ti.zero.den
  zwf : ti.zero.wf
  znt : ti.zero.nt = true
  zsz : ti.zero.sz = ti.size
  kind : KOk P d ti.kind
/-- A function of Go's own text. -/
def GoFn (P : Program) (f : FuncId) : Prop := ∀ (args : Array Value) (w : World), (callFunc f args).run P w = .ok (.enter f args) w
/-- A pure contract holds. -/
def PcOk (P : Program) (f : FuncId) (c : List SV → Hp → Option (List Ob × SV)) : Prop :=
  ∀ args H ps v, c args H = some (ps, v) → (∀ x ∈ args, x.wf) → allTrue ps → (∃ C w, Sat C H w) → v.wf ∧ GoFn P f ∧ ∀ C w, Sat C H w → Calls P f (SV.denL args).toArray w fun e w' => e = .returned v.den ∧ Sat C H w'
/-- A contract as a transformer holds. -/
def EcOk (P : Program) (f : FuncId) (c : List SV → Hp → Nat → (SV → Hp → Nat → Prop) → Prop) : Prop :=
  ∀ args H nx K, c args H nx K → (∀ x ∈ args, x.wf) → GoFn P f ∧ ∀ C w, Sat C H w → Calls P f (SV.denL args).toArray w fun e w' => ∃ r H' nx', K r H' nx' ∧ r.wf ∧ e = .returned r.den ∧ Sat C H' w'
/-- A contract of a function that may panic holds. -/
def XcOk (P : Program) (f : FuncId) (c : List SV → Hp → Nat → (SV → Hp → Nat → Prop) → (SV → Hp → Nat → Prop) → Prop) : Prop :=
  ∀ args H nx Kp K, c args H nx Kp K → (∀ x ∈ args, x.wf) → GoFn P f ∧ ∀ C w, Sat C H w → Calls P f (SV.denL args).toArray w fun e w' =>
    (∃ r H' nx', K r H' nx' ∧ r.wf ∧ e = .returned r.den ∧ Sat C H' w') ∨ (∃ v H' nx', Kp v H' nx' ∧ e = .panicked [{ v := v.den, recovered := false }] ∧ Sat C H' w')
def EqOk (P : Program) (t : TypeId) (c : SV → SV → Option Bool) : Prop :=
  ∀ x y b, c x y = some b → x.wf → y.wf → ∀ w u v, (do eqGuard .eql t u v x.den y.den; binOp .eql t x.den y.den : Sem Value).run P w = .ok (.bool b) w ∧ (do eqGuard .neq t u v x.den y.den; binOp .neq t x.den y.den : Sem Value).run P w = .ok (.bool (!b)) w
structure EnvOk (P : Program) (E : Env) : Prop where
  mixed : P.follows .mixedOrders = true
  ty : ∀ t ti, E.ty t = some ti → ∃ i d, TOk P t ti i d
  pc : ∀ f, PcOk P f (E.pc f)
  ec : ∀ f, EcOk P f (E.ec f)
  eqc : ∀ t, EqOk P t (E.eqc t)
  xc : ∀ f, E.isX f = true → XcOk P f (E.xc f)

section
variable {P : Program} {E : Env} {N : Nat} {fr : Fr} {a : Act} {G : Gd} {H : Hp} {C : Ctx} {w : World} {o : Oper}

theorem TOk.isAgg_run {t : TypeId} {ti : TI} {i : TypeInfo} {d : TypeDesc} (h : TOk P t ti i d) (w : World) : (isAgg t).run P w = .ok ti.agg w := by
  have hk := h.kind
  obtain ⟨sz, by_, k, z⟩ := ti
  unfold Go.isAgg
  rw [Sem.run_bind, run_underlying h.under w]
  cases k <;> simp only [KOk] at hk
  case struct fs => obtain ⟨f, rfl, _, _⟩ := hk; simp [TI.agg]
  case fn => obtain ⟨x, y, z, rfl⟩ := hk; simp [TI.agg]
  case iface => obtain ⟨x, rfl⟩ := hk; simp [TI.agg]
  case other => cases d <;> simp_all [TI.agg]
  all_goals (subst hk; simp [TI.agg])
theorem TOk.sizeOf_run {t : TypeId} {ti : TI} {i : TypeInfo} {d : TypeDesc} (h : TOk P t ti i d) (w : World) : (Go.sizeOf t).run P w = .ok ti.size w := by
  simp [Go.sizeOf, typeInfo, h.info, h.size]
theorem quiet_of_run {v : SV} {Cl : World → Prop} (h : (execOp a.eval o).run P w = .ok (.value v.den) w) : o.quietAt P a Cl w v.den := by
  unfold Oper.quietAt
  rw [h]
  exact ⟨rfl, rfl⟩

theorem add_none (b x k : Nat) : (⟨b, x, none⟩ : Addr).add k = ⟨b, x + k, none⟩ := Addr.add_mid b x k
theorem pathOff_append (p q : List PS) : pathOff (p ++ q) = pathOff p + pathOff q := by
  induction p with
  | nil => simp [pathOff]
  | cons s r ih => simp [pathOff, ih, Nat.add_assoc]

theorem ps_move (hA : Has N fr a) (hO : GOk a G) (hG : gHolds G) {x : Operand} {v : SV} (ho : o.op = .move x ∨ o.op = .assign x) (h : ev fr G x = some v) :
    v.wf ∧ (execOp a.eval o).run P w = .ok (.value v.den) w := by
  obtain ⟨h1, h2⟩ := ev_sound hA hO hG h
  refine ⟨h2, ?_⟩
  rcases ho with ho | ho <;> simp [execOp, ho, h1]

theorem den_single {v : SV} (h : v.wf) (ha : v.isAgg = false) : v.flat = [v.den] := by
  cases v <;> simp_all [SV.isAgg, SV.flat, SV.den]
theorem den_agg {v : SV} (h : v.wf) (ha : v.isAgg = true) : v.den = .agg v.flat.toArray := by
  cases v <;> simp_all [SV.isAgg, SV.flat, SV.den]
theorem sz_single {v : SV} (ha : v.isAgg = false) : v.sz = 1 := by
  cases v <;> simp_all [SV.isAgg, SV.sz]

/-- A variable's load. -/
theorem loadVar_run {t : TypeId} {ti : TI} {i : TypeInfo} {d : TypeDesc} (ht : TOk P t ti i d) {v : SV} {b x : Nat} (hw : v.wf) (hh : Holds w b x v) (hs : v.sz = ti.size) (ha : v.isAgg = ti.agg) :
    (loadVar t ⟨b, x, none⟩).run P w = .ok v.den w := by
  unfold loadVar
  rw [Sem.run_bind, ht.isAgg_run w]
  simp only [Result.andThen_ok]
  cases hb : ti.agg with
  | true =>
    have hl : (loadCells ⟨b, x, none⟩ v.flat.length).run P w = .ok v.flat.toArray w :=
      run_loadCells_list (P := P) w ⟨b, x, none⟩ v.flat (fun j u hu => by
        rw [add_none]
        have hj : j < v.sz := by rw [← len_flat v hw]; exact (List.getElem?_eq_some_iff.1 hu).1
        rw [hh j hj, hu])
    rw [len_flat v hw, hs] at hl
    simp [Sem.run_bind, ht.sizeOf_run w, hl, den_agg hw (by rw [ha, hb])]
  | false =>
    have h1 := den_single hw (by rw [ha, hb])
    have h2 := hh 0 (by rw [sz_single (by rw [ha, hb])]; exact Nat.one_pos)
    rw [h1] at h2
    simp at h2
    simp [run_load, h2]
theorem Holds.sub {v u : SV} {b x k : Nat} (hh : Holds w b x v) (h1 : k + u.sz ≤ v.sz) (h2 : ∀ j, j < u.sz → u.flat[j]? = v.flat[k + j]?) : Holds w b (x + k) u := fun j hj => by
  rw [h2 j hj, Nat.add_assoc]
  exact hh (k + j) (by omega)

theorem idx_sound {e : Ent} {i : Nat} {r : List Ob} (h : allTrue (idxOb e i :: r)) : i < e.n ∧ allTrue r := by
  unfold idxOb at h
  split at h
  · exact ⟨by simpa using h.1, h.2⟩
  · exact h
theorem loc_sound {e : Ent} {b off i wd : Nat} {r : List Ob} (h : allTrue (locOb e b off i wd (idxOb e i :: r))) (hO : EntOk C w e) :
    (e.get i).wfF ∧ Holds w b (off + i * wd) (e.get i) ∧ allTrue r := by
  unfold locOb at h
  split at h
  · rename_i hf
    obtain ⟨h1, h2, h3⟩ := h
    obtain ⟨h3, h4⟩ := idx_sound h3
    have h2 := beqN h2
    obtain ⟨r1, _, r2⟩ := hO.row i h3
    rw [hf] at r2
    exact ⟨r1, by rw [← h1.1, ← h1.2, ← h2]; exact r2.2, h4⟩
  · rename_i f hf
    obtain ⟨h1, h2, h3⟩ := h
    obtain ⟨h3, h4⟩ := idx_sound h3
    have h2 := beqN h2
    obtain ⟨r1, _, r2⟩ := hO.row i h3
    rw [hf] at r2
    have h1 : f i = (b, off) := h1
    dsimp only at r2
    rw [h1] at r2
    exact ⟨r1, by rw [h2, Nat.mul_zero, Nat.add_zero]; exact r2, h4⟩
theorem ps_load (hE : EnvOk P E) (hA : Has N fr a) (hO : GOk a G) (hG : gHolds G) {t : TypeId} {x : Operand} {v : SV} {ps : List Ob} (ho : o.op = .load t x) (h : pstep E fr H G (.load t x) = some (ps, v)) (hp : allTrue ps) (hS : Sat C H w) :
    v.wf ∧ (execOp a.eval o).run P w = .ok (.value v.den) w := by
  simp only [pstep] at h
  split at h
  · rename_i g b off i wd r hx
    split at h
    · rename_i e he
      split at h
      · rename_i ti hti
        split at h
        · rename_i qs u hn
          simp only [Option.some.injEq, Prod.mk.injEq] at h
          obtain ⟨rfl, rfl⟩ := h
          obtain ⟨i0, d, ht⟩ := hE.ty t ti hti
          obtain ⟨hx1, hx2⟩ := ev_sound hA hO hG hx
          obtain ⟨hm, _⟩ := find_mem H g e he
          obtain ⟨r1', r3, p5, p6, p7⟩ := loc_sound hp (hS.ents e hm)
          have r1 := wfF_wf r1' (nav_isM (by assumption))
          have p5 := beqN p5
          have p6 := beqB_true p6
          obtain ⟨n1, n2, n3⟩ := nav_sound r _ _ qs hn p7 r1
          have hh := r3.sub n2 n3
          refine ⟨n1, ?_⟩
          have := loadVar_run ht n1 hh p5 p6
          rw [Nat.add_assoc] at this
          simp [execOp, ho, hx1, SV.den, Instr.loadAt, Instr.sureAddr, pathOff, PS.off, this]
        · cases h
      · cases h
    · cases h
  · cases h

theorem ps_fieldAddr (hE : EnvOk P E) (hA : Has N fr a) (hO : GOk a G) (hG : gHolds G) {t : TypeId} {x : Operand} {f : Nat} {v : SV} {ps : List Ob} (ho : o.op = .fieldAddr t x f) (h : pstep E fr H G (.fieldAddr t x f) = some (ps, v)) (hp : allTrue ps) :
    v.wf ∧ (execOp a.eval o).run P w = .ok (.value v.den) w := by
  simp only [pstep] at h
  split at h
  · rename_i g b off p hx
    split at h
    · rename_i s1 s2 fs z hti
      split at h
      · rename_i of ft hf
        simp only [Option.some.injEq, Prod.mk.injEq] at h
        obtain ⟨rfl, rfl⟩ := h
        obtain ⟨i0, d, ht⟩ := hE.ty t _ hti
        obtain ⟨fields, rfl, _, hfl⟩ := ht.kind
        obtain ⟨ff, fi, f1, f2, f3, f4, f5⟩ := hfl f of ft hf
        obtain ⟨hx1, hx2⟩ := ev_sound hA hO hG hx
        refine ⟨trivial, ?_⟩
        simp [execOp, ho, hx1, SV.den, Instr.fieldAt, Instr.sureAddr, run_underlying ht.under, f1, fieldPlace, Go.sizeOf, typeInfo, f3, f4, f5, addFld, pathOff_append, pathOff, PS.off, f2, add_none, Nat.add_assoc]
      · cases h
    · cases h
  · cases h

theorem part_run {t : TypeId} {ti : TI} {i : TypeInfo} {d : TypeDesc} (ht : TOk P t ti i d) {cs : List Value} {v : SV} {k : Nat} (hw : v.wf) (hs : v.sz = ti.size) (ha : v.isAgg = ti.agg) (hk : k + v.sz ≤ cs.length) (hc : ∀ j, j < v.sz → cs[k + j]? = v.flat[j]?) :
    (part t cs.toArray k).run P w = .ok v.den w := by
  unfold part
  rw [Sem.run_bind, ht.isAgg_run w]
  simp only [Result.andThen_ok]
  cases hb : ti.agg with
  | true =>
    have e : cs.toArray.extract k (k + ti.size) = v.flat.toArray := by
      apply Array.ext'
      simp only [List.extract_toArray, List.extract_eq_take_drop]
      rw [← hs, show k + v.sz - k = v.sz from by omega]
      apply List.ext_getElem?
      intro j
      rw [List.getElem?_take]
      by_cases hj : j < v.sz
      · rw [if_pos hj, List.getElem?_drop, hc j hj]
      · rw [if_neg hj, List.getElem?_eq_none (by rw [len_flat v hw]; omega)]
    simp only [if_true, Sem.run_bind, ht.sizeOf_run w, Result.andThen_ok, e, Sem.run_pure]
    rw [den_agg hw (by rw [ha, hb])]
  | false =>
    have h1 := den_single hw (by rw [ha, hb])
    have h2 := hc 0 (by rw [sz_single (by rw [ha, hb])]; exact Nat.one_pos)
    rw [h1] at h2
    simp at h2
    simp [h2]

theorem ps_field (hE : EnvOk P E) (hA : Has N fr a) (hO : GOk a G) (hG : gHolds G) {t : TypeId} {x : Operand} {f : Nat} {v : SV} {ps : List Ob} (ho : o.op = .field t x f) (h : pstep E fr H G (.field t x f) = some (ps, v)) (hp : allTrue ps) :
    v.wf ∧ (execOp a.eval o).run P w = .ok (.value v.den) w := by
  simp only [pstep] at h
  split at h
  · rename_i l hx
    split at h
    · rename_i s1 s2 fs z hti
      split at h
      · rename_i of ft hf
        split at h
        · rename_i u hu
          split at h
          · rename_i fi hfi
            simp only [Option.some.injEq, Prod.mk.injEq] at h
            obtain ⟨rfl, rfl⟩ := h
            obtain ⟨p1, p2, p3, _⟩ := hp
            have p1 := beqN p1
            have p2 := beqN p2
            have p3 := beqB_true p3
            obtain ⟨i0, d, ht⟩ := hE.ty t _ hti
            obtain ⟨j0, d', ht'⟩ := hE.ty ft _ hfi
            obtain ⟨fields, rfl, _, hfl⟩ := ht.kind
            obtain ⟨ff, fi', f1, f2, f3, f4, f5⟩ := hfl f of ft hf
            obtain ⟨hx1, hx2⟩ := ev_sound hA hO hG hx
            rw [nth_eq] at hu
            have uw : u.wf := ((wfA_iff l).1 hx2 u (List.mem_of_getElem? hu)).1
            obtain ⟨q1, q2⟩ := part_of l f u hx2 hu
            refine ⟨uw, ?_⟩
            have := part_run (P := P) (w := w) ht' (cs := SV.flatL l) (k := szTo l f) uw p2 p3 (by rw [len_flatL l hx2]; exact q1) q2
            rw [← p1] at this
            simp [execOp, ho, hx1, SV.den, Instr.field, run_underlying ht.under, f1, f2, f3, asAgg, this]
          · cases h
        · cases h
      · cases h
    · cases h
  · cases h
end
end Eng
