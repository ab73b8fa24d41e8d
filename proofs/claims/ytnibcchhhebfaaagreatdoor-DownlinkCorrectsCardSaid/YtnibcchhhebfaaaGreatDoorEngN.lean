/-
  OWN WORK. THE ENGINE, part N: arguments are opened; a law's contract.
-/
import Derived.Test.YtnibcchhhebfaaaGreatDoorEngM
import Derived.Deep.Slices
import Derived.WideKeyArgs
import Derived.WalkKit
import Derived.ProofKit
import Derived.OpenShut
import Derived.SizedLaws
namespace Eng
open Go
set_option linter.unusedVariables false
set_option linter.unusedSimpArgs false

section
variable {P : Program} {H : Type} {enc : TypeId × Value → H} {W : World} {base : Nat}

/-- The cells fit their types. -/
def CellsOk (P : Program) (W : World) (base : Nat) (ct : List TypeId) (cs : List Value) : Prop := ∀ (i : Nat) v u, cs[i]? = some v → ct[i]? = some u → Cell.okWide P W .any base u v
/-- No part is too heavy. -/
def Light (P : Program) (t : TypeId) (d : DataW H) : Prop := ∀ n ∈ d.weights P t, n ≤ 140737488351232
/-- What is read as an element has the pattern's form. -/
structure OpE {β : Type} (enc : TypeId × Value → H) (P : Program) (W : World) (t : TypeId) (a : Elt β) (R : β → Prop) : Prop where
  op : ∀ fuel cs y, DataW.trod enc P W 0 (fun _ => true) true fuel t cs = some y → Light P t y.1 → ∃ b, (a.mkv b).flat = cs ∧ (a.mkv b).wf ∧ R b
  sz : P.cellsOf t = a.wd
abbrev inKind (k : IntKind) (x : Int) : Prop := (Lit.int k x).wf = true
theorem OpE.int {t : TypeId} {k : IntKind} (ht : P.underlying t = some (.int k)) (hs : P.cellsOf t = 1) : OpE enc P W t (.int k) (inKind k) := by
  refine ⟨fun fuel cs y h hlt => ?_, hs⟩
  obtain ⟨n, rfl, rfl, hw⟩ := DataW.trod_int ht h
  exact ⟨n, rfl, trivial, hw⟩
theorem OpE.bool {t : TypeId} (ht : P.underlying t = some .bool) (hs : P.cellsOf t = 1) : OpE enc P W t .bool (fun _ => True) := by
  refine ⟨fun fuel cs y h hlt => ?_, hs⟩
  obtain ⟨n, rfl, rfl⟩ := DataW.trod_bool ht h
  exact ⟨n, rfl, trivial, trivial⟩
theorem OpE.str {t : TypeId} (ht : P.underlying t = some .string) (hs : P.cellsOf t = 1) : OpE enc P W t .str (fun l => l.length ≤ 140737488351232) := by
  refine ⟨fun fuel cs y h hlt => ?_, hs⟩
  obtain ⟨s, rfl, rfl, hl⟩ := DataW.trod_string ht h
  have hl' : s.data.toList.length ≤ maxLen := by simpa using hl
  refine ⟨s.data.toList, by simp [Elt.str, SV.flat], ?_, hlt _ (by simp [DataW.weights])⟩
  have : maxLen ≤ 9223372036854775807 := by decide
  exact Nat.le_trans hl' this
/-- The fields' types and places. -/
def structOf (P : Program) (t : TypeId) : Option (List (TypeId × Nat)) := match P.underlying t with
  | some (.struct fs) => some (fs.toList.map fun f => (f.type, f.offset))
  | _ => none
theorem structOf_some {t : TypeId} {l : List (TypeId × Nat)} (h : structOf P t = some l) : ∃ fs, P.underlying t = some (.struct fs) ∧ l = fs.toList.map fun f => (f.type, f.offset) := by
  unfold structOf at h
  split at h
  · rename_i fs hh
    injection h with h
    exact ⟨fs, hh, h.symm⟩
  · cases h
structure OpEL {β : Type} (enc : TypeId × Value → H) (P : Program) (W : World) (tot off : Nat) (fs : List (TypeId × Nat)) (a : EltL β) (R : β → Prop) : Prop where
  op : ∀ n (cs : List Value), cs.length = tot → (∀ f ∈ fs, ∃ y, DataW.trod enc P W 0 (fun _ => true) true n f.1 ((cs.drop f.2).take (P.cellsOf f.1)) = some y ∧ Light P f.1 y.1) →
    ∃ b, SV.flatL (a.mkv b) = cs.drop off ∧ SV.wfA (a.mkv b) ∧ R b
theorem OpEL.nil {tot : Nat} : OpEL enc P W tot tot [] .nil (fun _ => True) :=
  ⟨fun n cs hl _ => ⟨(), by simp [EltL.nil, SV.flatL, ← hl], trivial, trivial⟩⟩
theorem OpEL.cons {α β : Type} {tot off off' : Nat} {t : TypeId} {fs : List (TypeId × Nat)} {a : Elt α} {r : EltL β} {R : α → Prop} {R' : β → Prop} (h : OpE enc P W t a R) (ho' : off' = off + a.wd) (hr : OpEL enc P W tot off' fs r R') :
    OpEL enc P W tot off ((t, off) :: fs) (.cons a r) (fun x => R x.1 ∧ R' x.2) := by
  refine ⟨fun n cs hl hf => ?_⟩
  obtain ⟨y, hy, hlt⟩ := hf (t, off) (List.mem_cons_self ..)
  dsimp only at hy hlt
  obtain ⟨b, b1, b2, b3⟩ := h.op _ _ _ hy hlt
  obtain ⟨c, c1, c2, c3⟩ := hr.op n cs hl (fun g hg => hf g (List.mem_cons_of_mem _ hg))
  refine ⟨(b, c), ?_, ?_, b3, c3⟩
  · show (a.mkv b).flat ++ SV.flatL (r.mkv c) = _
    rw [b1, c1, h.sz, ho', ← List.drop_drop]
    exact List.take_append_drop ..
  · exact ⟨b2, (a.wf b).1, c2⟩
theorem OpE.agg {β : Type} {t : TypeId} {tot : Nat} {l : List (TypeId × Nat)} {a : EltL β} {R : β → Prop} (ht : structOf P t = some l) (hs : P.cellsOf t = tot) (hw : a.wd = tot) (h : OpEL enc P W tot 0 l a R) : OpE enc P W t (.agg a) R := by
  refine ⟨fun fuel cs y hy hlt => ?_, hs.trans hw.symm⟩
  subst hs
  obtain ⟨fs, hu, rfl⟩ := structOf_some ht
  obtain ⟨xs, n, rfl, rfl, hl, hxs, hf⟩ := DataW.trod_struct hu hy
  obtain ⟨b, b1, b2, b3⟩ := h.op n cs hl (fun q hq => by
    obtain ⟨f, hf', rfl⟩ := List.mem_map.1 hq
    obtain ⟨i, hi, hif⟩ := List.mem_iff_getElem.1 hf'
    have hi' : i < fs.size := by simpa using hi
    have h1 : fs[i]? = some f := by rw [← hif]; simp [hi']
    have h2 := hf i f h1
    rw [List.getElem?_eq_getElem (by omega)] at h2
    refine ⟨_, h2, fun n hn => hlt n ?_⟩
    simp only [DataW.weights, hu]
    exact DataW.weights_mem_each (j := i) (t := f.type) (by simp [h1]) (by rw [List.getElem?_map, List.getElem?_eq_getElem (by omega)]; rfl) n hn)
  exact ⟨b, by simpa [Elt.agg, SV.flat] using b1, b2, b3⟩

/-- The arguments' memory, as it is at the beginning. -/
def EntIn (P : Program) (W : World) (e : Ent) : Prop := e.own = false ∧ EntOk ⟨W, fun _ => False⟩ W e
structure OpA {α : Type} (enc : TypeId × Value → H) (P : Program) (W : World) (base : Nat) (t : TypeId) (ct : List TypeId) (a : Arg α) (R : α → Prop) : Prop where
  op : ∀ fuel cs y, DataW.trod enc P W 0 (fun _ => true) true fuel t cs = some y → Light P t y.1 → CellsOk P W base ct cs →
    ∃ x, R x ∧ ∀ g, (a.sv g x).flat = cs ∧ (a.sv g x).wf ∧ (a.sv g x).nt = true ∧ ∀ e ∈ a.hp g x, EntIn P W e
  sz : P.cellsOf t = ct.length
theorem OpA.elt {β : Type} {t : TypeId} {ct : List TypeId} {a : Elt β} {R : β → Prop} (h : OpE enc P W t a R) (hs : P.cellsOf t = ct.length) : OpA enc P W base t ct (.elt a) R := by
  refine ⟨fun fuel cs y hy hlt _ => ?_, hs⟩
  obtain ⟨b, b1, b2, b3⟩ := h.op _ _ _ hy hlt
  exact ⟨b, b3, fun g => ⟨b1, b2, (a.wf b).1, fun e he => by cases he⟩⟩
theorem shape_lt {w : World} {b : Nat} {x : TypeId × Nat} (h : w.shape? b = some x) : b < w.heap.size := by
  unfold World.shape? at h
  rcases Nat.lt_or_ge b w.heap.size with hb | hb
  · exact hb
  · rw [Array.getElem?_eq_none hb] at h
    simp at h
theorem weights_all {e : TypeId} {l : List (DataW H)} {d : DataW H} (h : d ∈ l) : ∀ n ∈ d.weights P e, n ∈ DataW.weightsAll P e l := by
  induction l with
  | nil => cases h
  | cons x r ih =>
    intro n hn
    rcases List.mem_cons.1 h with rfl | h
    · exact List.mem_append_left _ hn
    · exact List.mem_append_right _ (ih h n hn)
theorem OpA.row {β : Type} {t e : TypeId} {nb : Nat} {a : Elt β} {R : β → Prop} (ht : P.underlying t = some (.slice e)) (h : OpE enc P W e a R) (hs : P.cellsOf t = 1) (hnb : P.bytesOf e = nb) :
    OpA enc P W base t [t] (.row a) (fun x => x.n ≤ x.c ∧ x.c * nb ≤ 140737488351232 ∧ ∀ i, i < x.n → R (x.f i)) := by
  refine ⟨fun fuel cs y hy hlt0 hc => ?_, hs⟩
  have hmax : maxLen ≤ 9223372036854775807 := by decide
  rcases Deep.open_slice ht hy with ⟨rfl, _⟩ | ⟨ad, len, cap, m, n, D, Pl, rfl, hb, hl, hcm, hm, rfl, hx⟩
  · refine ⟨⟨0, 0, 0, 0, true, fun _ => a.dflt⟩, ⟨Nat.le_refl _, by simp, fun i hi => absurd hi (Nat.not_lt_zero i)⟩, fun g => ⟨by simp [Arg.row, SV.flat], ⟨fun _ => ⟨rfl, rfl⟩, Nat.le_refl _, Nat.zero_le _⟩, rfl, fun e he => ?_⟩⟩
    simp only [Arg.row, List.mem_singleton] at he
    subst he
    refine ⟨rfl, ⟨fun q => (by cases q), fun _ q => (by cases q), fun _ => ⟨rfl, rfl⟩, fun q => (by cases q), fun f q => (by cases q), fun f q => (by cases q), fun i hi => absurd hi (Nat.not_lt_zero i)⟩⟩
  · have hok := hc 0 _ t rfl rfl
    simp only [Cell.okWide, ht, Cell.ok] at hok
    obtain ⟨_, _, _, hspot, row, cells, hshape, _⟩ := hok
    have hlt := shape_lt hshape
    obtain ⟨bk, of, sp⟩ := ad
    dsimp only at hspot
    subst hspot
    have hm : m = cap := hm
    have hmlen : len ≤ m := by rw [hm]; exact hl
    have hlt1 : ∀ n ∈ (len + (m - len)) * nb :: (DataW.weightsAll P e ((List.range len).map D) ++ DataW.weightsAll P e ((List.range (m - len)).map fun j => D (len + j))), n ≤ 140737488351232 := by
      have := hlt0
      simpa only [Light, DataW.weights, ht, List.length_map, List.length_range, hnb] using this
    have hcap : cap * nb ≤ 140737488351232 := by
      have := hlt1 _ (List.mem_cons_self ..)
      rwa [show len + (m - len) = cap by omega] at this
    have hD : ∀ i, i < m → Light P e (D i) := fun i hi n hn => hlt1 n (List.mem_cons_of_mem _ (by
      by_cases hil : i < len
      · exact List.mem_append_left _ (weights_all (List.mem_map.2 ⟨i, List.mem_range.2 hil, rfl⟩) n hn)
      · exact List.mem_append_right _ (weights_all (List.mem_map.2 ⟨i - len, List.mem_range.2 (by omega), by rw [show len + (i - len) = i by omega]⟩) n hn)))
    have hex : ∀ i, i < m → ∃ b : β, (a.mkv b).flat.length = a.wd ∧ (a.mkv b).wf ∧ R b ∧ ∀ k, k < a.wd → W.cell? ⟨bk, of + (i * P.cellsOf e + k), none⟩ = (a.mkv b).flat[k]? := fun i hi => by
      obtain ⟨cs', h1, h2⟩ := hx i hi
      obtain ⟨b, b1, b2, b3⟩ := h.op _ _ _ h2 (hD i hi)
      obtain ⟨_, c2, c3⟩ := World.cells?_some h1
      refine ⟨b, by rw [b1, c2, h.sz], b2, b3, fun k hk => ?_⟩
      rw [b1, ← c3 k (by rw [h.sz]; exact hk)]
      rw [add_none, add_none, Nat.add_assoc]
    let f : Nat → β := fun i => if hi : i < m then Classical.choose (hex i hi) else a.dflt
    have hf : ∀ i, i < m → (a.mkv (f i)).flat.length = a.wd ∧ (a.mkv (f i)).wf ∧ R (f i) ∧ ∀ k, k < a.wd → W.cell? ⟨bk, of + (i * P.cellsOf e + k), none⟩ = (a.mkv (f i)).flat[k]? := fun i hi => by
      have : f i = Classical.choose (hex i hi) := dif_pos hi
      rw [this]
      exact Classical.choose_spec (hex i hi)
    refine ⟨⟨bk, of, len, cap, false, f⟩, ⟨hl, hcap, fun i hi => (hf i (Nat.lt_of_lt_of_le hi hmlen)).2.2.1⟩, fun g => ⟨by simp [Arg.row, SV.flat, pathOff], ⟨fun q => (by cases q), hl, Nat.le_trans hcm hmax⟩, rfl, fun en he => ?_⟩⟩
    simp only [Arg.row, List.mem_singleton] at he
    subst he
    refine ⟨rfl, ⟨fun q => (by cases q), fun _ _ _ => ⟨hlt, fun q => q⟩, fun q => ⟨by simpa using q, rfl⟩, fun q => (by cases q), fun f q => (by cases q), fun f q => (by cases q), fun i hi => ?_⟩⟩
    obtain ⟨f1, f2, f3, f4⟩ := hf i (Nat.lt_of_lt_of_le hi hmlen)
    refine ⟨.inl f2, (a.wf _).1, (a.wf _).2, fun k hk => ?_⟩
    have := f4 k (by rw [(a.wf _).2] at hk; exact hk)
    rw [h.sz] at this
    rw [← this, Nat.add_assoc]
structure OpAL {α : Type} (enc : TypeId × Value → H) (P : Program) (W : World) (base : Nat) (tot off : Nat) (fs : List (TypeId × Nat)) (ct : List TypeId) (a : ArgL α) (R : α → Prop) : Prop where
  op : ∀ n (cs : List Value), cs.length = tot → (∀ f ∈ fs, ∃ y, DataW.trod enc P W 0 (fun _ => true) true n f.1 ((cs.drop f.2).take (P.cellsOf f.1)) = some y ∧ Light P f.1 y.1) → CellsOk P W base ct (cs.drop off) →
    ∃ x, R x ∧ ∀ g, SV.flatL (a.svs g x) = cs.drop off ∧ SV.wfA (a.svs g x) ∧ ∀ e ∈ a.hp g x, EntIn P W e
theorem OpAL.nil {tot : Nat} {ct : List TypeId} : OpAL enc P W base tot tot [] ct .nil (fun _ => True) :=
  ⟨fun n cs hl _ _ => ⟨(), trivial, fun g => ⟨by simp [ArgL.nil, SV.flatL, ← hl], trivial, fun e he => by cases he⟩⟩⟩
theorem OpAL.cons {α β : Type} {tot off off' : Nat} {t : TypeId} {fs : List (TypeId × Nat)} {ct ct' : List TypeId} {a : Arg α} {r : ArgL β} {R : α → Prop} {R' : β → Prop} (h : OpA enc P W base t ct a R) (ho' : off' = off + ct.length) (hr : OpAL enc P W base tot off' fs ct' r R') :
    OpAL enc P W base tot off ((t, off) :: fs) (ct ++ ct') (.cons a r) (fun x => R x.1 ∧ R' x.2) := by
  refine ⟨fun n cs hl hf hc => ?_⟩
  obtain ⟨y, hy, hlt⟩ := hf (t, off) (List.mem_cons_self ..)
  dsimp only at hy hlt
  rw [h.sz] at hy
  obtain ⟨b, b3, hb⟩ := h.op _ _ _ hy hlt (fun i v u hv hu => hc i v u (by
    rw [List.getElem?_take] at hv
    split at hv
    · exact hv
    · cases hv) (by
    have := (List.getElem?_eq_some_iff.1 hu).1
    rw [List.getElem?_append_left this]; exact hu))
  obtain ⟨c, c3, hcc⟩ := hr.op n cs hl (fun g hg => hf g (List.mem_cons_of_mem _ hg)) (fun i v u hv hu => hc (i + ct.length) v u (by
    rw [ho', ← List.drop_drop, List.getElem?_drop] at hv
    rw [Nat.add_comm]; exact hv) (by
    rw [List.getElem?_append_right (by omega)]
    simpa using hu))
  refine ⟨(b, c), ⟨b3, c3⟩, fun g => ?_⟩
  obtain ⟨b1, b2, bn, be⟩ := hb g
  obtain ⟨c1, c2, ce⟩ := hcc (g + a.tags)
  refine ⟨?_, ⟨b2, bn, c2⟩, fun e he => ?_⟩
  · show (a.sv g b).flat ++ SV.flatL (r.svs (g + a.tags) c) = _
    rw [b1, c1, ho', ← List.drop_drop]
    exact List.take_append_drop ..
  · rcases List.mem_append.1 he with he | he
    · exact be e he
    · exact ce e he
theorem OpA.agg {α : Type} {t : TypeId} {tot : Nat} {l : List (TypeId × Nat)} {ct : List TypeId} {a : ArgL α} {R : α → Prop} (ht : structOf P t = some l) (hs : P.cellsOf t = tot) (hw : ct.length = tot) (h : OpAL enc P W base tot 0 l ct a R) : OpA enc P W base t ct (.agg a) R := by
  refine ⟨fun fuel cs y hy hlt hc => ?_, hs.trans hw.symm⟩
  subst hs
  obtain ⟨fs, hu, rfl⟩ := structOf_some ht
  obtain ⟨xs, n, rfl, rfl, hl, hxs, hf⟩ := DataW.trod_struct hu hy
  obtain ⟨b, b3, hb⟩ := h.op n cs hl (fun q hq => by
    obtain ⟨f, hf', rfl⟩ := List.mem_map.1 hq
    obtain ⟨i, hi, hif⟩ := List.mem_iff_getElem.1 hf'
    have hi' : i < fs.size := by simpa using hi
    have h1 : fs[i]? = some f := by rw [← hif]; simp [hi']
    have h2 := hf i f h1
    rw [List.getElem?_eq_getElem (by omega)] at h2
    refine ⟨_, h2, fun n hn => hlt n ?_⟩
    simp only [DataW.weights, hu]
    exact DataW.weights_mem_each (j := i) (t := f.type) (by simp [h1]) (by rw [List.getElem?_map, List.getElem?_eq_getElem (by omega)]; rfl) n hn) (by simpa using hc)
  exact ⟨b, b3, fun g => ⟨by simpa [Arg.agg, SV.flat] using (hb g).1, (hb g).2.1, rfl, (hb g).2.2⟩⟩
/-- The arguments, one by one. -/
structure OpTop {α : Type} (enc : TypeId × Value → H) (P : Program) (W : World) (base : Nat) (ts : List TypeId) (L : ArgL α) (R : α → Prop) : Prop where
  op : ∀ vs ds ps, DataW.TrodAll enc P W 0 (fun _ => true) true ts vs ds ps → (∀ (j : Nat) t d, ts[j]? = some t → ds[j]? = some d → Light P t d) → (∀ (j : Nat) t v, ts[j]? = some t → vs[j]? = some v → Value.okWide P W .any base t v) →
    ∃ x, R x ∧ ∀ g, SV.denL (L.svs g x) = vs ∧ (∀ v ∈ L.svs g x, v.wf) ∧ ∀ e ∈ L.hp g x, EntIn P W e
theorem OpTop.nil : OpTop enc P W base [] .nil (fun _ => True) := by
  refine ⟨fun vs ds ps h _ _ => ?_⟩
  match vs, ds, h with
  | [], [], _ => exact ⟨(), trivial, fun g => ⟨rfl, fun v hv => (by cases hv), fun e he => (by cases he)⟩⟩
theorem flat_den {v : SV} (h : v.isAgg = false) : v.flat = [v.den] := by cases v <;> first | rfl | cases h
theorem flat_agg {v : SV} (h : v.isAgg = true) : v.den = .agg v.flat.toArray := by cases v <;> first | rfl | cases h
theorem OpTop.cons {α β : Type} {t : TypeId} {ts : List TypeId} {ct : List TypeId} {a : Arg α} {r : ArgL β} {R : α → Prop} {R' : β → Prop} (h : OpA enc P W base t ct a R)
    (hf : ((structOf P t).isSome = true ∧ P.cellTypes P.depth t = some ct ∧ ∀ g x, (a.sv g x).isAgg = true) ∨ ((∀ fs, P.underlying t ≠ some (.struct fs)) ∧ (∀ n e, P.underlying t ≠ some (.array n e)) ∧ ct = [t] ∧ (∀ g x, (a.sv g x).isAgg = false)))
    (hr : OpTop enc P W base ts r R') : OpTop enc P W base (t :: ts) (.cons a r) (fun x => R x.1 ∧ R' x.2) := by
  refine ⟨fun vs ds ps hT hlt hv => ?_⟩
  match vs, ds, hT with
  | v :: vs, d :: ds, hT =>
    obtain ⟨p, q, ⟨fuel, hd⟩, hT', _⟩ := hT
    obtain ⟨c, c3, hc⟩ := hr.op vs ds q hT' (fun j t' d' ht hd' => hlt (j + 1) t' d' ht hd') (fun j t' v' ht hv' => hv (j + 1) t' v' ht hv')
    have hv0 := hv 0 t v rfl rfl
    rcases hf with ⟨hso, hct, hagg⟩ | ⟨hu1, hu2, rfl, hagg⟩
    · obtain ⟨l0, hl0⟩ := Option.isSome_iff_exists.1 hso
      obtain ⟨fs, hu, _⟩ := structOf_some hl0
      simp only [Value.okWide, hu] at hv0
      obtain ⟨cs, rfl, hcs, ts', hts, _, hcell⟩ := hv0
      rw [hct] at hts
      injection hts with hts
      subst hts
      obtain ⟨b, b3, hb⟩ := h.op fuel _ _ hd (hlt 0 t d rfl rfl) (fun i v u hv hu => by
        have hi := (List.getElem?_eq_some_iff.1 hu).1
        have hv' : cs[i]? = some v := by
          have h' : cs.toList[i]? = some v := hv
          simpa using h'
        obtain ⟨u', hu', hok⟩ := hcell i v hv'
        rw [Nat.mod_eq_of_lt hi, hu] at hu'
        injection hu' with hu'
        subst hu'
        exact hok)
      refine ⟨(b, c), ⟨b3, c3⟩, fun g => ⟨?_, fun u hu => ?_, fun e he => ?_⟩⟩
      · show (a.sv g b).den :: SV.denL (r.svs (g + a.tags) c) = _
        rw [(hc _).1, flat_agg (hagg g b), (hb g).1]
        simp [Value.cells]
      · rcases List.mem_cons.1 hu with rfl | hu
        · exact (hb g).2.1
        · exact (hc _).2.1 u hu
      · rcases List.mem_append.1 he with he | he
        · exact (hb g).2.2.2 e he
        · exact (hc _).2.2 e he
    · have hcell : Cell.okWide P W .any base t v := by
        unfold Value.okWide at hv0
        split at hv0
        · rename_i fs hh; exact absurd hh (hu1 fs)
        · rename_i n e hh; exact absurd hh (hu2 n e)
        · exact hv0
      have hcells : v.cells.toList = [v] := by
        cases v with
        | agg cs =>
          exfalso
          unfold Cell.okWide at hcell
          split at hcell
          all_goals first
            | (rename_i hh; cases hh; done)
            | skip
          all_goals (unfold Cell.ok at hcell; split at hcell <;> simp_all)
        | _ => rfl
      obtain ⟨b, b3, hb⟩ := h.op fuel _ _ hd (hlt 0 t d rfl rfl) (fun i v' u hv hu => by
        have hi := (List.getElem?_eq_some_iff.1 hu).1
        simp only [List.length_singleton] at hi
        obtain rfl : i = 0 := by omega
        rw [hcells] at hv
        simp at hv hu
        subst hv hu
        exact hcell)
      refine ⟨(b, c), ⟨b3, c3⟩, fun g => ⟨?_, fun u hu => ?_, fun e he => ?_⟩⟩
      · show (a.sv g b).den :: SV.denL (r.svs (g + a.tags) c) = _
        have h1 := (hb g).1
        rw [flat_den (hagg g b), hcells] at h1
        rw [(hc _).1]
        injection h1 with h1
        rw [h1]
      · rcases List.mem_cons.1 hu with rfl | hu
        · exact (hb g).2.1
        · exact (hc _).2.1 u hu
      · rcases List.mem_append.1 he with he | he
        · exact (hb g).2.2.2 e he
        · exact (hc _).2.2 e he

/-! ### a law's contract -/
theorem Kept.keptBut {W' : World} (h : Kept ⟨W, fun _ => False⟩ W') (may : MemPlace → Prop) : W.keptBut W' may := by
  refine ⟨h.os, h.output, fun i hi => ?_⟩
  have := h.block i hi (fun q => q)
  rw [this]
  dsimp only
  cases hh : W.heap[i]? with
  | none => trivial
  | some o => cases o with
    | cells c t fr => exact ⟨rfl, rfl, rfl, fun _ _ => rfl⟩
    | map es clock => exact Or.inr ⟨rfl, rfl⟩
    | _ => first | rfl | trivial
theorem Kept.same {W' : World} (h : Kept ⟨W, fun _ => False⟩ W') {b : Nat} (hb : b < W.heap.size) : W'.heap[b]? = W.heap[b]? := h.block b hb (fun q => q)
theorem Kept.sameAt {W' : World} (h : Kept ⟨W, fun _ => False⟩ W') {p : MemPlace} (hb : p.block < W.heap.size) : W.sameAt W' p := by
  have h1 := h.same hb
  cases p with
  | cell b off =>
    have h1 : W'.heap[b]? = W.heap[b]? := h1
    simp only [World.sameAt, World.cell?, h1]
  | map b =>
    have h1 : W'.heap[b]? = W.heap[b]? := h1
    simp only [World.sameAt, h1]
theorem trodAll_stays {W' : World} (hl : laidOutB P = true) (hk : Kept ⟨W, fun _ => False⟩ W') {sp : Nat → Bool} : ∀ {ts : List TypeId} {vs : List Value} {ds : List (DataW H)} {ps : List MemPlace},
    (∀ t ∈ ts, P.readableRec t = true ∧ t < P.types.size) → DataW.TrodAll enc P W 0 (fun _ => true) true ts vs ds ps → (∀ p ∈ ps, p.block < W.heap.size) → (∀ p ∈ ps, sp p.block = true) → DataW.TrodAll enc P W' 0 sp true ts vs ds ps
  | [], [], [], ps, _, h, _, _ => h
  | t :: ts, v :: vs, d :: ds, ps, hr, ⟨p, q, h1, h2, h3⟩, hlt, hs => by
    subst h3
    refine ⟨p, q, WideElems.Trod_stays hl (hr t (List.mem_cons_self ..)).1 (hr t (List.mem_cons_self ..)).2 h1 (fun x hx => hk.sameAt (hlt x (List.mem_append_left _ hx))) (fun x hx => hs x (List.mem_append_left _ hx)),
      trodAll_stays hl hk (fun t' ht => hr t' (List.mem_cons_of_mem _ ht)) h2 (fun x hx => hlt x (List.mem_append_right _ hx)) (fun x hx => hs x (List.mem_append_right _ hx)), rfl⟩
  | [], [], _ :: _, _, _, h, _, _ => h.elim
  | [], _ :: _, _, _, _, h, _, _ => h.elim
  | _ :: _, [], _, _, _, h, _, _ => h.elim
  | _ :: _, _ :: _, [], _, _, h, _, _ => h.elim
open Go.ChangeShapes in
/-- A law that answers true and leaves what it was handed. -/
theorem law_post {fn : Func} {s : ChangeSpec} {W' : World} {args : Array Value} {ds gs : List (DataW H)} {before : List MemPlace} {tb : TypeId}
    (hW : DataW.Whole enc P fn.params.toList s.vars false W args.toList ds gs before) (hv : s.vars = []) (hs : s.fn H ds = { results := [.lit (.bool true)], args := ds })
    (hrt : fn.resultTypes = #[tb]) (htb : P.underlying tb = some .bool) (hl : laidOutB P = true) (hp : ∀ t ∈ fn.params.toList, P.readableRec t = true ∧ t < P.types.size)
    (hk : Kept ⟨W, fun _ => False⟩ W') : s.post enc P fn false true false false W args (.bool true) W' := by
  have hW' := hW
  obtain ⟨p, q, hA, hV, rfl, hz, hn⟩ := hW
  rw [hv] at hV
  match gs, hV with
  | [], hV =>
    have hq : q = [] := hV
    subst hq
    have hlt : ∀ x ∈ p, x.block < W.heap.size := fun x hx => hW'.lt x (by simpa using hx)
    have hargs : ∀ sp : Nat → Bool, (∀ x ∈ p, sp x.block = true) → DataW.TrodAll enc P W' 0 sp true fn.params.toList args.toList ds p := fun sp h => trodAll_stays hl hk hp hA hlt h
    have hres : ∀ (b : Nat) (sp : Nat → Bool) (hd : Bool), DataW.TrodAll enc P W' b sp hd fn.resultTypes.toList ((Value.bool true).resultList fn.resultTypes.size) [.lit (.bool true)] [] := fun b sp hd => by
      rw [hrt]
      exact trodAll_cons_mk (RowKit.shut_bool htb true) trodAll_mk0
    have hok : ∀ (j : Nat) (t : TypeId) (r : Value), fn.resultTypes[j]? = some t → ((Value.bool true).resultList fn.resultTypes.size)[j]? = some r → Value.okWide P W' .any 0 t r := RowKit.ok_one hrt rfl (RowKit.okWide_bool_mk htb true)
    have hold : ∀ x ∈ p, (fun b => decide (b < W.heap.size)) x.block = true := fun x hx => by simpa using hlt x hx
    have hsn : s.fn H (ds ++ []) = { results := [.lit (.bool true)], args := ds } := by rw [List.append_nil]; exact hs
    refine ⟨ds, [], p ++ [], [], p, [], hW', ?_, ?_, ?_, World.keptBut_mono (fun x hx => ⟨by simpa using hx, ?_⟩) (hk.keptBut (· ∈ p)), fun _ => ?_⟩
    · rw [hsn]; exact hres _ _ _
    · rw [hsn]; exact hargs _ hold
    · rw [hsn, hv]; rfl
    · simp; exact hx
    · refine ⟨hok, _, [], ([] ++ p) ++ [], ⟨[] ++ p, [], trodAll_append (hargs _ (fun _ _ => rfl)) (hres _ _ _), (by rw [hv]; exact (rfl : DataW.TrodVars enc P W' (fun _ => true) [] [] [])), rfl, ?_, ?_⟩, ?_⟩
      · intro b off hp
        have hp' : MemPlace.cell b off ∈ p := by simpa using hp
        have h1 : b < W.heap.size := hlt _ hp'
        have h2 := hz b off (by simpa using hp')
        have h3 := hk.same h1
        simpa [World.frozen?, h3] using h2
      · intro ha; cases ha
      · intro x hx _
        simpa using hx
/-- The walk gives the contract. -/
theorem law_contract {α : Type} {fn : Func} {c : Code} {s : ChangeSpec} {f : FuncId} {tb : TypeId} {L : ArgL α} {R : α → Prop} {E : α → Env}
    (hT : ∀ (W : World) (base : Nat), OpTop enc P W base fn.params.toList L R) (hv : s.vars = []) (hs : ∀ x : List (DataW H), x.length = fn.params.size → s.fn H x = { results := [.lit (.bool true)], args := x })
    (hE : ∀ x, EnvOk P (E x)) (hf : P.funcs[f]? = some fn) (hb : fn.body = some c) (A : α → List An) (hN : ∀ x, (L.svs 0 x).length ≤ fn.ntmps)
    (hrt : fn.resultTypes = #[tb]) (htb : P.underlying tb = some .bool) (hl : laidOutB P = true) (hp : ∀ t ∈ fn.params.toList, P.readableRec t = true ∧ t < P.types.size)
    (h : ∀ x, R x → (∀ v ∈ L.svs 0 x, v.wf) → exCode (E x) fn.ntmps (A x) c (argFr 0 (L.svs 0 x)) (L.hp 0 x) L.tags (atEnd (E x) fn.results.toList fun r _ _ => eqv r (.bool true)))
    (base : Nat) (args : Array Value) (ds gs : List (DataW H)) (before : List MemPlace)
    (hval : ∀ (j : Nat) t v, fn.params[j]? = some t → args[j]? = some v → Value.okWide P W .any base t v)
    (hW : DataW.Whole enc P fn.params.toList s.vars false W args.toList ds gs before)
    (hlt : (DataW.weightsEach P (fn.params.toList ++ s.plain.varTypes P) (ds ++ gs)).all (· ≤ reachBytes) = true) :
    Calls P f args W fun e W' => ∃ v, e = .returned v ∧ s.post enc P fn false true false false W args v W' := by
  have hW' := hW
  obtain ⟨p, q, hA, hV, rfl, hz, hn⟩ := hW
  have hlen : ds.length = fn.params.size := by
    have : ∀ (ts : List TypeId) (vs : List Value) (ds : List (DataW H)) (ps : List MemPlace), DataW.TrodAll enc P W 0 (fun _ => true) true ts vs ds ps → ds.length = ts.length := by
      intro ts
      induction ts with
      | nil => intro vs ds ps h; match vs, ds, h with
        | [], [], _ => rfl
      | cons t ts ih => intro vs ds ps h; match vs, ds, h with
        | v :: vs, d :: ds, ⟨_, _, _, h2, _⟩ => simp [ih _ _ _ h2]
    simpa using this _ _ _ _ hA
  obtain ⟨x, hx, hg⟩ := (hT W base).op args.toList ds p hA (fun j t d ht hd n hn => by
    have h1 : (fn.params.toList ++ s.plain.varTypes P)[j]? = some t := by
      rw [List.getElem?_append_left (List.getElem?_eq_some_iff.1 ht).1]; exact ht
    have h2 : (ds ++ gs)[j]? = some d := by
      rw [List.getElem?_append_left (List.getElem?_eq_some_iff.1 hd).1]; exact hd
    have := List.all_eq_true.1 hlt n (DataW.weights_mem_each h1 h2 n hn)
    exact of_decide_eq_true this) (fun j t v ht hv => hval j t v (by simpa using ht) (by simpa using hv))
  obtain ⟨hd, hwf, hents⟩ := hg 0
  have hS : Sat ⟨W, fun _ => False⟩ (L.hp 0 x) W := by
    refine ⟨⟨rfl, rfl, rfl, Nat.le_refl _, fun _ _ _ => rfl⟩, fun e he => (hents e he).2, List.Pairwise.imp_of_mem (fun {e e'} he _ _ => ?_) (List.pairwise_of_forall (R := fun _ _ => True) (fun _ _ => trivial))⟩
    intro ho
    rw [(hents e he).1] at ho
    cases ho
  have key := calls_of_ex (hE x) hf hb (A x) (L.svs 0 x) hwf (hN x) (L.hp 0 x) L.tags _ (h x hx hwf) hS
  rw [hd, Array.toArray_toList] at key
  refine key.mono ?_
  rintro e W' ⟨r, H', nx', hr, hwr, rfl, hS'⟩
  have hq := eqv_sound _ _ hr
  refine ⟨.bool true, ?_, law_post hW' hv (hs ds hlen) hrt htb hl hp hS'.kept⟩
  rw [hq.den]
  rfl
end
end Eng
